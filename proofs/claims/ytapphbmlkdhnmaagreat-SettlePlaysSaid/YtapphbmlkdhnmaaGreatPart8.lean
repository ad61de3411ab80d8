/- Part 8 of the proof. -/
import Derived.Test.YtapphbmlkdhnmaaGreatPart6
import Derived.Test.YtapphbmlkdhnmaaGreatPart7
/- Shortest ways: the walk of the whole. -/
namespace Go.Proofs.YtapphbmlkdhnmaaGreat
open Go.GV
theorem ag_203_SeL : aggB Tryz.prog 203 = some false := by kernel_rfl
theorem ag_221_SeL : aggB Tryz.prog 221 = some false := by kernel_rfl
theorem ag_222_SeL : aggB Tryz.prog 222 = some false := by kernel_rfl
theorem ag_229_SeL : aggB Tryz.prog 229 = some true := by kernel_rfl
theorem ag_230_SeL : aggB Tryz.prog 230 = some false := by kernel_rfl
theorem ag_28_SeL : aggB Tryz.prog 28 = some true := by kernel_rfl
theorem ag_29_SeL : aggB Tryz.prog 29 = some false := by kernel_rfl
theorem ag_2_SeL : aggB Tryz.prog 2 = some false := by kernel_rfl
theorem ag_3_SeL : aggB Tryz.prog 3 = some false := by kernel_rfl
theorem by_229_SeL : tbytes Tryz.prog 229 = some 32 := by kernel_rfl
theorem by_230_SeL : tbytes Tryz.prog 230 = some 24 := by kernel_rfl
theorem by_2_SeL : tbytes Tryz.prog 2 = some 8 := by kernel_rfl
theorem by_3_SeL : tbytes Tryz.prog 3 = some 8 := by kernel_rfl
theorem ca_188_SeL : callable Tryz.prog 188 = true := by kernel_rfl
theorem ca_189_SeL : callable Tryz.prog 189 = true := by kernel_rfl
theorem ca_190_SeL : callable Tryz.prog 190 = true := by kernel_rfl
theorem ca_191_SeL : callable Tryz.prog 191 = true := by kernel_rfl
theorem ca_192_SeL : callable Tryz.prog 192 = true := by kernel_rfl
theorem ca_193_SeL : callable Tryz.prog 193 = true := by kernel_rfl
theorem ca_194_SeL : callable Tryz.prog 194 = true := by kernel_rfl
theorem ca_195_SeL : callable Tryz.prog 195 = true := by kernel_rfl
theorem ca_212_SeL : callable Tryz.prog 212 = true := by kernel_rfl
theorem el_203_SeL : elemT Tryz.prog 203 = some 3 := by kernel_rfl
theorem el_222_SeL : elemT Tryz.prog 222 = some 230 := by kernel_rfl
theorem el_230_SeL : elemT Tryz.prog 230 = some 229 := by kernel_rfl
theorem el_29_SeL : elemT Tryz.prog 29 = some 2 := by kernel_rfl
theorem fo_224_0_SeL : fieldO Tryz.prog 224 0 = some 0 := by kernel_rfl
theorem fo_224_1_SeL : fieldO Tryz.prog 224 1 = some 1 := by kernel_rfl
theorem fo_224_3_SeL : fieldO Tryz.prog 224 3 = some 3 := by kernel_rfl
theorem fo_229_1_SeL : fieldO Tryz.prog 229 1 = some 1 := by kernel_rfl
theorem fo_28_0_SeL : fieldO Tryz.prog 28 0 = some 0 := by kernel_rfl
theorem mixed_SeL : Tryz.prog.follows .mixedOrders = true := by kernel_rfl
theorem pl_224_SeL : placesB Tryz.prog 224 = some [(0, 1), (1, 1), (2, 1), (3, 1)] := by kernel_rfl
theorem sz_221_SeL : tsize Tryz.prog 221 = some 1 := by kernel_rfl
theorem sz_229_SeL : tsize Tryz.prog 229 = some 4 := by kernel_rfl
theorem sz_230_SeL : tsize Tryz.prog 230 = some 1 := by kernel_rfl
theorem sz_28_SeL : tsize Tryz.prog 28 = some 2 := by kernel_rfl
theorem sz_2_SeL : tsize Tryz.prog 2 = some 1 := by kernel_rfl
theorem sz_3_SeL : tsize Tryz.prog 3 = some 1 := by kernel_rfl
theorem zc_221_SeL : zcells Tryz.prog 221 = some ([.pointer none]) := by kernel_rfl
theorem zc_224_SeL : zcells Tryz.prog 224 = some ([.slice none 0 0, .slice none 0 0, .slice none 0 0, .slice none 0 0]) := by kernel_rfl
theorem zc_229_SeL : zcells Tryz.prog 229 = some ([.int .i64 0, .int .i64 0, .int .i64 0, .int .i64 0]) := by kernel_rfl
theorem zc_230_SeL : zcells Tryz.prog 230 = some ([.slice none 0 0]) := by kernel_rfl
theorem zc_2_SeL : zcells Tryz.prog 2 = some ([.int .i64 0]) := by kernel_rfl
theorem zc_3_SeL : zcells Tryz.prog 3 = some ([.int .i64 0]) := by kernel_rfl
attribute [local irreducible] Wops W Wq Wt

/-- The blocks that Ways makes, by the operation that makes them. -/
def wAnc : Nat → List Nat
  | 1 => [0] | 2 => [1, 0] | 4 => [3] | 5 => [4, 3] | 7 => [6] | 8 => [7, 6] | 10 => [9] | 11 => [10, 9]
  | 12 => [2, 1, 0, 5, 4, 3, 8, 7, 6, 11, 10, 9] | 13 => [12, 2, 1, 0, 5, 4, 3, 8, 7, 6, 11, 10, 9] | 15 => [14, 13, 12, 2, 1, 0, 5, 4, 3, 8, 7, 6, 11, 10, 9] | _ => []
def wSlot (i : Nat) : Nat := if i = 14 then 11 else 23 + i
def wVal (b4 n : Nat) (i : Nat) (B : Nat → Nat) : Value :=
  if i = 1 ∨ i = 4 ∨ i = 7 ∨ i = 10 then .int .i64 (n : Int) else if i = 2 ∨ i = 5 ∨ i = 8 ∨ i = 11 then .slice (some ⟨B i, 0, none⟩) n n
  else if i = 12 then .agg (FB (B 2) (B 5) (B 8) (B 11) n).toArray else if i = 13 ∨ i = 14 then ptr (B i) else .pointer (some ⟨b4, 0 + 0, none⟩)
def wObj (n : Nat) (i : Nat) : Option ((Nat → Nat) → Obj) :=
  if i = 2 then some fun _ => Bl 230 ((List.range n).map fun _ => .slice none 0 0) else if i = 5 then some fun _ => Bl 2 (tabV (fun _ => 0) n) else if i = 8 ∨ i = 11 then some fun _ => Bl 3 (tabV (fun _ => 0) n)
  else if i = 13 then some fun B => Bl 224 (FB (B 2) (B 5) (B 8) (B 11) n) else if i = 14 then some fun _ => Bl 221 [.pointer none] else none
theorem wSlot_inj : ∀ i j, i < 15 → j < 15 → wSlot i = wSlot j → i = j := fun i j hi hj h => by
  unfold wSlot at h
  split at h <;> split at h <;> omega
theorem wStab (b4 n : Nat) (i k b : Nat) (B : Nat → Nat) (hi : i < 15) (hki : k ≠ i) (hka : k ∉ wAnc i) : wVal b4 n i (updN B k b) = wVal b4 n i B ∧ ∀ ob, wObj n i = some ob → ob (updN B k b) = ob B := by
  have h0 : updN B k b i = B i := updN_ne (Ne.symm hki)
  have h1 : i = 12 ∨ i = 13 → updN B k b 2 = B 2 ∧ updN B k b 5 = B 5 ∧ updN B k b 8 = B 8 ∧ updN B k b 11 = B 11 := fun h => by
    have : k ≠ 2 ∧ k ≠ 5 ∧ k ≠ 8 ∧ k ≠ 11 := by
      rcases h with rfl | rfl <;> (simp [wAnc] at hka; omega)
    exact ⟨updN_ne (Ne.symm this.1), updN_ne (Ne.symm this.2.1), updN_ne (Ne.symm this.2.2.1), updN_ne (Ne.symm this.2.2.2)⟩
  constructor
  · unfold wVal
    by_cases e : i = 12
    · have := h1 (.inl e)
      subst e
      simp [this]
    · rw [h0]; simp [e]
  · intro ob hob
    unfold wObj at hob
    by_cases e : i = 13
    · have := h1 (.inr e)
      subst e
      simp at hob
      subst hob
      simp [this]
    · split at hob
      · cases hob; rfl
      · split at hob
        · cases hob; rfl
        · split at hob
          · cases hob; rfl
          · split at hob
            · cases hob; rfl
            · cases hob

theorem grE_ok {N : Int} {es : List Ed} (hr : rightN N es = true) : (grE N es).Ok := by
  have h : ∀ i, i < es.length → (es.getD i e0).f.toNat < N.toNat ∧ (es.getD i e0).t.toNat < N.toNat := fun i hi => by
    obtain ⟨e, he⟩ := get_some (l := es) (i := i) hi
    have := edge_of ((right_of hr).2.2.2.1 e (List.mem_of_getElem? he))
    rw [getD_of he]
    omega
  exact ⟨fun i hi => (h i hi).1, fun i hi => (h i hi).2⟩
theorem room_lt {cap x : Nat → Int} {k a : Nat} (h : a ∈ roomL cap x k) : a < 2 * k := List.mem_range.1 (List.mem_filter.1 h).1
def negF (i : Nat) (v : Nat) : Int := if v < i then -1 else 0
theorem negF_at (i : Nat) : negF (i + 1) i = -1 := if_pos (by omega)
theorem negF_ne {i q : Nat} (h : q ≠ i) : negF (i + 1) q = negF i q := by unfold negF; split <;> split <;> omega

theorem leaveM3 {P : Program} {e : Env} {w : World} {fn : Func} {R : Value → World → Prop} {t1 t2 t3 : Tmp} {v1 v2 v3 : Value} (hr : fn.results = #[.tmp t1, .tmp t2, .tmp t3]) (h1 : e.g t1 = v1) (h2 : e.g t2 = v2) (h3 : e.g t3 = v3) (h : Marks e.ds w (R (.tuple #[v1, v2, v3]))) : QretM P fn R .ret e w :=
  Marks.mono (fun w h tmps ht => by
    have q1 := (ht t1).trans h1
    have q2 := (ht t2).trans h2
    have q3 := (ht t3).trans h3
    rw [Array.getD_eq_getD_getElem?] at q1 q2 q3
    exact ⟨_, by simp [results, hr, q1, q2, q3], h⟩) h
theorem nd_app {L L' : List (Nat × Obj)} (h : (L ++ L').Pairwise (fun x y => x.1 ≠ y.1)) {x : Nat × Obj} (hx : x ∈ L) : x.1 ∉ L'.map (·.1) := fun hm => by
  obtain ⟨y, hy, he⟩ := List.mem_map.1 hm
  exact (List.pairwise_append.1 h).2.2 x hx y hy he.symm
theorem Rd.lt {α : Type} {w : World} {a : Option Addr} {s : Nat} {enc : α → List Value} {xs : List α} (R : Rd w a s enc xs) (h : xs ≠ []) (hs : ∀ x ∈ xs, ∃ v, (enc x)[0]? = some v) (h0 : 0 < s) : (adr a).block < w.heap.size := by
  obtain ⟨x, hx⟩ := get_some (l := xs) (i := 0) (List.length_pos_iff.2 h)
  obtain ⟨v, hv⟩ := hs x (List.mem_of_getElem? hx)
  exact World.block_lt_of_cell? w ⟨(adr a).block, (adr a).off + 0 * s + 0, none⟩ (R.cell 0 x hx 0 v hv h0)
theorem lb0_nil : (lb0 []).d = fun _ => -1 := by
  funext v
  show (if v ∈ ([] : List Nat) then (0 : Int) else -1) = -1
  exact if_neg List.not_mem_nil
structure WSt where
  s : Lb
  a : Option Addr
  hn : Nat
  c : Nat
  full : List Value
  L : List Tg
  D : Int

set_option maxRecDepth 20000 in
set_option maxHeartbeats 8000000 in
theorem ways_ok (N : Int) (a b p fr : Option Addr) (n c m d q r fc : Nat) (es : List Ed) (fl pot : List Int) (src : List Nat) (w : World) (R : Rd w a 4 encE es) (hn : es.length = n) (hN : I64 N) (Rf : Rd w b 1 I1 fl) (hm : fl.length = m) (hm2 : m ≤ 9223372036854775000) (Rp : Rd w p 1 I1 pot) (hq : pot.length = q) (hq2 : q ≤ 9223372036854775000) (Rs : Rd w fr 1 I1 (src.map fun v : Nat => (v : Int)))
    (hfit : fitsN N es fl pot = true) (hsrc : ∀ v ∈ src, v < N.toNat) (hnd : src.Nodup) (hs0 : 0 < src.length) :
    Ret Tryz.prog 167 #[netV N a n c, .slice b m d, .slice p q r, .slice fr src.length fc] w fun v w' => ∃ (od ob : Nat) (s : Lb) (by' : Nat → Int), v = .tuple #[.slice (some ⟨od, 0, none⟩) N.toNat N.toNat, .slice (some ⟨ob, 0, none⟩) N.toNat N.toNat, .int .i64 0] ∧ Done (arcL (grE N es) (capE es) (flE fl) (potE pot)) src N.toNat 2199023256552 s ∧ Bys (grE N es) (capE es) (flE fl) (potE pot) s (fun v => if by' v = -1 then none else some (by' v).toNat) ∧ (∀ v, by' v = -1 ∨ ∃ a : Nat, by' v = (a : Int) ∧ a < 2 * es.length) ∧ Ctx w [] w' [(od, Bl 2 (tabV s.d N.toNat)), (ob, Bl 3 (tabV by' N.toNat))] := by
  subst hn hm hq
  obtain ⟨w0, rfl⟩ : ∃ w0, w0 = w := ⟨_, rfl⟩
  have H := Ctx.start w0 []
  refine ret_of_WM (fn := Tryz.f167) Tryz.func167 rfl [netV N a es.length c, .slice b fl.length d, .slice p pot.length r, .slice fr src.length fc] rfl (by kernel_rfl) ?_
  refine W_rseq ?_
  refine op_box rfl [.int .i64 N, .slice a es.length c] (.agg _) rfl rfl H ?_
  rintro b4 w - H
  refine op_assign rfl (.slice _ _ _) rfl ?_
  refine op_assign rfl (.slice _ _ _) rfl ?_
  refine op_assign rfl (.int _ _) rfl ?_
  refine op_nil (at_then ?_)
  refine W_seq ?_
  refine W_rseq ?_
  refine op_ldbN rfl ag_28_SeL sz_28_SeL rfl H (by first | exact at0 | exact at1 | exact at2 | exact at3 | exact at4 | exact at5 | exact at6 | exact at7 | exact at8 | exact at9) rfl ?_
  refine op_move rfl (.slice _ _ _) rfl ?_
  refine op_move rfl (.slice _ _ _) rfl ?_
  refine op_call rfl ca_188_SeL (fits_ok N a b p es.length c fl.length d pot.length r es fl pot _ (R.ext0 H.ext) rfl hN (Rf.ext0 H.ext) rfl hm2 (Rp.ext0 H.ext) rfl hq2) rfl ?_
  rintro v w ⟨rfl, hx21⟩
  replace H := H.call hx21
  refine op_not rfl rfl ?_
  refine op_nil (at_then ?_)
  refine W_cond _ rfl ?_ ?_
  · intro h1
    replace h1 := nvar_t h1
    rw [hfit] at h1
    cases h1
  · intro h1
    replace h1 := nvar_f h1
    have hw : withinN N es fl = true := by unfold fitsN at hfit; rw [Bool.and_eq_true] at hfit; exact hfit.1
    obtain ⟨hN1, hN40, hn200, -⟩ := right_of (within_of hw).2.1
    obtain ⟨nn, rfl⟩ : ∃ nn : Nat, N = (nn : Int) := ⟨N.toNat, by omega⟩
    refine W_skip (at_then ?_)
    refine W_join 137430566912 (α := Nat × Nat × Nat × Nat × Nat × Nat) (fun z => [(11, ptr z.1)]) (fun z w' => Ctx w0 [] w' [(z.1, Bl 221 [ptr z.2.1]), (z.2.1, Bl 224 (FB z.2.2.1 z.2.2.2.1 z.2.2.2.2.1 z.2.2.2.2.2 nn)), (z.2.2.1, Bl 230 ((List.range nn).map fun _ => .slice none 0 0)), (z.2.2.2.1, Bl 2 (tabV (fun _ => 0) nn)), (z.2.2.2.2.1, Bl 3 (tabV (fun _ => 0) nn)), (z.2.2.2.2.2, Bl 3 (tabV (fun _ => 0) nn)), (b4, Bl 28 [.int .i64 (nn : Int), .slice a es.length c])]) rfl ?_ ?_
    · skip
      have hb4 := H.get at0
      refine W_allocs (n := 15) (anc := wAnc) wSlot (wVal b4 nn) (wObj nn) (show Tryz.prog.follows .mixedOrders = true by kernel_rfl) rfl (by kernel_rfl) ?_ wSlot_inj (wStab b4 nn) ?_ ?_
      · intro k hk
        have : k = 0 ∨ k = 1 ∨ k = 2 ∨ k = 3 ∨ k = 4 ∨ k = 5 ∨ k = 6 ∨ k = 7 ∨ k = 8 ∨ k = 9 ∨ k = 10 ∨ k = 11 ∨ k = 12 ∨ k = 13 ∨ k = 14 := by omega
        simp [wAnc]
        omega
      · intro i o e' w' B hi ho hold hsl hx hbl
        have h4 : e'.g 4 = ptr b4 := (hold 4 fun j hj h => by
          have h : (4 : Nat) = wSlot j := h
          unfold wSlot at h
          split at h <;> omega).trans rfl
        have hc4 : w'.heap[b4]? = some (Bl 28 [.int .i64 (nn : Int), .slice a es.length c]) := hx.to (by exact hb4) (by simp)
        have hcs : i = 0 ∨ i = 1 ∨ i = 2 ∨ i = 3 ∨ i = 4 ∨ i = 5 ∨ i = 6 ∨ i = 7 ∨ i = 8 ∨ i = 9 ∨ i = 10 ∨ i = 11 ∨ i = 12 ∨ i = 13 ∨ i = 14 := by omega
        have hpure : ∀ {v : Value}, wObj nn i = none → wVal b4 nn i (updN B i 0) = v → AQ wSlot (wVal b4 nn) (wObj nn) i e' w' B (put e' (some (wSlot i)) v) w' := fun h1 h2 => ⟨0, fun ob h => (by rw [h1] at h; cases h), .refl _ _, by rw [h2]⟩
        rcases hcs with rfl | rfl | rfl | rfl | rfl | rfl | rfl | rfl | rfl | rfl | rfl | rfl | rfl | rfl | rfl
        · cases Option.some.inj ho
          exact op_fieldAddr rfl (by kernel_rfl) h4 (op_nil (hpure rfl rfl))
        · cases Option.some.inj ho
          exact op_ld rfl ag_3_SeL (hsl 0 (by simp [wAnc])) (by rw [cell_bl hc4]; rfl) (op_nil (hpure rfl rfl))
        · cases Option.some.inj ho
          refine op_make rfl el_222_SeL sz_230_SeL by_230_SeL zc_230_SeL (hsl 1 (by simp [wAnc])) (hsl 1 (by simp [wAnc])) (by omega) (by omega) (by omega) (by omega) (Ctx.start w' []) fun b w2 hb H => ?_
          have hbb := H.get at0
          rw [show ((nn : Int)).toNat = nn from rfl, rep_range] at hbb
          exact op_nil ⟨b, fun ob h => (by obtain rfl := Option.some.inj h; exact ⟨by omega, hbb⟩), H.ext, rfl⟩
        · cases Option.some.inj ho
          exact op_fieldAddr rfl (by kernel_rfl) h4 (op_nil (hpure rfl rfl))
        · cases Option.some.inj ho
          exact op_ld rfl ag_3_SeL (hsl 3 (by simp [wAnc])) (by rw [cell_bl hc4]; rfl) (op_nil (hpure rfl rfl))
        · cases Option.some.inj ho
          refine op_make rfl el_29_SeL sz_2_SeL by_2_SeL zc_2_SeL (hsl 4 (by simp [wAnc])) (hsl 4 (by simp [wAnc])) (by omega) (by omega) (by omega) (by omega) (Ctx.start w' []) fun b w2 hb H => ?_
          have hbb := H.get at0
          rw [show ((nn : Int)).toNat = nn from rfl, rep_range] at hbb
          exact op_nil ⟨b, fun ob h => (by obtain rfl := Option.some.inj h; exact ⟨by omega, hbb⟩), H.ext, rfl⟩
        · cases Option.some.inj ho
          exact op_fieldAddr rfl (by kernel_rfl) h4 (op_nil (hpure rfl rfl))
        · cases Option.some.inj ho
          exact op_ld rfl ag_3_SeL (hsl 6 (by simp [wAnc])) (by rw [cell_bl hc4]; rfl) (op_nil (hpure rfl rfl))
        · cases Option.some.inj ho
          refine op_make rfl el_203_SeL sz_3_SeL by_3_SeL zc_3_SeL (hsl 7 (by simp [wAnc])) (hsl 7 (by simp [wAnc])) (by omega) (by omega) (by omega) (by omega) (Ctx.start w' []) fun b w2 hb H => ?_
          have hbb := H.get at0
          rw [show ((nn : Int)).toNat = nn from rfl, rep_range] at hbb
          exact op_nil ⟨b, fun ob h => (by obtain rfl := Option.some.inj h; exact ⟨by omega, hbb⟩), H.ext, rfl⟩
        · cases Option.some.inj ho
          exact op_fieldAddr rfl (by kernel_rfl) h4 (op_nil (hpure rfl rfl))
        · cases Option.some.inj ho
          exact op_ld rfl ag_3_SeL (hsl 9 (by simp [wAnc])) (by rw [cell_bl hc4]; rfl) (op_nil (hpure rfl rfl))
        · cases Option.some.inj ho
          refine op_make rfl el_203_SeL sz_3_SeL by_3_SeL zc_3_SeL (hsl 10 (by simp [wAnc])) (hsl 10 (by simp [wAnc])) (by omega) (by omega) (by omega) (by omega) (Ctx.start w' []) fun b w2 hb H => ?_
          have hbb := H.get at0
          rw [show ((nn : Int)).toNat = nn from rfl, rep_range] at hbb
          exact op_nil ⟨b, fun ob h => (by obtain rfl := Option.some.inj h; exact ⟨by omega, hbb⟩), H.ext, rfl⟩
        · cases Option.some.inj ho
          refine op_buildS (FB (B 2) (B 5) (B 8) (B 11) nn) rfl pl_224_SeL zc_224_SeL ?_ (op_nil (hpure rfl rfl))
          show Instr.fill _ _ [(0, e'.g 25), (1, e'.g 28), (2, e'.g 31), (3, e'.g 34)] = _
          rw [show e'.g 25 = .slice (some ⟨B 2, 0, none⟩) nn nn from hsl 2 (by simp [wAnc]), show e'.g 28 = .slice (some ⟨B 5, 0, none⟩) nn nn from hsl 5 (by simp [wAnc]), show e'.g 31 = .slice (some ⟨B 8, 0, none⟩) nn nn from hsl 8 (by simp [wAnc]), show e'.g 34 = .slice (some ⟨B 11, 0, none⟩) nn nn from hsl 11 (by simp [wAnc])]
          rfl
        · cases Option.some.inj ho
          refine op_box rfl (FB (B 2) (B 5) (B 8) (B 11) nn) (.agg _) (hsl 12 (by simp [wAnc])) rfl (Ctx.start w' []) fun b w2 hb H => ?_
          exact op_nil ⟨b, fun ob h => (by obtain rfl := Option.some.inj h; exact ⟨by omega, H.get at0⟩), H.ext, rfl⟩
        · cases Option.some.inj ho
          refine op_alloc rfl zc_221_SeL (Ctx.start w' []) fun b w2 hb H => ?_
          exact op_nil ⟨b, fun ob h => (by obtain rfl := Option.some.inj h; exact ⟨by omega, H.get at0⟩), H.ext, rfl⟩
      · intro o e' w' B ho A
        have hl4 := heap_lt hb4
        have hs0 := H.size
        have h9 : w.drew.heap.size = w.heap.size := rfl
        have n14_13 : B 14 ≠ B 13 := A.ne 14 13 (by omega) (by omega) (by omega) trivial trivial (by simp [wObj]) (by simp [wObj])
        have n14_2 : B 14 ≠ B 2 := A.ne 14 2 (by omega) (by omega) (by omega) trivial trivial (by simp [wObj]) (by simp [wObj])
        have n14_5 : B 14 ≠ B 5 := A.ne 14 5 (by omega) (by omega) (by omega) trivial trivial (by simp [wObj]) (by simp [wObj])
        have n14_8 : B 14 ≠ B 8 := A.ne 14 8 (by omega) (by omega) (by omega) trivial trivial (by simp [wObj]) (by simp [wObj])
        have n14_11 : B 14 ≠ B 11 := A.ne 14 11 (by omega) (by omega) (by omega) trivial trivial (by simp [wObj]) (by simp [wObj])
        have n13_2 : B 13 ≠ B 2 := A.ne 13 2 (by omega) (by omega) (by omega) trivial trivial (by simp [wObj]) (by simp [wObj])
        have n13_5 : B 13 ≠ B 5 := A.ne 13 5 (by omega) (by omega) (by omega) trivial trivial (by simp [wObj]) (by simp [wObj])
        have n13_8 : B 13 ≠ B 8 := A.ne 13 8 (by omega) (by omega) (by omega) trivial trivial (by simp [wObj]) (by simp [wObj])
        have n13_11 : B 13 ≠ B 11 := A.ne 13 11 (by omega) (by omega) (by omega) trivial trivial (by simp [wObj]) (by simp [wObj])
        have n2_5 : B 2 ≠ B 5 := A.ne 2 5 (by omega) (by omega) (by omega) trivial trivial (by simp [wObj]) (by simp [wObj])
        have n2_8 : B 2 ≠ B 8 := A.ne 2 8 (by omega) (by omega) (by omega) trivial trivial (by simp [wObj]) (by simp [wObj])
        have n2_11 : B 2 ≠ B 11 := A.ne 2 11 (by omega) (by omega) (by omega) trivial trivial (by simp [wObj]) (by simp [wObj])
        have n5_8 : B 5 ≠ B 8 := A.ne 5 8 (by omega) (by omega) (by omega) trivial trivial (by simp [wObj]) (by simp [wObj])
        have n5_11 : B 5 ≠ B 11 := A.ne 5 11 (by omega) (by omega) (by omega) trivial trivial (by simp [wObj]) (by simp [wObj])
        have n8_11 : B 8 ≠ B 11 := A.ne 8 11 (by omega) (by omega) (by omega) trivial trivial (by simp [wObj]) (by simp [wObj])
        have k14 := A.blk 14 _ (by omega) trivial (show wObj nn 14 = some _ from rfl)
        have m14 : B 14 ≠ b4 := by have := k14.2; have h9 : w.drew.heap.size = w.heap.size := rfl; omega
        have k13 := A.blk 13 _ (by omega) trivial (show wObj nn 13 = some _ from rfl)
        have m13 : B 13 ≠ b4 := by have := k13.2; have h9 : w.drew.heap.size = w.heap.size := rfl; omega
        have k2 := A.blk 2 _ (by omega) trivial (show wObj nn 2 = some _ from rfl)
        have m2 : B 2 ≠ b4 := by have := k2.2; have h9 : w.drew.heap.size = w.heap.size := rfl; omega
        have k5 := A.blk 5 _ (by omega) trivial (show wObj nn 5 = some _ from rfl)
        have m5 : B 5 ≠ b4 := by have := k5.2; have h9 : w.drew.heap.size = w.heap.size := rfl; omega
        have k8 := A.blk 8 _ (by omega) trivial (show wObj nn 8 = some _ from rfl)
        have m8 : B 8 ≠ b4 := by have := k8.2; have h9 : w.drew.heap.size = w.heap.size := rfl; omega
        have k11 := A.blk 11 _ (by omega) trivial (show wObj nn 11 = some _ from rfl)
        have m11 : B 11 ≠ b4 := by have := k11.2; have h9 : w.drew.heap.size = w.heap.size := rfl; omega
        have Hc : Ctx w0 [] w' [(B 14, Bl 221 [.pointer none]), (B 13, Bl 224 (FB (B 2) (B 5) (B 8) (B 11) nn)), (B 2, Bl 230 ((List.range nn).map fun _ => .slice none 0 0)), (B 5, Bl 2 (tabV (fun _ => 0) nn)), (B 8, Bl 3 (tabV (fun _ => 0) nn)), (B 11, Bl 3 (tabV (fun _ => 0) nn)), (b4, Bl 28 [.int .i64 (nn : Int), .slice a es.length c])] := by
          refine ⟨(H.ext.trans (Ext.drew [] _)).trans A.ext, fun x hx => ?_, ?_, fun x hx => .inr ?_⟩
          · simp only [List.mem_cons, List.not_mem_nil, or_false] at hx
            rcases hx with rfl | rfl | rfl | rfl | rfl | rfl | rfl
            · exact k14.1
            · exact k13.1
            · exact k2.1
            · exact k5.1
            · exact k8.1
            · exact k11.1
            · exact A.ext.to hb4 (by simp)
          · simp only [List.pairwise_cons, List.mem_cons, List.not_mem_nil, or_false, forall_eq_or_imp, forall_eq, List.Pairwise.nil, false_imp_iff, implies_true, and_true]
            exact ⟨⟨n14_13, n14_2, n14_5, n14_8, n14_11, m14⟩, ⟨n13_2, n13_5, n13_8, n13_11, m13⟩, ⟨n2_5, n2_8, n2_11, m2⟩, ⟨n5_8, n5_11, m5⟩, ⟨n8_11, m8⟩, m11⟩
          · simp only [List.mem_cons, List.not_mem_nil, or_false] at hx
            have hb40 := (H.own _ (List.mem_cons_self ..)).elim (fun h => by cases h) id
            rcases hx with rfl | rfl | rfl | rfl | rfl | rfl | rfl
            · have := k14.2; dsimp only; omega
            · have := k13.2; dsimp only; omega
            · have := k2.2; dsimp only; omega
            · have := k5.2; dsimp only; omega
            · have := k8.2; dsimp only; omega
            · have := k11.2; dsimp only; omega
            · exact hb40
        cases Option.some.inj ho
        exact op_stb (ptr (B 13)) rfl sz_221_SeL (A.slot 14 (by omega) trivial) (A.slot 13 (by omega) trivial) rfl Hc at0 (by decide) fun w2 H2 => op_nil ⟨(B 14, B 13, B 2, B 5, B 8, B 11), A.ds, ⟨A.slot 14 (by omega) trivial, trivial⟩, H2⟩
    · rintro ⟨b11, b36, oo, od, oh, ob⟩ j w H; dsimp only at H; dsimp only
      refine W_seq ?_
      refine W_rseq ?_
      refine op_fieldAddr rfl fo_28_0_SeL rfl ?_
      refine op_ldb rfl ag_3_SeL rfl H (by first | exact at0 | exact at1 | exact at2 | exact at3 | exact at4 | exact at5 | exact at6 | exact at7 | exact at8 | exact at9) rfl ?_
      refine op_move rfl (.int _ _) rfl ?_
      refine op_nil (at_then ?_)
      refine W_block ?_
      refine W_loop 36028247263154176 (α := Nat) (fun i => [(39, .int .i64 (i : Int))]) (fun i w' => i ≤ nn ∧ Ctx w0 [] w' [(b11, Bl 221 [ptr b36]), (b36, Bl 224 (FB oo od oh ob nn)), (oo, Bl 230 ((List.range nn).map fun _ => .slice none 0 0)), (od, Bl 2 (tabV (negF i) nn)), (oh, Bl 3 (tabV (fun _ => 0) nn)), (ob, Bl 3 (tabV (negF i) nn)), (b4, Bl 28 [.int .i64 (nn : Int), .slice a es.length c])]) (fun i => nn - i) 0 rfl ?_ ?_ ?_
      · exact ⟨rfl, trivial⟩
      · exact ⟨Nat.zero_le _, H⟩
      · rintro i j2 w ⟨hi, H⟩
        refine W_rseq ?_
        refine op_lss rfl rfl rfl ?_
        refine op_nil (at_then ?_)
        refine W_seq ?_
        refine W_cond _ rfl ?_ ?_
        · intro h2
          replace h2 := dec_t h2
          refine W_skip (at_then ?_)
          refine W_seq ?_
          refine W_block ?_
          refine W_rseq ?_
          refine op_move rfl (.int _ _) rfl ?_
          refine op_assign rfl (.int _ _) rfl ?_
          refine op_nil (at_then ?_)
          refine W_segz [([0, 1, 2, 3, 4, 5, 6, 7, 8, 9, 10], 11), ([12], 13)] (fun z => z.heap[b11]? = some (Bl 221 [ptr b36]) ∧ z.heap[b36]? = some (Bl 224 (FB oo od oh ob nn))) [13] mixed_SeL (by kernel_rfl) (⟨H.drew.get at0, H.drew.get at1⟩) ?_
          refine seg_cons rfl rfl ?_
          first | refine t_ldb rfl ag_221_SeL rfl True.intro (by first | exact at0 | exact at1 | exact at2 | exact at3 | exact at4 | exact at5 | exact at6 | exact at7 | exact at8 | exact at9) rfl ?_ | refine t_ld rfl ag_221_SeL rfl (fun _ hx => (by rw [cell_bl hx.1]; rfl)) ?_ | refine t_ld rfl ag_221_SeL rfl (fun _ hx => (by rw [cell_bl hx.2]; rfl)) ?_
          refine t_nilCheck rfl rfl ?_
          refine t_fieldAddr rfl fo_224_1_SeL rfl ?_
          first | refine t_ldb rfl ag_29_SeL rfl True.intro (by first | exact at0 | exact at1 | exact at2 | exact at3 | exact at4 | exact at5 | exact at6 | exact at7 | exact at8 | exact at9) rfl ?_ | refine t_ld rfl ag_29_SeL rfl (fun _ hx => (by rw [cell_bl hx.1]; rfl)) ?_ | refine t_ld rfl ag_29_SeL rfl (fun _ hx => (by rw [cell_bl hx.2]; rfl)) ?_
          refine t_move rfl (.int _ _) rfl ?_
          first | refine t_ldb rfl ag_221_SeL rfl True.intro (by first | exact at0 | exact at1 | exact at2 | exact at3 | exact at4 | exact at5 | exact at6 | exact at7 | exact at8 | exact at9) rfl ?_ | refine t_ld rfl ag_221_SeL rfl (fun _ hx => (by rw [cell_bl hx.1]; rfl)) ?_ | refine t_ld rfl ag_221_SeL rfl (fun _ hx => (by rw [cell_bl hx.2]; rfl)) ?_
          refine t_nilCheck rfl rfl ?_
          refine t_fieldAddr rfl fo_224_3_SeL rfl ?_
          first | refine t_ldb rfl ag_203_SeL rfl True.intro (by first | exact at0 | exact at1 | exact at2 | exact at3 | exact at4 | exact at5 | exact at6 | exact at7 | exact at8 | exact at9) rfl ?_ | refine t_ld rfl ag_203_SeL rfl (fun _ hx => (by rw [cell_bl hx.1]; rfl)) ?_ | refine t_ld rfl ag_203_SeL rfl (fun _ hx => (by rw [cell_bl hx.2]; rfl)) ?_
          refine t_move rfl (.int _ _) rfl ?_
          refine t_indexAddr rfl el_29_SeL sz_2_SeL rfl rfl (by omega) (by omega) ?_
          refine t_nil ?_
          replace H := H.drew
          refine op_str i (fun q => .int .i64 (negF (i + 1) q)) (.int _ _) rfl sz_2_SeL rfl rfl rfl H at3 (by simp) (by omega) (by rw [negF_at]) (fun q _ hq => by rw [negF_ne hq]) ?_
          rintro w H
          refine op_nil (at_seg (⟨H.get at0, H.get at1⟩) ?_)
          refine seg_cons rfl rfl ?_
          refine t_indexAddr rfl el_203_SeL sz_3_SeL rfl rfl (by omega) (by omega) ?_
          refine t_nil ?_
          refine op_str i (fun q => .int .i64 (negF (i + 1) q)) (.int _ _) rfl sz_3_SeL rfl rfl rfl H at5 (by simp) (by omega) (by rw [negF_at]) (fun q _ hq => by rw [negF_ne hq]) ?_
          rintro w H
          refine op_nil (at_segz rfl ?_)
          refine seg_nil ?_
          refine at_block (at_then ?_)
          refine W_region ?_
          refine op_add_i64 rfl rfl rfl (by omega) (by omega) ?_
          refine op_move rfl (.int _ _) rfl ?_
          refine op_nil (at_then ?_)
          exact ⟨i + 1, rfl, ⟨rfl, trivial⟩, ⟨by omega, H⟩, by omega⟩
        · intro h2
          replace h2 := dec_f h2
          obtain rfl : nn = i := by omega
          have htab : tabV (negF nn) nn = tabV (fun _ => -1) nn := List.map_congr_left fun v hv => by
            show Value.int _ (negF nn v) = Value.int _ (-1)
            unfold negF; rw [if_pos (List.mem_range.1 hv)]
          rw [htab] at H
          have hr := (within_of hw).2.1
          have hp : potN (nn : Int) pot = true := by unfold fitsN at hfit; rw [Bool.and_eq_true, Bool.and_eq_true] at hfit; exact hfit.2.1
          obtain ⟨g, hg⟩ : ∃ g, g = grE (nn : Int) es := ⟨_, rfl⟩
          obtain ⟨pf, hpf⟩ : ∃ pf, pf = potE pot := ⟨_, rfl⟩
          obtain ⟨l, hl⟩ : ∃ l, l = roomL (capE es) (flE fl) es.length := ⟨_, rfl⟩
          have hgo : g.Ok := by rw [hg]; exact grE_ok hr
          have hlen400 : l.length ≤ 400 := by
            rw [hl]; unfold roomL
            have := List.length_filter_le (fun a => decide (0 < roomA (capE es) (flE fl) a)) (List.range (2 * es.length))
            rw [List.length_range] at this
            omega
          refine W_exit (exit_then (exit_then (exit_here (at_then ?_))))
          refine W_seq ?_
          refine W_rseq ?_
          refine op_ldbN rfl ag_28_SeL sz_28_SeL rfl H (by first | exact at0 | exact at1 | exact at2 | exact at3 | exact at4 | exact at5 | exact at6 | exact at7 | exact at8 | exact at9) rfl ?_
          refine op_move rfl (.slice _ _ _) rfl ?_
          refine op_move rfl (.slice _ _ _) rfl ?_
          have hb7 := H
          refine op_call rfl ca_189_SeL (arcs_ok (nn : Int) a b p es.length c fl.length d pot.length r _) rfl ?_
          rintro v w ⟨x1, x2, x3, rfl, hb1, hb2, hb3, hs1, hs2, hs3, hx58⟩
          replace H := H.call hx58
          refine op_nil (at_then ?_)
          refine W_block ?_
          obtain ⟨ws, rfl⟩ : ∃ z, z = w := ⟨_, rfl⟩
          have hk1 := heap_lt hb1
          have hk2 := heap_lt hb2
          have hk3 := heap_lt hb3
          have hs07 := H.size
          have hoo := H.get at2
          have HL := (H.perm (List.perm_middle (l₁ := [_, _]) (l₂ := [_, _, _, _]))).tail
          have hoolt := heap_lt hoo
          have hoo7 := heap_lt (hb7.get at2)
          have hooge : w0.heap.size ≤ oo := (H.own (oo, _) (List.mem_of_getElem? (i := 2) rfl)).elim (fun h => by cases h) id
          obtain ⟨OL, hOL⟩ : ∃ OL : List (Nat × Obj), OL = [(b11, Bl 221 [ptr b36]), (b36, Bl 224 (FB oo od oh ob nn)), (od, Bl 2 (tabV (fun _ => -1) nn)), (oh, Bl 3 (tabV (fun _ => 0) nn)), (ob, Bl 3 (tabV (fun _ => -1) nn)), (b4, Bl 28 [.int .i64 (nn : Int), .slice a es.length c])] := ⟨_, rfl⟩
          have HL' : Ctx w0 [] ws OL := by rw [hOL]; exact HL
          have hOLlt : ∀ y ∈ OL, y.1 < ws.heap.size := fun y hy => heap_lt (HL'.blk y hy)
          have hOLoo : ∀ y ∈ OL, y.1 ≠ oo := fun y hy => by
            have h9 := H.perm (List.perm_middle (l₁ := [_, _]) (l₂ := [_, _, _, _]))
            rw [hOL] at hy
            exact fun h => (List.pairwise_cons.1 h9.nd).1 y hy h.symm
          obtain ⟨hD, hhD⟩ : ∃ hD, hD = ws.heap.size := ⟨_, rfl⟩
          have hM : ∀ {w' : World} {st : Nat → Slo} {sel : Nat → List Nat}, OutR w0 w' oo nn g pf st sel (fun x => x < ws.heap.size + 2) → ∀ x, outM oo nn st x → x < w'.heap.size ∧ x ≠ ws.heap.size ∧ x ≠ ws.heap.size + 1 := fun {w' st sel} RO x hx => by
            rcases hx with rfl | ⟨u, hu, y, hy, rfl⟩
            · exact ⟨heap_lt RO.tbl, by omega, by omega⟩
            · have h1 := RO.blk u hu y hy
              have h2 := heap_lt h1.1
              have h3 : ¬ y.1 < ws.heap.size + 2 := h1.2.2.1
              exact ⟨h2, by omega, by omega⟩
          refine W_range (gf := 212) rfl ca_212_SeL (arcs1_ok (b1 := x1) (b2 := x2) (b3 := x3) (a := a) (b := b) (p := p) (c := c) (d := d) (r := r) hw hp) (by kernel_rfl) (by kernel_rfl) (fun v hv => by obtain ⟨p, -, rfl⟩ := List.mem_map.1 hv; rfl)
            (fun i M w' => ∃ st, M = outM oo nn st ∧ OutR w0 w' oo nn g pf st (fun u => selL g (l.take i) u) (fun x => x < ws.heap.size + 2) ∧ (∀ u, u < nn → (st u).n ≤ i) ∧ Ctx w0 [] w' OL ∧ w'.heap[x1]? = some (Bl 28 [.int .i64 (nn : Int), .slice a es.length c]) ∧ w'.heap[x2]? = some (Bl 29 [.slice p pot.length r]) ∧ w'.heap[x3]? = some (Bl 29 [.slice b fl.length d]))
            (fun _ => False) (by simp)
            (fun w2 hx2 _ => ⟨_, fun _ => ⟨none, 0, 0, []⟩, rfl, ⟨hx2.to hoo (by simp), fun u _ => OS.nil, (fun u _ y hy => by cases hy), (fun u v _ _ _ y hy => by cases hy)⟩, fun u _ => Nat.le_refl _, HL'.call hx2, hx2.to hb1 (by simp), hx2.to hb2 (by simp), hx2.to hb3 (by simp)⟩)
            (fun i M w' w'' hJ hx => ?_) (fun _ _ h _ => h) (fun i M w' hJ => ?_) ?_ ?_ (fun _ h _ => h.elim)
          · obtain ⟨st, h1, RO, hni, HJ, g1, g2, g3⟩ := hJ
            refine ⟨st, h1, RO.keep hx fun x hx hm => ?_, hni, HJ.step hx (fun y hy => ?_) fun z hz => .inr ?_, hx.to g1 ?_, hx.to g2 ?_, hx.to g3 ?_⟩
            · have := hM RO x hm
              simp only [List.mem_cons, List.not_mem_nil, or_false] at hx
              omega
            · have := hOLlt y hy
              simp only [List.mem_cons, List.not_mem_nil, or_false]
              omega
            · simp only [List.mem_cons, List.not_mem_nil, or_false] at hz
              omega
            · simp only [List.mem_cons, List.not_mem_nil, or_false]; omega
            · simp only [List.mem_cons, List.not_mem_nil, or_false]; omega
            · simp only [List.mem_cons, List.not_mem_nil, or_false]; omega
          · obtain ⟨st, rfl, RO, hni, HJ, g1, g2, g3⟩ := hJ
            exact ⟨hM RO, g1, g2, g3, R.ext0 HJ.ext, Rf.ext0 HJ.ext, Rp.ext0 HJ.ext⟩
          · rintro i v _ w hxv ⟨st, rfl, RO, hni, HJ, g1, g2, g3⟩ hsz
            unfold arcsV at hxv
            rw [List.getElem?_map, ← hl, ← hg, ← hpf] at hxv
            obtain ⟨y, hy, rfl⟩ := Option.map_eq_some_iff.1 hxv
            have hil := get_lt hy
            have hyl := List.mem_of_getElem? hy
            have hyu : g.u y < nn := by
              have h1 := hgo.u (a := y) (by rw [hl] at hyl; have := room_lt hyl; rw [hg]; exact this)
              rw [hg] at h1 ⊢
              exact h1
            obtain ⟨w1, rfl⟩ : ∃ z, z = w := ⟨_, rfl⟩
            have H := Ctx.start w1 []
            refine W_region ?_
            refine op_alloc rfl zc_229_SeL H ?_
            rintro b13 w - H
            refine op_stb0 rfl sz_229_SeL rfl rfl rfl (by first | exact rowA_one _ _ _ | simp [oneCell]) H (by first | exact at0 | exact at1 | exact at2 | exact at3 | exact at4 | exact at5 | exact at6 | exact at7 | exact at8 | exact at9) rfl ?_
            rintro w H
            refine op_nil ?_
            refine ⟨H.ext, fun wB hxB => ?_⟩
            have hb13 := (H.own _ (List.mem_cons_self ..)).elim (fun h => by cases h) id
            have k13 := hxB.to (H.get at0) (by rw [List.mem_singleton]; omega)
            have ROB := (RO.keep H.ext (fun x hx => by cases hx)).keep hxB fun x hx hm => (hM RO x hm).2.2 (List.mem_singleton.1 hx)
            have HB := (HJ.call H.ext).step hxB (fun y hy => by have := hOLlt y hy; rw [List.mem_singleton]; omega) (fun z hz => .inr (by rw [List.mem_singleton.1 hz]; omega))
            have e1 := hxB.to (H.ext.to g1 (by simp)) (by rw [List.mem_singleton]; omega)
            have e2 := hxB.to (H.ext.to g2 (by simp)) (by rw [List.mem_singleton]; omega)
            have e3 := hxB.to (H.ext.to g3 (by simp)) (by rw [List.mem_singleton]; omega)
            have hsB := hxB.size
            have hsH := H.ext.size
            have HB' := HB
            rw [hOL] at HB'
            have k11 := HB'.get at0
            have k36 := HB'.get at1
            obtain ⟨u, hu⟩ : ∃ u, u = g.u y := ⟨_, rfl⟩
            rw [← hu] at hyu
            have hnot : ∀ x, x ≠ oo → (x < ws.heap.size + 2 ∨ w1.heap.size ≤ x) → x ∉ oo :: (sloE (st u)).map (·.1) := fun x h1 h2 h => by
              rcases List.mem_cons.1 h with h | h
              · exact h1 h
              · obtain ⟨z, hz, he⟩ := List.mem_map.1 h
                have q1 := RO.blk u hyu z hz
                have q2 := heap_lt q1.1
                have q3 : ¬ z.1 < ws.heap.size + 2 := q1.2.2.1
                omega
            have hO11 := hOLoo (b11, _) (by rw [hOL]; exact List.mem_of_getElem? (i := 0) rfl)
            have hO36 := hOLoo (b36, _) (by rw [hOL]; exact List.mem_of_getElem? (i := 1) rfl)
            have hl11 := hOLlt (b11, _) (by rw [hOL]; exact List.mem_of_getElem? (i := 0) rfl)
            have hl36 := hOLlt (b36, _) (by rw [hOL]; exact List.mem_of_getElem? (i := 1) rfl)
            have hoo1 := heap_lt RO.tbl
            dsimp only at hO11 hO36 hl11 hl36
            have n11 := hnot b11 hO11 (.inl (by omega))
            have n36 := hnot b36 hO36 (.inl (by omega))
            have n13 := hnot b13 (by omega) (.inr hb13)
            have hgu : (outT nn st)[u]? = some (.slice (st u).a (st u).n (st u).c) := range_get hyu
            have hnu := hni u hyu
            obtain ⟨w2, rfl⟩ : ∃ z, z = wB := ⟨_, rfl⟩
            replace H := ROB.ctx hyu
            have hrow : rowA g pf y = [.int .i64 (y : Int), .int .i64 (u : Int), .int .i64 (g.v y : Int), .int .i64 (g.len pf y)] := by unfold rowA; rw [← hu]
            refine W_block ?_
            refine W_segz [([0, 1, 2, 3, 4, 5, 6, 7, 8, 9, 10, 11, 12, 13, 14], 15), ([], 16), ([17], 18)] (fun z => z.heap[b11]? = some (Bl 221 [ptr b36]) ∧ z.heap[b36]? = some (Bl 224 (FB oo od oh ob nn)) ∧ z.heap[b13]? = some (Bl 229 (rowA g pf y)) ∧ z.heap[oo]? = some (Bl 230 (outT nn st))) [18] mixed_SeL (by kernel_rfl) (⟨H.drew.ext.to k11 n11, H.drew.ext.to k36 n36, H.drew.ext.to k13 n13, H.drew.get at0⟩) ?_
            refine seg_cons rfl rfl ?_
            first | refine t_ldb rfl ag_221_SeL rfl True.intro (by first | exact at0 | exact at1 | exact at2 | exact at3 | exact at4 | exact at5 | exact at6 | exact at7 | exact at8 | exact at9) rfl ?_ | refine t_ld rfl ag_221_SeL rfl (fun _ hx => (by rw [cell_bl hx.1]; rfl)) ?_ | refine t_ld rfl ag_221_SeL rfl (fun _ hx => (by rw [cell_bl hx.2]; rfl)) ?_ | refine t_ld rfl ag_221_SeL rfl (fun _ hx => (by rw [cell_bl hx.1]; rfl)) ?_ | refine t_ld rfl ag_221_SeL rfl (fun _ hx => (by rw [cell_bl hx.2.1]; rfl)) ?_ | refine t_ld rfl ag_221_SeL rfl (fun _ hx => (by rw [cell_bl hx.2.2.1, hrow]; rfl)) ?_ | refine t_ld rfl ag_221_SeL rfl (fun _ hx => (by rw [cell_bl hx.2.2.2]; simpa using hgu)) ?_
            refine t_nilCheck rfl rfl ?_
            refine t_fieldAddr rfl fo_224_0_SeL rfl ?_
            first | refine t_ldb rfl ag_222_SeL rfl True.intro (by first | exact at0 | exact at1 | exact at2 | exact at3 | exact at4 | exact at5 | exact at6 | exact at7 | exact at8 | exact at9) rfl ?_ | refine t_ld rfl ag_222_SeL rfl (fun _ hx => (by rw [cell_bl hx.1]; rfl)) ?_ | refine t_ld rfl ag_222_SeL rfl (fun _ hx => (by rw [cell_bl hx.2]; rfl)) ?_ | refine t_ld rfl ag_222_SeL rfl (fun _ hx => (by rw [cell_bl hx.1]; rfl)) ?_ | refine t_ld rfl ag_222_SeL rfl (fun _ hx => (by rw [cell_bl hx.2.1]; rfl)) ?_ | refine t_ld rfl ag_222_SeL rfl (fun _ hx => (by rw [cell_bl hx.2.2.1, hrow]; rfl)) ?_ | refine t_ld rfl ag_222_SeL rfl (fun _ hx => (by rw [cell_bl hx.2.2.2]; simpa using hgu)) ?_
            refine t_fieldAddr rfl fo_229_1_SeL rfl ?_
            first | refine t_ldb rfl ag_3_SeL rfl True.intro (by first | exact at0 | exact at1 | exact at2 | exact at3 | exact at4 | exact at5 | exact at6 | exact at7 | exact at8 | exact at9) rfl ?_ | refine t_ld rfl ag_3_SeL rfl (fun _ hx => (by rw [cell_bl hx.1]; rfl)) ?_ | refine t_ld rfl ag_3_SeL rfl (fun _ hx => (by rw [cell_bl hx.2]; rfl)) ?_ | refine t_ld rfl ag_3_SeL rfl (fun _ hx => (by rw [cell_bl hx.1]; rfl)) ?_ | refine t_ld rfl ag_3_SeL rfl (fun _ hx => (by rw [cell_bl hx.2.1]; rfl)) ?_ | refine t_ld rfl ag_3_SeL rfl (fun _ hx => (by rw [cell_bl hx.2.2.1, hrow]; rfl)) ?_ | refine t_ld rfl ag_3_SeL rfl (fun _ hx => (by rw [cell_bl hx.2.2.2]; simpa using hgu)) ?_
            first | refine t_ldb rfl ag_221_SeL rfl True.intro (by first | exact at0 | exact at1 | exact at2 | exact at3 | exact at4 | exact at5 | exact at6 | exact at7 | exact at8 | exact at9) rfl ?_ | refine t_ld rfl ag_221_SeL rfl (fun _ hx => (by rw [cell_bl hx.1]; rfl)) ?_ | refine t_ld rfl ag_221_SeL rfl (fun _ hx => (by rw [cell_bl hx.2]; rfl)) ?_ | refine t_ld rfl ag_221_SeL rfl (fun _ hx => (by rw [cell_bl hx.1]; rfl)) ?_ | refine t_ld rfl ag_221_SeL rfl (fun _ hx => (by rw [cell_bl hx.2.1]; rfl)) ?_ | refine t_ld rfl ag_221_SeL rfl (fun _ hx => (by rw [cell_bl hx.2.2.1, hrow]; rfl)) ?_ | refine t_ld rfl ag_221_SeL rfl (fun _ hx => (by rw [cell_bl hx.2.2.2]; simpa using hgu)) ?_
            refine t_nilCheck rfl rfl ?_
            refine t_fieldAddr rfl fo_224_0_SeL rfl ?_
            first | refine t_ldb rfl ag_222_SeL rfl True.intro (by first | exact at0 | exact at1 | exact at2 | exact at3 | exact at4 | exact at5 | exact at6 | exact at7 | exact at8 | exact at9) rfl ?_ | refine t_ld rfl ag_222_SeL rfl (fun _ hx => (by rw [cell_bl hx.1]; rfl)) ?_ | refine t_ld rfl ag_222_SeL rfl (fun _ hx => (by rw [cell_bl hx.2]; rfl)) ?_ | refine t_ld rfl ag_222_SeL rfl (fun _ hx => (by rw [cell_bl hx.1]; rfl)) ?_ | refine t_ld rfl ag_222_SeL rfl (fun _ hx => (by rw [cell_bl hx.2.1]; rfl)) ?_ | refine t_ld rfl ag_222_SeL rfl (fun _ hx => (by rw [cell_bl hx.2.2.1, hrow]; rfl)) ?_ | refine t_ld rfl ag_222_SeL rfl (fun _ hx => (by rw [cell_bl hx.2.2.2]; simpa using hgu)) ?_
            refine t_fieldAddr rfl fo_229_1_SeL rfl ?_
            first | refine t_ldb rfl ag_3_SeL rfl True.intro (by first | exact at0 | exact at1 | exact at2 | exact at3 | exact at4 | exact at5 | exact at6 | exact at7 | exact at8 | exact at9) rfl ?_ | refine t_ld rfl ag_3_SeL rfl (fun _ hx => (by rw [cell_bl hx.1]; rfl)) ?_ | refine t_ld rfl ag_3_SeL rfl (fun _ hx => (by rw [cell_bl hx.2]; rfl)) ?_ | refine t_ld rfl ag_3_SeL rfl (fun _ hx => (by rw [cell_bl hx.1]; rfl)) ?_ | refine t_ld rfl ag_3_SeL rfl (fun _ hx => (by rw [cell_bl hx.2.1]; rfl)) ?_ | refine t_ld rfl ag_3_SeL rfl (fun _ hx => (by rw [cell_bl hx.2.2.1, hrow]; rfl)) ?_ | refine t_ld rfl ag_3_SeL rfl (fun _ hx => (by rw [cell_bl hx.2.2.2]; simpa using hgu)) ?_
            refine t_indexAddr rfl el_222_SeL sz_230_SeL rfl rfl (by omega) (by omega) ?_
            first | refine t_ldb rfl ag_230_SeL rfl True.intro (by first | exact at0 | exact at1 | exact at2 | exact at3 | exact at4 | exact at5 | exact at6 | exact at7 | exact at8 | exact at9) rfl ?_ | refine t_ld rfl ag_230_SeL rfl (fun _ hx => (by rw [cell_bl hx.1]; rfl)) ?_ | refine t_ld rfl ag_230_SeL rfl (fun _ hx => (by rw [cell_bl hx.2]; rfl)) ?_ | refine t_ld rfl ag_230_SeL rfl (fun _ hx => (by rw [cell_bl hx.1]; rfl)) ?_ | refine t_ld rfl ag_230_SeL rfl (fun _ hx => (by rw [cell_bl hx.2.1]; rfl)) ?_ | refine t_ld rfl ag_230_SeL rfl (fun _ hx => (by rw [cell_bl hx.2.2.1, hrow]; rfl)) ?_ | refine t_ld rfl ag_230_SeL rfl (fun _ hx => (by rw [cell_bl hx.2.2.2]; simpa using hgu)) ?_
            first | refine t_ldN _ rfl ag_229_SeL sz_229_SeL rfl rfl (fun _ hx => (cells_bl hx.2.2.1)) ?_ | refine t_ldbN rfl ag_229_SeL sz_229_SeL rfl True.intro (by first | exact at0 | exact at1 | exact at2 | exact at3 | exact at4 | exact at5 | exact at6 | exact at7 | exact at8 | exact at9) rfl ?_
            refine t_nil ?_
            replace H := H.drew
            refine op_build1 (rowA g pf y) (.agg _) rfl el_230_SeL sz_229_SeL zc_229_SeL rfl (by decide) (by decide) rfl rfl rfl H ?_
            rintro b75 w - H
            refine op_nil (at_seg (⟨H.ext.to k11 n11, H.ext.to k36 n36, H.ext.to k13 n13, H.get at1⟩) ?_)
            refine seg_cons rfl rfl ?_
            refine t_nil ?_
            refine op_appendb (L := [(oo, _)]) rfl el_230_SeL el_230_SeL sz_229_SeL by_229_SeL zc_229_SeL rfl (by decide) rfl rfl H (ROB.os u hyu) rfl (rowA_one g pf y) (by omega) ?_
            rintro a76 c76 f76 w H O76
            refine op_nil (at_seg (⟨H.ext.to k11 n11, H.ext.to k36 n36, H.ext.to k13 n13, H.get at0⟩) ?_)
            refine seg_cons rfl rfl ?_
            refine t_indexAddr rfl el_222_SeL sz_230_SeL rfl rfl (by omega) (by omega) ?_
            refine t_nil ?_
            refine op_str u (fun q => sloV (stS st u ⟨a76, (st u).n + 1, c76, f76⟩ q)) (.slice _ _ _) rfl sz_230_SeL rfl rfl rfl H at0 (by simp) hyu (by rw [stS_same]; rfl) (fun q _ hq => by rw [stS_ne hq]) ?_
            rintro w H
            refine op_nil (at_segz rfl ?_)
            refine seg_nil ?_
            refine at_block ?_
            have hss := selL_snoc (g := g) hy
            rw [← hu] at hss
            have hO' : OS a76 ((st u).n + 1) c76 4 f76 ((selL g (l.take (i + 1)) u).flatMap (rowA g pf)) := by rw [hss.1, List.flatMap_append]; simpa using O76
            have h02 : w0.heap.size ≤ w2.heap.size := by omega
            obtain ⟨RO', hnewM⟩ := ROB.step hyu (s := ⟨a76, (st u).n + 1, c76, f76⟩) (sel' := fun q => selL g (l.take (i + 1)) q) (fun x hx => by have hx : x < ws.heap.size + 2 := hx; omega) h02 H hO' (fun q hq => hss.2 q hq)
            have hidM : ∀ x ∈ oo :: (sloE (st u)).map (·.1), outM oo nn st x := fun x hx => by
              rcases List.mem_cons.1 hx with h | h
              · exact .inl h
              · obtain ⟨z, hz, he⟩ := List.mem_map.1 h
                exact .inr ⟨u, hyu, z, hz, he⟩
            refine ⟨_, ⟨stS st u ⟨a76, (st u).n + 1, c76, f76⟩, rfl, RO', fun q hq => ?_, HB.step H.ext (fun z hz => hnot z.1 (hOLoo z hz) (.inl (by have := hOLlt z hz; omega))) (fun z hz => .inr ?_), H.ext.to e1 (hnot x1 (by omega) (.inl (by omega))), H.ext.to e2 (hnot x2 (by omega) (.inl (by omega))), H.ext.to e3 (hnot x3 (by omega) (.inl (by omega)))⟩, fun x hx => ?_, _, H.ext, fun x hx => .inl (hidM x hx)⟩
            · by_cases e : q = u
              · subst e; rw [stS_same]; dsimp only; omega
              · rw [stS_ne e]; have := hni q hq; omega
            · rcases List.mem_cons.1 hz with h | h
              · rw [h]; exact hooge
              · obtain ⟨t, ht, he⟩ := List.mem_map.1 h
                have := (RO.blk u hyu t ht).2.1
                omega
            · exact (hnewM x hx).imp id fun h => by omega
          · rintro M w ⟨st, rfl, RO, hni, HJ, -, -, -⟩ hD
            have htk : l.take (arcsV (grE (nn : Int) es) (potE pot) (roomL (capE es) (flE fl) es.length)).length = l := List.take_of_length_le (by unfold arcsV; rw [List.length_map, ← hl]; exact Nat.le_refl _)
            simp only [htk] at RO
            clear hni htk
            obtain ⟨w5, rfl⟩ : ∃ z, z = w := ⟨_, rfl⟩
            have h59 : ∀ x, outM oo nn st x → x < w5.heap.size := fun x hx => (hM RO x hx).1
            have h5D := heap_lt hD
            obtain ⟨ids, hids⟩ : ∃ ids, ids = OL.map (·.1) := ⟨_, rfl⟩
            have hidM : ∀ x ∈ ids, ¬ outM oo nn st x := fun x hx hm => by
              rw [hids] at hx
              obtain ⟨y, hy, rfl⟩ := List.mem_map.1 hx
              have a1 := hOLlt y hy
              have a2 := hOLoo y hy
              rcases hm with h | ⟨u, hu, z, hz, he⟩
              · exact a2 h
              · have h3 := (RO.blk u hu z hz).2.2.1
                apply h3
                show z.1 < _
                omega
            have hidD : ws.heap.size ∉ ids := fun hx => by
              rw [hids] at hx
              obtain ⟨y, hy, he⟩ := List.mem_map.1 hx
              have a1 := hOLlt y hy
              omega
            have hB : ∀ {w' : World} {L' : List (Nat × Obj)}, Ctx w5 ids w' L' → Ctx w0 [] w' L' := fun h => (Ctx.back (L1 := OL) (L2 := []) HJ.app_nil (by rw [← hids]; exact h)).nil_app
            have hnotL : ∀ x, outM oo nn st x → ∀ {w' : World} {L' : List (Nat × Obj)}, Ctx w5 ids w' L' → x ∉ L'.map (·.1) := fun x hx {w' L'} h hm => by
              obtain ⟨y, hy, he⟩ := List.mem_map.1 hm
              rcases h.own y hy with h1 | h1
              · rw [he] at h1; exact hidM x h1 hx
              · have := h59 x hx; omega
            have H : Ctx w5 ids w5 OL := by rw [hids]; exact HJ.app_nil.lend
            rw [hOL] at H
            clear hids
            obtain ⟨A, hA⟩ : ∃ A, A = arcL g (capE es) (flE fl) pf := ⟨_, rfl⟩
            have hF := fine_of_fits hfit
            rw [← hg, ← hpf] at hF
            have hlb : ∀ a, g.len pf a ≤ 2199023256552 ∧ -2199023256552 ≤ g.len pf a := fun a => by
              rw [hg, hpf]; exact len_bnd hr (pot_bnd hp) a
            have hgN : g.N = nn := by rw [hg]; rfl
            have hgE : g.E = es.length := by rw [hg]; rfl
            have hArcs : Arcs A nn 2199023256552 := by rw [hA, ← hgN]; exact hF.arcs hgo fun a _ => (hlb a).1
            have hlE : l = roomL (capE es) (flE fl) g.E := by rw [hgE]; exact hl
            have hAf : ∀ u, A.filter (fun a => decide (a.1 = u)) = (selL g l u).map (arOf g pf) := fun u => by rw [hA, hlE]; exact arcL_filter g _ _ pf u
            have hsl : ∀ u, (selL g l u).length ≤ 400 := fun u => Nat.le_trans (List.length_filter_le _ _) hlen400
            have hdeg : ∀ u, degA A u ≤ 400 := fun u => by unfold degA; rw [hAf, List.length_map]; have := hsl u; omega
            have hsn : src.length ≤ nn := pigeonN nn src hnd hsrc
            have hfr : src ≠ [] → (adr fr).block < w0.heap.size := fun h => Rd.lt Rs (by simpa using h) (fun x _ => ⟨_, rfl⟩) (by decide)
            have hselx : ∀ u, u < nn → ∀ x ∈ selL g l u, g.u x = u ∧ g.v x < nn ∧ x < 2 * es.length := fun u _ x hx => by
              obtain ⟨h1, h2⟩ := List.mem_filter.1 hx
              have h3 : x < 2 * es.length := by rw [hl] at h1; exact room_lt h1
              have h4 := hgo.v (a := x) (by rw [hgE]; exact h3)
              exact ⟨of_decide_eq_true h2, by rw [← hgN]; exact h4, h3⟩
            have hstn : ∀ u, u < nn → (st u).n = (selL g l u).length := fun u hu => (RO.os u hu).numN (fun _ _ => rfl) (by decide)
            have hget : ∀ u, u < nn → (outT nn st)[u]? = some (.slice (st u).a (selL g l u).length (st u).c) := fun u hu => by
              have := range_get (f := fun u => sloV (st u)) hu
              rw [← hstn u hu]; exact this
            have hrow : ∀ {w' : World} {S : List Nat}, Ext S w5 w' → (∀ x ∈ S, x ∈ ids) → ∀ u, u < nn → Rd w' (st u).a 4 (rowA g pf) (selL g l u) := fun {w' S} hx hS u hu => by
              have RO' := RO.keep hx fun x hx' => hidM x (hS x hx')
              exact (RO'.os u hu).rd (t := 229) (fun y hy => (RO'.blk u hu y hy).1) (fun _ _ => rfl) (by decide)
            have hrowM : ∀ u, u < nn → selL g l u ≠ [] → outM oo nn st (adr (st u).a).block := fun u hu hne => by
              obtain ⟨b, hb⟩ := (RO.os u hu).form (by rw [hstn u hu]; exact List.length_pos_iff.2 hne)
              exact Or.inr ⟨u, hu, (b, Bl 229 (st u).full), by show _ ∈ ent (st u).a _ _; rw [mem_ent hb]; exact List.mem_cons_self .., by rw [hb]; rfl⟩
            have hooM : outM oo nn st oo := .inl rfl
            refine at_block (at_then ?_)
            refine W_rseq ?_
            refine op_call rfl ca_190_SeL (hnew_ok _) rfl ?_
            rintro v w ⟨bh, rfl, hbh, hbhv, hx78⟩
            replace H := H.callAdd hx78 hbhv hbh
            have Hp0 := H.perm (List.perm_middle (l₁ := [_, _, _]) (l₂ := [_, _, _]))
            have hlb0 := lb0_nil
            have Hp : Ctx w5 ids w (NBl od nn (lb0 []) bh none 0 0 [] ++ [(b11, Bl 221 [ptr b36]), (b36, Bl 224 (FB oo od oh ob nn)), (oh, Bl 3 (tabV (fun _ => 0) nn)), (ob, Bl 3 (tabV (fun _ => -1) nn)), (b4, Bl 28 [.int .i64 (nn : Int), .slice a es.length c])]) := by show Ctx w5 ids w ((od, Bl 2 (tabV (lb0 []).d nn)) :: _); rw [hlb0]; exact Hp0
            refine op_assign rfl (.pointer _) rfl ?_
            refine op_nil (at_then ?_)
            refine W_seq ?_
            refine W_rseq ?_
            first | refine op_ldb rfl ag_221_SeL rfl H (by first | exact at0 | exact at1 | exact at2 | exact at3 | exact at4 | exact at5 | exact at6 | exact at7 | exact at8 | exact at9) rfl ?_ | refine op_ld rfl ag_221_SeL rfl ((by rw [cell_bl hx.1]; rfl)) ?_ | refine op_ld rfl ag_221_SeL rfl ((by rw [cell_bl hx.2]; rfl)) ?_ | refine op_ld rfl ag_221_SeL rfl ((by rw [cell_bl hx.1]; rfl)) ?_ | refine op_ld rfl ag_221_SeL rfl ((by rw [cell_bl hx.2.1]; rfl)) ?_ | refine op_ld rfl ag_221_SeL rfl ((by rw [cell_bl hx.2.2.1, hrow]; rfl)) ?_ | refine op_ld rfl ag_221_SeL rfl ((by rw [cell_bl hx.2.2.2]; simpa using hgu)) ?_
            refine op_move rfl (.pointer _) rfl ?_
            refine op_move rfl (.slice _ _ _) rfl ?_
            refine op_call rfl ca_191_SeL (begin_ok (Ctx.lend Hp) OS.nil (Hp.get at3) (nd_app (Hp.comm).nd (x := (b36, _)) (List.mem_of_getElem? (i := 1) rfl)) ((Rs.ext0 (hB Hp).ext)) (fun hne hm => by have h1 := hfr hne; have h2 := (hB Hp.left).own; obtain ⟨y, hy, he⟩ := List.mem_map.1 hm; rcases h2 y hy with h | h; cases h; omega) (by omega) hsrc hnd (by omega)) rfl ?_
            rintro v w ⟨rfl, a0, c0, f0, L0, hp0, hH0, O0, H2⟩
            replace H := Ctx.comm (L := NBl od nn (lb0 src) bh a0 src.length c0 f0) (Ctx.back Hp H2)
            refine op_not rfl rfl ?_
            refine op_nil (at_then ?_)
            refine W_cond _ rfl ?_ ?_
            · intro h4
              replace h4 := nvar_t h4
              have := of_decide_eq_false h4
              omega
            · intro h4
              replace h4 := nvar_f h4
              refine W_skip (at_then ?_)
              refine W_seq ?_
              refine W_block ?_
              have hn0 : src.length = L0.length := O0.numN (fun _ _ => rfl) (by decide)
              have hps := psi_start (n := nn) (A := A) (src := src) (d := 400) (by omega) fun v _ => hdeg v
              have hps2 : (nn : Int) * (400 * ((nn : Int) + 1)) ≤ 40 * (400 * 41) := Int.mul_le_mul (by omega) (by omega) (by omega) (by omega)
              refine W_loop 81129619071793567861722210074624 (α := WSt) (fun _ => []) (fun t w' => MI A src nn 2199023256552 t.D t.s t.L ∧ HeapL t.L ∧ OS t.a t.hn t.c 2 t.full (t.L.flatMap encT) ∧ psi nn A t.D t.s t.L ≤ 1000000 ∧ Ctx w5 ids w' ([(b11, Bl 221 [ptr b36]), (b36, Bl 224 (FB oo od oh ob nn)), (ob, Bl 3 (tabV (fun _ => -1) nn)), (b4, Bl 28 [.int .i64 (nn : Int), .slice a es.length c])] ++ GB od oh nn t.s bh t.a t.hn t.c t.full)) (fun t => (psi nn A t.D t.s t.L).toNat) ⟨lb0 src, a0, src.length, c0, f0, L0, -1⟩ rfl ?_ ?_ ?_
              · exact trivial
              · refine ⟨(MI.start hsrc hnd).perm hp0.symm, hH0, O0, ?_, ?_⟩
                · dsimp only
                  rw [psi_perm hp0]
                  omega
                · exact H.perm (List.Perm.cons _ (List.Perm.cons _ (List.perm_middle (l₁ := [_, _, _])).symm))
              · rintro ⟨s, a', hn, c', full, L, D⟩ j w ⟨MM, hH, O, hpsi, H⟩; dsimp only at MM hH O hpsi H; dsimp only
                have hnl : hn = L.length := O.numN (fun _ _ => rfl) (by decide)
                have hpl := psi_len (n := nn) (A := A) (D := D) (s := s) (hp := L)
                refine W_seq ?_
                refine W_rseq ?_
                refine op_move rfl (.pointer _) rfl ?_
                refine op_call rfl ca_192_SeL (hlen_ok (H.get (k := 6) rfl)) rfl ?_
                rintro v w ⟨rfl, rfl⟩
                refine op_gtr rfl rfl rfl ?_
                refine op_nil (at_then ?_)
                refine W_cond _ rfl ?_ ?_
                · intro h5
                  replace h5 := dec_t h5
                  obtain ⟨⟨d, v⟩, L1, rfl⟩ : ∃ t L1, L = t :: L1 := by
                    cases L with
                    | nil => simp at hnl; omega
                    | cons t L1 => exact ⟨t, L1, rfl⟩
                  obtain ⟨q, rfl⟩ := O.form (by omega)
                  have hmin : ∀ x ∈ L1, d ≤ x.1 := fun x hx => by
                    obtain ⟨i, hi⟩ := List.getElem?_of_mem hx
                    have h := hH.root (r := (d, v)) rfl (i + 1) x (by simpa using hi)
                    rcases h with h | h
                    · exact Int.le_of_lt h
                    · exact Int.le_of_eq h.1
                  have hvn := MM.top hArcs
                  dsimp only at hvn
                  obtain ⟨dv, hdv⟩ : ∃ dv, dv = s.d v := ⟨_, rfl⟩
                  have hgd : (tab s.d nn)[v]? = some dv := by rw [tab_get hvn, hdv]
                  refine W_skip (at_then ?_)
                  refine W_block ?_
                  refine W_rseq ?_
                  refine op_move rfl (.pointer _) rfl ?_
                  have Hc := Ctx.comm (L := [_, _, _, _, _, _]) (L' := HB bh (some ⟨q, 0, none⟩) hn c' full) H
                  refine op_call rfl ca_193_SeL (pop_ok (Ctx.lend (L1 := HB bh (some ⟨q, 0, none⟩) hn c' full) (L2 := [_, _, _, _, _, _]) Hc) O (by omega) hH) rfl ?_
                  rintro rv w ⟨rfl, f2, L2, hp2, hH2, O2, H2⟩
                  replace H := Ctx.comm (L := HB bh (some ⟨q, 0, none⟩) L1.length c' f2) (L' := [_, _, _, _, _, _]) (Ctx.back (L1 := HB bh (some ⟨q, 0, none⟩) hn c' full) (L2 := [_, _, _, _, _, _]) Hc H2)
                  refine op_move rfl (.tuple _) rfl ?_
                  refine op_extract rfl rfl rfl ?_
                  refine op_extract rfl rfl rfl ?_
                  refine op_extract rfl rfl rfl ?_
                  refine op_assign rfl (.int _ _) rfl ?_
                  refine op_assign rfl (.int _ _) rfl ?_
                  refine op_assign rfl (.int _ _) rfl ?_
                  refine op_nil (at_then ?_)
                  have MM2 : MI A src nn 2199023256552 D s ((d, v) :: L2) := MM.perm ((hp2.cons _).symm)
                  have hmin2 : ∀ x ∈ L2, d ≤ x.1 := fun x hx => hmin x (hp2.mem_iff.1 hx)
                  have hps3 : psi nn A D s ((d, v) :: L2) = psi nn A D s ((d, v) :: L1) := psi_perm (hp2.cons _)
                  refine W_rseq ?_
                  refine op_move rfl (.int _ _) rfl ?_
                  first | refine op_ldb rfl ag_221_SeL rfl H (by first | exact at0 | exact at1 | exact at2 | exact at3 | exact at4 | exact at5 | exact at6 | exact at7 | exact at8 | exact at9) rfl ?_ | refine op_ld rfl ag_221_SeL rfl ((by rw [cell_bl hx.1]; rfl)) ?_ | refine op_ld rfl ag_221_SeL rfl ((by rw [cell_bl hx.2]; rfl)) ?_ | refine op_ld rfl ag_221_SeL rfl ((by rw [cell_bl hx.1]; rfl)) ?_ | refine op_ld rfl ag_221_SeL rfl ((by rw [cell_bl hx.2.1]; rfl)) ?_ | refine op_ld rfl ag_221_SeL rfl ((by rw [cell_bl hx.2.2.1, hrow]; rfl)) ?_ | refine op_ld rfl ag_221_SeL rfl ((by rw [cell_bl hx.2.2.2]; simpa using hgu)) ?_ | refine op_ld rfl ag_221_SeL rfl (((tab_rd (H.get at4)).fld hgd rfl (j := 0) rfl)) ?_
                  refine op_nilCheck rfl rfl ?_
                  refine op_fieldAddr rfl fo_224_1_SeL rfl ?_
                  first | refine op_ldb rfl ag_29_SeL rfl H (by first | exact at0 | exact at1 | exact at2 | exact at3 | exact at4 | exact at5 | exact at6 | exact at7 | exact at8 | exact at9) rfl ?_ | refine op_ld rfl ag_29_SeL rfl ((by rw [cell_bl hx.1]; rfl)) ?_ | refine op_ld rfl ag_29_SeL rfl ((by rw [cell_bl hx.2]; rfl)) ?_ | refine op_ld rfl ag_29_SeL rfl ((by rw [cell_bl hx.1]; rfl)) ?_ | refine op_ld rfl ag_29_SeL rfl ((by rw [cell_bl hx.2.1]; rfl)) ?_ | refine op_ld rfl ag_29_SeL rfl ((by rw [cell_bl hx.2.2.1, hrow]; rfl)) ?_ | refine op_ld rfl ag_29_SeL rfl ((by rw [cell_bl hx.2.2.2]; simpa using hgu)) ?_ | refine op_ld rfl ag_29_SeL rfl (((tab_rd (H.get at4)).fld hgd rfl (j := 0) rfl)) ?_
                  refine op_move rfl (.int _ _) rfl ?_
                  refine op_indexAddr rfl el_29_SeL sz_2_SeL rfl rfl (by omega) (by omega) ?_
                  first | refine op_ldb rfl ag_2_SeL rfl H (by first | exact at0 | exact at1 | exact at2 | exact at3 | exact at4 | exact at5 | exact at6 | exact at7 | exact at8 | exact at9) rfl ?_ | refine op_ld rfl ag_2_SeL rfl ((by rw [cell_bl hx.1]; rfl)) ?_ | refine op_ld rfl ag_2_SeL rfl ((by rw [cell_bl hx.2]; rfl)) ?_ | refine op_ld rfl ag_2_SeL rfl ((by rw [cell_bl hx.1]; rfl)) ?_ | refine op_ld rfl ag_2_SeL rfl ((by rw [cell_bl hx.2.1]; rfl)) ?_ | refine op_ld rfl ag_2_SeL rfl ((by rw [cell_bl hx.2.2.1, hrow]; rfl)) ?_ | refine op_ld rfl ag_2_SeL rfl ((by rw [cell_bl hx.2.2.2]; simpa using hgu)) ?_ | refine op_ld rfl ag_2_SeL rfl (((tab_rd (H.get at4)).fld hgd rfl (j := 0) rfl)) ?_
                  refine op_eql rfl rfl rfl ?_
                  refine op_nil (at_then ?_)
                  refine W_cond _ rfl ?_ ?_
                  · intro h6
                    replace h6 := dec_t h6
                    have he : (d, v).1 = s.d (d, v).2 := by dsimp only; rw [← hdv]; exact h6
                    obtain ⟨La, hLa⟩ : ∃ La, La = selL g l v := ⟨_, rfl⟩
                    have hll : La.length ≤ 400 := by rw [hLa]; exact hsl v
                    have hfold : ∀ k, (goP g pf s L2 (La.take k)) = (((La.take k).map (arOf g pf)).foldl relP (s, L2)) := fun k => rfl
                    have hgoes : ∀ k, DJ A src nn 2199023256552 (goP g pf s L2 (La.take k)).1 := fun k => by
                      rw [hfold]
                      exact (MM2.go hArcs (by omega) (by omega) hmin2 he (l := (La.take k).map (arOf g pf)) (l1 := (La.drop k).map (arOf g pf)) (by rw [← List.map_append, List.take_append_drop, hLa]; exact hAf v)).1
                    obtain ⟨M3, hps4⟩ := (MM2.go hArcs (by omega) (by omega) hmin2 he (l := La.map (arOf g pf)) (l1 := []) (by rw [List.append_nil, hLa]; exact hAf v)).2 rfl
                    have RO1 := RO.keep H.ext hidM
                    have RX := hrow H.ext (fun _ h => h) v hvn
                    have hgv := hget v hvn
                    rw [← hLa] at RX hgv
                    refine W_region ?_
                    refine op_ldb rfl ag_221_SeL rfl H (by first | exact at0 | exact at1 | exact at2 | exact at3 | exact at4 | exact at5 | exact at6 | exact at7 | exact at8 | exact at9) rfl ?_
                    refine op_move rfl (.pointer _) rfl ?_
                    refine op_move rfl (.int _ _) rfl ?_
                    have Hc := Ctx.comm (L := [_, _, _, _]) (L' := GB od oh nn s bh (some ⟨q, 0, none⟩) L1.length c' f2) H
                    refine op_call rfl ca_194_SeL (goes_ok (Ctx.lend (L1 := GB od oh nn s bh (some ⟨q, 0, none⟩) L1.length c' f2) (L2 := [_, _, _, _]) Hc) O2 hH2 (H.get at1) (nd_app (L := [_, _, _, _]) H.nd (x := (b36, _)) (List.mem_of_getElem? (i := 1) rfl)) RO1.tbl (hnotL oo hooM (Ctx.left (L' := [_, _, _, _]) Hc)) hgv hvn RX (fun hne => hnotL _ (hrowM v hvn (hLa ▸ hne)) (Ctx.left (L' := [_, _, _, _]) Hc)) (by omega) (fun x hx => by rw [hLa] at hx; have h7 := hselx v hvn x hx; have h8 := hlb x; exact ⟨h7.1, h7.2.1, by omega, by omega⟩) (by simp only [List.length_cons] at hnl hpl; omega) (fun k x _ => by have h7 := (hgoes k).dist (by omega) (by omega) x; exact ⟨h7.1, by omega, by omega⟩)) rfl ?_
                    rintro rv w ⟨rfl, a3, hn3, c3, f3, L3, hp3, hH3, O3, H3⟩
                    replace H := Ctx.comm (L := GB od oh nn (goP g pf s L2 La).1 bh a3 hn3 c3 f3) (L' := [_, _, _, _]) (Ctx.back (L1 := GB od oh nn s bh (some ⟨q, 0, none⟩) L1.length c' f2) (L2 := [_, _, _, _]) Hc H3)
                    refine op_nil (at_block (at_then ?_))
                    have hps7 : psi nn A d (goP g pf s L2 La).1 (goP g pf s L2 La).2 + 1 ≤ psi nn A D s ((d, v) :: L2) := hps4
                    have hps5 : psi nn A d (goP g pf s L2 La).1 L3 + 1 ≤ psi nn A D s ((d, v) :: L1) := by
                      rw [psi_perm hp3, ← hps3]; exact hps7
                    have hps6 := psi_len (n := nn) (A := A) (D := d) (s := (goP g pf s L2 La).1) (hp := L3)
                    exact ⟨⟨(goP g pf s L2 La).1, a3, hn3, c3, f3, L3, d⟩, rfl, trivial, ⟨MI.perm M3 hp3.symm, hH3, O3, by dsimp only; omega, H⟩, by dsimp only; omega⟩
                  · intro h6
                    replace h6 := dec_f h6
                    have hne : (d, v).1 ≠ s.d (d, v).2 := by dsimp only; rw [← hdv]; exact h6
                    obtain ⟨M3, hps4⟩ := MM2.drop hArcs hmin2 hne
                    have hps6 := psi_len (n := nn) (A := A) (D := d) (s := s) (hp := L2)
                    refine W_skip (at_block (at_then ?_))
                    exact ⟨⟨s, some ⟨q, 0, none⟩, L1.length, c', f2, L2, d⟩, rfl, trivial, ⟨M3, hH2, O2, by dsimp only at hps4 ⊢; omega, H⟩, by dsimp only at hps4 ⊢; omega⟩
                · intro h5
                  replace h5 := dec_f h5
                  obtain rfl : L = [] := List.eq_nil_of_length_eq_zero (by omega)
                  have DN := MM.ends
                  have hsd := fun v => MM.dj.dist (by omega) (by omega) v
                  have hge : ∀ u, u < nn → g.u u = g.u u := fun _ _ => rfl
                  have RO1 := RO.keep H.ext hidM
                  have hooG := hnotL oo hooM H
                  have Hp4 := H.perm (List.perm_middle (l₁ := [_, _]) (l₂ := [_, _, _] ++ _))
                  have hobM : ∀ u, u < nn → selL g l u ≠ [] → (adr (st u).a).block ≠ ob := fun u hu hne e => hnotL _ (hrowM u hu hne) H (by rw [e]; exact List.mem_map.2 ⟨(ob, _), List.mem_of_getElem? (i := 2) rfl, rfl⟩)
                  refine W_exit (exit_then (exit_then (exit_here (at_then ?_))))
                  refine W_rseq ?_
                  refine op_ldb rfl ag_221_SeL rfl H (by first | exact at0 | exact at1 | exact at2 | exact at3 | exact at4 | exact at5 | exact at6 | exact at7 | exact at8 | exact at9) rfl ?_
                  refine op_call rfl ca_195_SeL (fends_ok (outL := fun u => selL g l u) (g := g) (p := pf) (s := s) (H.get at2) (H.get at1) (H.get at4) (H.get at5) RO1.tbl (H.ne at1 at2 (by decide)) (H.ne at4 at2 (by decide)) (H.ne at5 at2 (by decide)) (fun e => hooG (by rw [e]; exact List.mem_map.2 ⟨(ob, _), List.mem_of_getElem? (i := 2) rfl, rfl⟩)) (by omega) (fun v => by have h7 := hsd v; omega) (fun u hu => ⟨_, _, hget u hu, hrow H.ext (fun _ h => h) u hu, hobM u hu, by have := hsl u; omega, fun x hx => by have h7 := hselx u hu x hx; have h8 := hlb x; exact ⟨h7.1, h7.2.1, by omega, by omega, by omega⟩⟩)) rfl ?_
                  rintro rv w ⟨rfl, by', BB, H3⟩
                  replace H := Ctx.back (L1 := [_]) (L2 := [_, _, _, _, _] ++ _) Hp4 H3
                  refine op_nil (at_then ?_)
                  refine W_qseq (fun x => x = _) mixed_SeL (by kernel_rfl) rfl ?_
                  first | refine q_ldb rfl ag_221_SeL rfl (by rintro _ rfl; exact H.drew) (by first | exact at0 | exact at1 | exact at2 | exact at3 | exact at4 | exact at5 | exact at6 | exact at7 | exact at8 | exact at9) rfl ?_ | refine q_ld rfl ag_221_SeL rfl (by rintro _ rfl; exact ((by rw [cell_bl (H.drew.get at2)]; rfl))) ?_
                  refine q_nilCheck rfl rfl ?_
                  refine q_fieldAddr rfl fo_224_1_SeL rfl ?_
                  first | refine q_ldb rfl ag_29_SeL rfl (by rintro _ rfl; exact H.drew) (by first | exact at0 | exact at1 | exact at2 | exact at3 | exact at4 | exact at5 | exact at6 | exact at7 | exact at8 | exact at9) rfl ?_ | refine q_ld rfl ag_29_SeL rfl (by rintro _ rfl; exact ((by rw [cell_bl (H.drew.get at2)]; rfl))) ?_
                  first | refine q_ldb rfl ag_221_SeL rfl (by rintro _ rfl; exact H.drew) (by first | exact at0 | exact at1 | exact at2 | exact at3 | exact at4 | exact at5 | exact at6 | exact at7 | exact at8 | exact at9) rfl ?_ | refine q_ld rfl ag_221_SeL rfl (by rintro _ rfl; exact ((by rw [cell_bl (H.drew.get at2)]; rfl))) ?_
                  refine q_nilCheck rfl rfl ?_
                  refine q_fieldAddr rfl fo_224_3_SeL rfl ?_
                  first | refine q_ldb rfl ag_203_SeL rfl (by rintro _ rfl; exact H.drew) (by first | exact at0 | exact at1 | exact at2 | exact at3 | exact at4 | exact at5 | exact at6 | exact at7 | exact at8 | exact at9) rfl ?_ | refine q_ld rfl ag_203_SeL rfl (by rintro _ rfl; exact ((by rw [cell_bl (H.drew.get at2)]; rfl))) ?_
                  refine q_assign rfl (.slice _ _ _) rfl ?_
                  refine q_assign rfl (.slice _ _ _) rfl ?_
                  refine q_assign rfl (.int _ _) rfl ?_
                  refine q_nil ?_
                  rintro _ rfl
                  replace H := H.drew
                  refine W_ret ?_
                  refine leaveM3 rfl rfl rfl rfl ?_
                  have hodlt := hOLlt (od, _) (by rw [hOL]; exact List.mem_of_getElem? (i := 2) rfl)
                  have hoblt := hOLlt (ob, _) (by rw [hOL]; exact List.mem_of_getElem? (i := 4) rfl)
                  dsimp only at hodlt hoblt
                  have hall : ∀ a, a ∈ selL g l (g.u a) → a < 2 * g.E ∧ 0 < roomA (capE es) (flE fl) a := fun x hx => by
                    have h1 := (List.mem_filter.1 hx).1
                    rw [hlE] at h1
                    obtain ⟨h2, h3⟩ := List.mem_filter.1 h1
                    exact ⟨List.mem_range.1 h2, of_decide_eq_true h3⟩
                  have BY := bys_of (cap := capE es) (x := flE fl) (by rw [← hA]; exact DN) (by rw [← hA]; exact hArcs) BB hall (fun x h1 h2 => ⟨by rw [← hgN]; exact hgo.u h1, List.mem_filter.2 ⟨by rw [hlE]; exact List.mem_filter.2 ⟨List.mem_range.2 h1, decide_eq_true h2⟩, decide_eq_true rfl⟩⟩)
                  refine marks_one (H.ext.to hD hidD) rfl fun wF hxF => ⟨od, ob, s, by', rfl, ?_, ?_, fun v => ?_, ?_⟩
                  · rw [hA, hg, hpf] at DN; exact DN
                  · rw [hg, hpf] at BY; exact BY
                  · rcases BB.val v with h | ⟨x, h1, h2, -⟩
                    · exact .inl h
                    · exact .inr ⟨x, h1, by rw [← hgE]; exact (hall x h2).1⟩
                  · refine ((hB H).sub (L' := [(od, Bl 2 (tabV s.d nn)), (ob, Bl 3 (tabV by' nn))]) (fun x hx => ?_) ?_).step hxF (fun x hx => ?_) fun x hx => .inr ?_
                    · simp only [List.mem_cons, List.not_mem_nil, or_false] at hx
                      rcases hx with rfl | rfl
                      · exact List.mem_of_getElem? (i := 4) rfl
                      · exact List.mem_of_getElem? (i := 0) rfl
                    · simp only [List.pairwise_cons, List.mem_singleton, forall_eq, List.not_mem_nil, false_imp_iff, implies_true, List.Pairwise.nil, and_true]
                      exact H.ne at4 at0 (by decide)
                    · simp only [List.mem_cons, List.not_mem_nil, or_false] at hx
                      rw [List.mem_singleton]
                      rcases hx with rfl | rfl
                      · dsimp only; omega
                      · dsimp only; omega
                    · rw [List.mem_singleton.1 hx]; exact hs07

end Go.Proofs.YtapphbmlkdhnmaaGreat

/- Nets with other caps; phases: plain law. -/
namespace Go.Proofs.YtapphbmlkdhnmaaGreat
open Go.GV

theorem OS.setf {α : Type} {a : Option Addr} {n c s : Nat} {full : List Value} {enc : α → List Value} {L : List α} (O : OS a n c s full (L.flatMap enc)) (hs : ∀ x, (enc x).length = s) {i j : Nat} {x y : α} {v : Value} (hx : L[i]? = some x) (hj : j < s) (hy : enc y = (enc x).set j v) : OS a n c s (full.set (i * s + j) v) ((L.set i y).flatMap enc) := by
  refine ⟨O.zero, O.none', by rw [List.length_set]; exact O.len, O.le, ?_⟩
  rw [O.split, set_row (fun z _ => hs z) hx hj hy]
  have h1 := O.llen
  rw [flat_len fun z _ => hs z] at h1
  exact List.take_left' (by rw [flat_len fun z _ => hs z, List.length_set, h1])

/-- The edges, with other caps. -/
def edC (es : List Ed) (c : Nat → Int) (i : Nat) : Ed := { es.getD i e0 with cap := c i }
def esC (es : List Ed) (c : Nat → Int) : List Ed := (List.range es.length).map (edC es c)
theorem esC_len (es : List Ed) (c : Nat → Int) : (esC es c).length = es.length := by unfold esC; simp
theorem esC_get {es : List Ed} {c : Nat → Int} {i : Nat} (h : i < es.length) : (esC es c)[i]? = some (edC es c i) := range_get h
theorem esC_congr {es : List Ed} {c d : Nat → Int} (h : ∀ i, i < es.length → c i = d i) : esC es c = esC es d := List.map_congr_left fun i hi => by unfold edC; rw [h i (List.mem_range.1 hi)]
theorem esC_set {es : List Ed} {c d : Nat → Int} {i : Nat} {e : Ed} (he : edC es d i = e) (h : ∀ j, j < es.length → j ≠ i → d j = c j) : (esC es c).set i e = esC es d := range_set he fun j hj hn => by unfold edC; rw [h j hj hn]
theorem esC_self (es : List Ed) : esC es (capE es) = es := by
  refine List.ext_getElem? fun i => ?_
  rcases Nat.lt_or_ge i es.length with h | h
  · obtain ⟨e, he⟩ := get_some h
    rw [esC_get h, he]
    unfold edC capE
    rw [getD_of he]
  · rw [List.getElem?_eq_none (by rw [esC_len]; exact h), List.getElem?_eq_none h]
theorem capE_C {es : List Ed} {c : Nat → Int} {i : Nat} (h : i < es.length) : capE (esC es c) i = c i := by
  unfold capE; rw [getD_of (esC_get h)]; rfl
theorem grE_C (N : Int) (es : List Ed) (c : Nat → Int) : grE N (esC es c) = grE N es := by
  have h : ∀ i, ((esC es c).getD i e0).f = (es.getD i e0).f ∧ ((esC es c).getD i e0).t = (es.getD i e0).t ∧ ((esC es c).getD i e0).cost = (es.getD i e0).cost := fun i => by
    rcases Nat.lt_or_ge i es.length with h | h
    · rw [getD_of (esC_get h)]; exact ⟨rfl, rfl, rfl⟩
    · rw [List.getD_eq_getElem?_getD, List.getElem?_eq_none (by rw [esC_len]; exact h), List.getD_eq_getElem?_getD, List.getElem?_eq_none h]
      exact ⟨rfl, rfl, rfl⟩
  unfold grE
  rw [esC_len]
  congr 1
  · funext i; rw [(h i).1]
  · funext i; rw [(h i).2.1]
  · funext i; rw [(h i).2.2]
theorem sum_le_of {α : Type} {f g : α → Nat} : ∀ {l : List α}, (∀ x ∈ l, f x ≤ g x) → (l.map f).sum ≤ (l.map g).sum
  | [], _ => Nat.le_refl _
  | x :: l, h => by
    have h1 := h x (List.mem_cons_self ..)
    have h2 := sum_le_of (l := l) fun y hy => h y (List.mem_cons_of_mem _ hy)
    simp only [List.map_cons, List.sum_cons]
    omega
theorem right_C {N : Int} {es : List Ed} {c : Nat → Int} (h : rightN N es = true) (hc : ∀ i, i < es.length → 0 ≤ c i ∧ c i ≤ capE es i) : rightN N (esC es c) = true := by
  obtain ⟨h1, h2, h3, h4, h5⟩ := right_of h
  have h6 : prods (esC es c) ≤ prods es := by
    have e1 : prods es = ((List.range es.length).map fun i => prodE (es.getD i e0)).sum := by
      conv => lhs; rw [← esC_self es]
      unfold prods esC
      rw [List.map_map]
      congr 1
    have e2 : prods (esC es c) = ((List.range es.length).map fun i => prodE (edC es c i)).sum := by
      unfold prods esC
      rw [List.map_map]
      congr 1
    rw [e1, e2]
    refine sum_le_of fun i hi => ?_
    have h7 := hc i (List.mem_range.1 hi)
    unfold prodE edC
    dsimp only
    exact Nat.mul_le_mul_right _ (by unfold capE at h7; omega)
  have h7 : (esC es c).all (edgeB N) = true := List.all_eq_true.2 fun e he => by
    obtain ⟨i, hi, rfl⟩ := List.mem_map.1 he
    have hil := List.mem_range.1 hi
    obtain ⟨e, he⟩ := get_some hil
    have h8 := edge_of (h4 e (List.mem_of_getElem? he))
    have h9 := hc i hil
    unfold capE at h9
    rw [getD_of he] at h9
    unfold edC edgeB nodeB
    rw [getD_of he]
    dsimp only
    simp only [Bool.and_eq_true, decide_eq_true_eq]
    omega
  unfold rightN
  rw [h7, esC_len]
  simp only [Bool.and_eq_true, decide_eq_true_eq]
  exact ⟨⟨h1, h2⟩, h3, trivial, by omega⟩
theorem within_C {N : Int} {es : List Ed} {c x : Nat → Int} (h : rightN N es = true) (hc : ∀ i, i < es.length → 0 ≤ c i ∧ c i ≤ capE es i) (hx : ∀ i, i < es.length → 0 ≤ x i ∧ x i ≤ c i) : withinN N (esC es c) (tab x es.length) = true := by
  unfold withinN
  rw [right_C h hc, tab_len, esC_len, decide_eq_true rfl]
  refine List.all_eq_true.2 fun b hb => ?_
  obtain ⟨i, hi⟩ := List.getElem?_of_mem hb
  have hil : i < es.length := by
    have := get_lt hi
    rw [List.length_zipWith, esC_len, tab_len] at this
    omega
  rw [zip_at (esC_get hil) (tab_get hil)] at hi
  obtain rfl := Option.some.inj hi
  have := hx i hil
  unfold inB edC
  simp only [Bool.and_eq_true, decide_eq_true_eq, id_eq]
  omega
/-- The caps of a phase. -/
def capK (es : List Ed) (k i : Nat) : Int := (((capE es i).toNat / 2 ^ k : Nat) : Int)
theorem capK_in {N : Int} {es : List Ed} (h : rightN N es = true) (k : Nat) : ∀ i, i < es.length → 0 ≤ capK es k i ∧ capK es k i ≤ capE es i := fun i hi => by
  obtain ⟨e, he⟩ := get_some hi
  have h8 := edge_of ((right_of h).2.2.2.1 e (List.mem_of_getElem? he))
  have h9 : (capE es i).toNat / 2 ^ k ≤ (capE es i).toNat := Nat.div_le_self _ _
  have h7 : 0 ≤ capE es i := by unfold capE; rw [getD_of he]; omega
  unfold capK
  obtain ⟨z, hz⟩ : ∃ z, z = (capE es i).toNat / 2 ^ k := ⟨_, rfl⟩
  rw [← hz] at h9 ⊢
  omega
theorem capK_half (es : List Ed) (k i : Nat) : 2 * capK es (k + 1) i ≤ capK es k i ∧ capK es k i ≤ 2 * capK es (k + 1) i + 1 := by
  have h : (capE es i).toNat / 2 ^ (k + 1) = ((capE es i).toNat / 2 ^ k) / 2 := by rw [Nat.pow_succ, Nat.div_div_eq_div_mul]
  unfold capK
  rw [h]
  obtain ⟨z, hz⟩ : ∃ z, z = (capE es i).toNat / 2 ^ k := ⟨_, rfl⟩
  rw [← hz]
  omega
theorem capK_zero {N : Int} {es : List Ed} (h : rightN N es = true) : ∀ i, i < es.length → capK es 0 i = capE es i := fun i hi => by
  have h7 := capK_in h 0 i hi
  unfold capK at h7 ⊢
  rw [Nat.pow_zero, Nat.div_one] at h7 ⊢
  omega
theorem cap_bnd {N : Int} {es : List Ed} (h : rightN N es = true) : ∀ i, i < es.length → 0 ≤ capE es i ∧ capE es i ≤ 4503599627370496 := fun i hi => by
  obtain ⟨e, he⟩ := get_some hi
  have h8 := edge_of ((right_of h).2.2.2.1 e (List.mem_of_getElem? he))
  unfold capE; rw [getD_of he]; omega
theorem fine_caps {g : Gr} {cap cap' x p : Nat → Int} (h : Fine g cap x p) (hc : ∀ i, i < g.E → cap' i = cap i) : Fine g cap' x p := by
  refine ⟨fun i hi => by rw [hc i hi]; exact h.in' i hi, fun a ha hr => h.fit a ha ?_⟩
  unfold roomA at hr ⊢
  rw [hc _ (by omega)] at hr
  exact hr
theorem over_in {g : Gr} {x : Nat → Int} (hE : g.E ≤ 200) (hx : ∀ i, i < g.E → 0 ≤ x i ∧ x i ≤ 4503599627370496) (v : Nat) : -900719925474099200 ≤ over7 g x v ∧ over7 g x v ≤ 900719925474099200 := by
  have h := over_bnd (g := g) (x := x) (c := 4503599627370496) v (k := g.E) hx
  have h2 : (g.E : Int) * 4503599627370496 ≤ 200 * 4503599627370496 := by omega
  unfold over7
  omega

end Go.Proofs.YtapphbmlkdhnmaaGreat
