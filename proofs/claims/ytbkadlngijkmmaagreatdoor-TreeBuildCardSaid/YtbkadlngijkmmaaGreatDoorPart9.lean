/- Part 9 of the proof. -/
import Derived.Test.YtbkadlngijkmmaaGreatDoorPart8
import Derived.Test.YtbkadlngijkmmaaGreatDoorPart4
import Derived.Sort.OwnSortedInts
import Derived.Test.YtbkadlngijkmmaaGreatDoorPart3
/- A pair is put, or cut: the walks. -/
namespace Go.Proofs.YtbkadlngijkmmaaGreatDoor
open Go.GV
theorem ca_17_TrY : callable Tryz.prog 17 = true := by kernel_rfl
theorem ca_64_TrY : callable Tryz.prog 64 = true := by kernel_rfl
theorem ca_65_TrY : callable Tryz.prog 65 = true := by kernel_rfl
theorem ca_72_TrY : callable Tryz.prog 72 = true := by kernel_rfl
theorem ca_73_TrY : callable Tryz.prog 73 = true := by kernel_rfl
theorem ca_75_TrY : callable Tryz.prog 75 = true := by kernel_rfl
attribute [local irreducible] Wops W Wq Wt

theorem Grown.keep {M M' : Mut} {w w' : World} {b : Nat} {o : Obj} (t : Grown M M' w w') (h : w.heap[b]? = some o) (hn : ¬ M b) : w'.heap[b]? = some o := by
  obtain ⟨⟨S, hS, hx⟩, -⟩ := t
  rw [hx.block b (heap_lt h) fun h => hn (hS _ h)]; exact h
abbrev Z0 : Mut := fun _ => False
theorem MZ0 {M : Mut} : ∀ x, MZ M Z0 x → M x := fun _ h => h.elim id False.elim

set_option maxRecDepth 20000 in
set_option maxHeartbeats 4000000 in
theorem put8_ok {fr : Nat} (hfr : fr ≤ 5000) {w : World} {bt bd bp ba : Nat} {A : Dev} {P : List Nat} {F : Mut} (T : Tx w bt bd bp ba fr A P F []) (root : Int) (hr1 : -9223372036854775808 ≤ root) (hr2 : root ≤ 9223372036854775807) (ka va : Option Addr) (kc vc kn vn : Nat) (key val : Byt) (Rk : Rdx w (TM F ba bt bp []) ka key) (Rv : Rdx w (TM F ba bt bp []) va val)
    (hkn : key.length = kn) (hvn : val.length = vn) (hkc : kn ≤ kc) (hvc : vn ≤ vc) (hkl : kn ≤ 100000) {mx : Nat} (hfew : Few A mx) (hmx : mx ≤ 800000000) (hok : (putT fr A P root key val).1 ≠ 99) :
    Ret Tryz.prog 26 #[ptr bt, .int .i64 root, .slice ka kn kc, .slice va vn vc] w fun v w' => ∃ F', v = .tuple #[.int .i64 (putT fr A P root key val).2.1, .int .i64 (putT fr A P root key val).1] ∧ Tx w' bt bd bp ba fr (putT fr A P root key val).2.2.1 (putT fr A P root key val).2.2.2 F' [] ∧ Grown (TM F ba bt bp []) (TM F' ba bt bp []) w w' := by
  subst hkn hvn
  obtain ⟨w0, rfl⟩ : ∃ w0, w0 = w := ⟨_, rfl⟩
  obtain ⟨pt, hpt⟩ : ∃ pt, pt = putT fr A P root key val := ⟨_, rfl⟩
  rw [← hpt] at hok ⊢
  unfold putT at hpt
  have H := Ctx.start w0 []
  refine ret_of_W (fn := Tryz.f26) Tryz.func26 rfl [.pointer (some ⟨bt, 0, none⟩), .int .i64 root, .slice ka key.length kc, .slice va val.length vc] rfl (by kernel_rfl) ?_
  refine W_rseq ?_
  refine op_box rfl _ (.slice _ _ _) rfl rfl H ?_
  rintro b6 w - H
  refine op_box rfl _ (.slice _ _ _) rfl rfl H ?_
  rintro b7 w - H
  refine op_assign rfl (.int _ _) rfl ?_
  refine op_assign rfl (.int _ _) rfl ?_
  refine op_nil (at_then ?_)
  refine W_seq ?_
  refine W_rseq ?_
  refine op_move rfl (.pointer _) rfl ?_
  refine op_move rfl (.int _ _) rfl ?_
  refine op_call rfl ca_64_TrY (may7_ok (T.call H.ext) root) rfl ?_
  rintro v w2 ⟨rfl, rfl⟩
  refine op_assign rfl (.int _ _) rfl ?_
  refine op_nil (at_then ?_)
  refine W_rseq ?_
  refine op_move rfl (.int _ _) rfl ?_
  refine op_neq rfl rfl rfl ?_
  refine op_nil (at_then ?_)
  refine W_cond _ rfl ?_ ?_
  · intro hA
    replace hA := ndec_t hA
    rw [if_pos hA] at hpt
    have he : mayE P.length root = 1 := by unfold mayE at hA ⊢; split <;> simp_all
    rw [he]
    refine W_rseq ?_
    refine op_move rfl (.int _ _) rfl ?_
    refine op_move rfl (.int _ _) rfl ?_
    refine op_assign rfl (.int _ _) rfl ?_
    refine op_assign rfl (.int _ _) rfl ?_
    refine op_nil (at_then ?_)
    refine W_ret (ret_then (leave2 (v1 := (.int _ _)) (v2 := (.int _ _)) rfl rfl rfl rfl ?_))
    exact ⟨F, by rw [hpt], by rw [hpt]; exact T.call H.ext, .call0 H.ext⟩
  · intro hA
    replace hA := ndec_f hA
    rw [if_neg (by simpa using hA)] at hpt
    have hm0 : mayE P.length root = 0 := by simpa using hA
    have hroot : -1 ≤ root ∧ root ≤ 4294967296 := by
      have hpl := T.pg.len
      unfold mayE at hm0
      split at hm0
      · cases hm0
      · omega
    refine W_skip (at_then ?_)
    refine W_seq ?_
    refine W_rseq ?_
    refine op_ldb rfl ag_23 rfl H (by first | exact at0 | exact at1 | exact at2 | exact at3 | exact at4 | exact at5 | exact at6 | exact at7 | exact at8 | exact at9) rfl ?_
    refine op_ldb rfl ag_23 rfl H (by first | exact at0 | exact at1 | exact at2 | exact at3 | exact at4 | exact at5 | exact at6 | exact at7 | exact at8 | exact at9) rfl ?_
    refine op_call rfl ca_65_TrY (right7_ok ka va _ _ kc vc _) rfl ?_
    rintro v w2 ⟨rfl, rfl⟩
    refine op_not rfl rfl ?_
    refine op_nil (at_then ?_)
    refine W_cond _ rfl ?_ ?_
    · intro hB
      replace hB := nvar_t hB
      rw [if_neg (by rw [hB]; simp)] at hpt
      refine W_rseq ?_
      refine op_move rfl (.int _ _) rfl ?_
      refine op_assign rfl (.int _ _) rfl ?_
      refine op_assign rfl (.int _ _) rfl ?_
      refine op_nil (at_then ?_)
      refine W_ret (ret_then (leave2 (v1 := (.int _ _)) (v2 := (.int _ _)) rfl rfl rfl rfl ?_))
      exact ⟨F, by rw [hpt], by rw [hpt]; exact T.call H.ext, .call0 H.ext⟩
    · intro hB
      replace hB := nvar_f hB
      rw [if_pos (by simpa using hB)] at hpt
      have hx1 := H.ext
      have h6 := H.get at1
      have h7 := H.get at0
      have ho6 := (H.own _ (List.mem_cons_of_mem _ (List.mem_cons_self ..))).elim (fun h => by cases h) id
      have ho7 := (H.own _ (List.mem_cons_self ..)).elim (fun h => by cases h) id
      have hM0 := T.mlt
      have T1 := T.call hx1
      have D : DoOk 73 [ptr b6, ptr b7] (insI key val) w (MZ (TM F ba bt bp []) Z0) := fun w' M' t hlt a n c l I hn => put1_ok7 hlt (t.keep h6 fun h => by have := hM0 _ (MZ0 _ h); dsimp only at ho6; omega) (t.keep h7 fun h => by have := hM0 _ (MZ0 _ h); dsimp only at ho7; omega) (((Rk.call hx1).weak MZ0).turn t) (((Rv.call hx1).weak MZ0).turn t) hkc hvc I hn
      have hokt : (turnC fr A P root key (insI key val)).1 ≠ 99 := fun h => hok (by rw [hpt]; exact h)
      refine W_skip (at_then ?_)
      refine W_rseq ?_
      refine op_move rfl (.pointer _) rfl ?_
      refine op_move rfl (.int _ _) rfl ?_
      refine op_ldb rfl ag_23 rfl H (by first | exact at0 | exact at1 | exact at2 | exact at3 | exact at4 | exact at5 | exact at6 | exact at7 | exact at8 | exact at9) rfl ?_
      refine op_makeFuncL rfl [.pointer _, .pointer _] rfl ?_
      refine op_call rfl ca_72_TrY (turn7_ok ca_73_TrY hfr hkl T1 root hroot.1 hroot.2 Z0 (fun x h => h.elim) D ka kc ((Rk.call hx1).weak MZ0) hfew hmx hokt) rfl ?_
      rintro v w3 ⟨F3, rfl, T3, g3⟩
      refine op_extract rfl rfl rfl ?_
      refine op_extract rfl rfl rfl ?_
      refine op_assign rfl (.int _ _) rfl ?_
      refine op_assign rfl (.int _ _) rfl ?_
      refine op_nil (at_then ?_)
      refine W_ret (leave2 (v1 := (.int _ _)) (v2 := (.int _ _)) rfl rfl rfl rfl ?_)
      exact ⟨F3, by rw [hpt], by rw [hpt]; exact T3, (Grown.call0 hx1).trans g3⟩

set_option maxRecDepth 20000 in
set_option maxHeartbeats 4000000 in
theorem cut8_ok {fr : Nat} (hfr : fr ≤ 5000) {w : World} {bt bd bp ba : Nat} {A : Dev} {P : List Nat} {F : Mut} (T : Tx w bt bd bp ba fr A P F []) (root : Int) (hr1 : -9223372036854775808 ≤ root) (hr2 : root ≤ 9223372036854775807) (ka : Option Addr) (kc kn : Nat) (key : Byt) (Rk : Rdx w (TM F ba bt bp []) ka key)
    (hkn : key.length = kn) (hkl : kn ≤ 100000) {mx : Nat} (hfew : Few A mx) (hmx : mx ≤ 800000000) (hok : (cutT fr A P root key).1 ≠ 99) :
    Ret Tryz.prog 27 #[ptr bt, .int .i64 root, .slice ka kn kc] w fun v w' => ∃ F', v = .tuple #[.int .i64 (cutT fr A P root key).2.1, .bool (cutT fr A P root key).2.2.1, .int .i64 (cutT fr A P root key).1] ∧ Tx w' bt bd bp ba fr (cutT fr A P root key).2.2.2.1 (cutT fr A P root key).2.2.2.2 F' [] ∧ Grown (TM F ba bt bp []) (TM F' ba bt bp []) w w' := by
  subst hkn
  obtain ⟨w0, rfl⟩ : ∃ w0, w0 = w := ⟨_, rfl⟩
  obtain ⟨pt, hpt⟩ : ∃ pt, pt = cutT fr A P root key := ⟨_, rfl⟩
  rw [← hpt] at hok ⊢
  unfold cutT at hpt
  obtain ⟨gt, hgt⟩ : ∃ gt, gt = getT A fr P.length root key := ⟨_, rfl⟩
  rw [← hgt] at hpt
  have H := Ctx.start w0 []
  refine ret_of_W (fn := Tryz.f27) Tryz.func27 rfl [.pointer (some ⟨bt, 0, none⟩), .int .i64 root, .slice ka key.length kc] rfl (by kernel_rfl) ?_
  refine W_rseq ?_
  refine op_box rfl _ (.slice _ _ _) rfl rfl H ?_
  rintro b5 w - H
  refine op_assign rfl (.int _ _) rfl ?_
  refine op_assign rfl (.bool _) rfl ?_
  refine op_assign rfl (.int _ _) rfl ?_
  refine op_nil (at_then ?_)
  refine W_rseq ?_
  refine op_move rfl (.pointer _) rfl ?_
  refine op_move rfl (.int _ _) rfl ?_
  refine op_ldb rfl ag_23 rfl H (by first | exact at0 | exact at1 | exact at2 | exact at3 | exact at4 | exact at5 | exact at6 | exact at7 | exact at8 | exact at9) rfl ?_
  have hx0 := H.ext
  refine op_call rfl ca_17_TrY (get7_ok (T.call hx0) hfr root ⟨hr1, hr2⟩ ka kc _ key (Rk.call hx0).1 rfl hfew (by omega)) rfl ?_
  rintro v w2 ⟨va, vc, u, rfl, hx17, -, -, -⟩
  rw [← hgt]
  replace H := H.call hx17
  refine op_move rfl (.tuple _) rfl ?_
  refine op_extract rfl rfl rfl ?_
  refine op_extract rfl rfl rfl ?_
  refine op_extract rfl rfl rfl ?_
  refine op_assign rfl (.slice _ _ _) rfl ?_
  refine op_assign rfl (.bool _) rfl ?_
  refine op_assign rfl (.int _ _) rfl ?_
  refine op_nil (at_then ?_)
  refine W_seq ?_
  refine W_rseq (Wops_join (α := Unit) 132120576 (fun _ => [(26, .bool (decide (gt.1 ≠ 0) || decide (gt.2.isSome = false)))]) (fun _ w' => Ctx w0 [] w' [(b5, Bl 23 [.slice ka key.length kc])]) rfl ?_ ?_)
  · refine op_move rfl (.int _ _) rfl ?_
    refine op_neq rfl rfl rfl ?_
    refine op_move rfl (.bool _) rfl ?_
    refine Wops_split 23 rfl ?_ ?_
    · intro h1
      replace h1 := ndec_t h1
      refine op_skip rfl ?_
      refine op_skip rfl ?_
      refine op_pick1 rfl rfl (.bool _) rfl ?_
      refine op_nil ?_
      exact ⟨rfl, (), rfl, ⟨congrArg Value.bool (by (first | rw [decide_eq_true (show gt.1 ≠ 0 from h1)] | rw [decide_eq_false (show ¬ gt.1 ≠ 0 from fun h => h h2)]); cases gt.2 <;> rfl), trivial⟩, H⟩
    · intro h2
      replace h2 := ndec_f h2
      refine op_move rfl (.bool _) rfl ?_
      refine op_not rfl rfl ?_
      refine op_pick0 rfl rfl (.bool _) rfl ?_
      refine op_nil ?_
      exact ⟨rfl, (), rfl, ⟨congrArg Value.bool (by (first | rw [decide_eq_true (show gt.1 ≠ 0 from h1)] | rw [decide_eq_false (show ¬ gt.1 ≠ 0 from fun h => h h2)]); cases gt.2 <;> rfl), trivial⟩, H⟩
  rintro - j26 w H
  refine W_cond _ rfl ?_ ?_
  · intro hA
    refine W_rseq ?_
    refine op_move rfl (.int _ _) rfl ?_
    refine op_move rfl (.int _ _) rfl ?_
    refine op_assign rfl (.int _ _) rfl ?_
    refine op_assign rfl (.bool _) rfl ?_
    refine op_assign rfl (.int _ _) rfl ?_
    refine op_nil (at_then ?_)
    refine W_ret (ret_then (leave3 (v1 := (.int _ _)) (v2 := (.bool _)) (v3 := (.int _ _)) rfl rfl rfl rfl rfl ?_))
    by_cases h0 : gt.1 = 0
    · rw [if_neg (by rw [h0]; simp), if_pos (by rw [h0] at hA; simpa using hA)] at hpt
      exact ⟨F, by rw [hpt, h0], by rw [hpt]; exact T.call H.ext, .call0 H.ext⟩
    · rw [if_pos h0] at hpt
      exact ⟨F, by rw [hpt], by rw [hpt]; exact T.call H.ext, .call0 H.ext⟩
  · intro hA
    have hA2 : gt.1 = 0 ∧ ¬ gt.2.isSome = false := by
      have h5 := hA
      rw [Bool.or_eq_false_iff] at h5
      exact ⟨by simpa using h5.1, of_decide_eq_false h5.2⟩
    rw [if_neg (by rw [hA2.1]; simp), if_neg hA2.2] at hpt
    have hroot : -1 ≤ root ∧ root ≤ 4294967296 := by
      have hpl := T.pg.len
      have h5 := hA2.1
      have hm : mayE P.length root = 0 := by
        by_cases hq : mayE P.length root = 0
        · exact hq
        · rw [hgt] at h5
          unfold getT at h5
          rw [if_pos hq] at h5
          cases h5
      unfold mayE at hm
      split at hm
      · cases hm
      · omega
    have hx1 := H.ext
    have h5 := H.get at0
    have ho5 := (H.own _ (List.mem_cons_self ..)).elim (fun h => by cases h) id
    have hM0 := T.mlt
    have T1 := T.call hx1
    have D : DoOk 75 [ptr b5] (delI key) w (MZ (TM F ba bt bp []) Z0) := fun w' M' t hlt a n c l I hn => cut1_ok7 hlt (t.keep h5 fun h => by have := hM0 _ (MZ0 _ h); dsimp only at ho5; omega) (((Rk.call hx1).weak MZ0).turn t) I hn
    have hokt : (turnC fr A P root key (delI key)).1 ≠ 99 := fun h => hok (by rw [hpt]; exact h)
    refine W_skip (at_then ?_)
    refine W_rseq ?_
    refine op_move rfl (.pointer _) rfl ?_
    refine op_move rfl (.int _ _) rfl ?_
    refine op_ldb rfl ag_23 rfl H (by first | exact at0 | exact at1 | exact at2 | exact at3 | exact at4 | exact at5 | exact at6 | exact at7 | exact at8 | exact at9) rfl ?_
    refine op_makeFuncL rfl [.pointer _] rfl ?_
    refine op_call rfl ca_72_TrY (turn7_ok ca_75_TrY hfr hkl T1 root hroot.1 hroot.2 Z0 (fun x h => h.elim) D ka kc ((Rk.call hx1).weak MZ0) hfew hmx hokt) rfl ?_
    rintro v w3 ⟨F3, rfl, T3, g3⟩
    refine op_move rfl (.tuple _) rfl ?_
    refine op_extract rfl rfl rfl ?_
    refine op_extract rfl rfl rfl ?_
    refine op_assign rfl (.int _ _) rfl ?_
    refine op_assign rfl (.int _ _) rfl ?_
    refine op_nil (at_then ?_)
    refine W_rseq ?_
    refine op_move rfl (.int _ _) rfl ?_
    refine op_move rfl (.int _ _) rfl ?_
    refine op_eql rfl rfl rfl ?_
    refine op_move rfl (.int _ _) rfl ?_
    refine op_assign rfl (.int _ _) rfl ?_
    refine op_assign rfl (.bool _) rfl ?_
    refine op_assign rfl (.int _ _) rfl ?_
    refine op_nil (at_then ?_)
    refine W_ret (leave3 (v1 := (.int _ _)) (v2 := (.bool _)) (v3 := (.int _ _)) rfl rfl rfl rfl rfl ?_)
    exact ⟨F3, by rw [hpt], by rw [hpt]; exact T3, (Grown.call0 hx1).trans g3⟩

end Go.Proofs.YtbkadlngijkmmaaGreatDoor

/- The nodes of a root, one behind the other: the walk. -/
namespace Go.Proofs.YtbkadlngijkmmaaGreatDoor
open Go.GV
theorem ag_114_TrEa : aggB Tryz.prog 114 = some false := by kernel_rfl
theorem ag_116_TrEa : aggB Tryz.prog 116 = some true := by kernel_rfl
theorem ag_120_TrEa : aggB Tryz.prog 120 = some true := by kernel_rfl
theorem ca_128_TrEa : callable Tryz.prog 128 = true := by kernel_rfl
theorem ca_66_TrEa : callable Tryz.prog 66 = true := by kernel_rfl
theorem el_114_TrEa : elemT Tryz.prog 114 = some 120 := by kernel_rfl
theorem fo_116_0_TrEa : fieldO Tryz.prog 116 0 = some 0 := by kernel_rfl
theorem fo_116_1_TrEa : fieldO Tryz.prog 116 1 = some 1 := by kernel_rfl
theorem fo_120_2_TrEa : fieldO Tryz.prog 120 2 = some 2 := by kernel_rfl
theorem sz_116_TrEa : tsize Tryz.prog 116 = some 2 := by kernel_rfl
theorem sz_120_TrEa : tsize Tryz.prog 120 = some 3 := by kernel_rfl
theorem zc_116_TrEa : zcells Tryz.prog 116 = some ([.bool false, .slice none 0 0]) := by kernel_rfl
theorem zc_120_TrEa : zcells Tryz.prog 120 = some ([.slice none 0 0, .slice none 0 0, .int .i64 0]) := by kernel_rfl
attribute [local irreducible] Wops W Wq Wt

abbrev Nd := Int × Bool × List It
def kidsG (f : Int → Int × List Nd) : List It → Int × List Nd
  | [] => (0, [])
  | x :: l => if (f (x.page : Int)).1 ≠ 0 then f (x.page : Int) else ((kidsG f l).1, (f (x.page : Int)).2 ++ (kidsG f l).2)
/-- The nodes below a page, the upper ones first; an error ends it. -/
def eachG (A : Dev) (fr sz : Nat) : Nat → Int → Nat → Int × List Nd
  | 0, _, _ => (9, [])
  | n + 1, page, d => match (readT A fr sz page (d : Int)).2 with
    | none => ((readT A fr sz page (d : Int)).1, [])
    | some (false, l) => (0, [(page, false, l)])
    | some (true, l) => ((kidsG (fun p => eachG A fr sz n p (d + 1)) l).1, (page, true, l) :: (kidsG (fun p => eachG A fr sz n p (d + 1)) l).2)
/-- What the rounds over the nodes keep: which were there, what may turn. -/
structure JOk (bt bd bp ba fr : Nat) (A : Dev) (P : List Nat) (F Z : Mut) (N l : Nat) (J : List Nd → Mut → World → Prop) : Prop where
  lt : ∀ {v M w}, J v M w → ∀ x, M x → x < w.heap.size
  ext : ∀ {v M w w'}, J v M w → Ext [] w w' → J v M w'
  tx : ∀ {v M w}, J v M w → Tx w bt bd bp ba fr A P F []
  round : ∀ {v : List Nd} {M : Mut} {w : World} (page : Int) (i : Bool) (a : Option Addr) (n c : Nat) (L : List It), J v M w → v.length < N → Its w (MZ M Z) a n c L → L.length ≤ 65535 → (∀ x ∈ L, x.key.length ≤ 505 ∧ x.val.length ≤ 505) → -9223372036854775808 ≤ page ∧ page ≤ 9223372036854775807 →
    Go.GV.YieldAt Tryz.prog l [.int .i64 page, .agg #[.bool i, .slice a n c]] w fun u w' => u = .bool true ∧ ∃ M', J (v ++ [(page, i, L)]) M' w' ∧ Grown M M' w w'
def EaSpec (bt fr : Nat) (A : Dev) (sz : Nat) (Z : Mut) (N l : Nat) (J : List Nd → Mut → World → Prop) (n : Nat) : Prop :=
  ∀ {w : World} {M : Mut} {v : List Nd}, J v M w → (∀ x, Z x → x < w.heap.size) → ∀ (page : Int) (d : Nat), d + n = 17 → -9223372036854775808 ≤ page → page ≤ 9223372036854775807 → v.length + (eachG A fr sz (n + 1) page d).2.length ≤ N →
    Ret Tryz.prog 128 #[ptr bt, .int .i64 page, .int .i64 (d : Int), .func (.yield l) #[] #[]] w fun r w' => r = .tuple #[.bool (decide ((eachG A fr sz (n + 1) page d).1 = 0)), .int .i64 (eachG A fr sz (n + 1) page d).1] ∧ ∃ M', J (v ++ (eachG A fr sz (n + 1) page d).2) M' w' ∧ Grown M M' w w'

set_option maxRecDepth 20000 in
set_option maxHeartbeats 8000000 in
theorem each_step {bt bd bp ba fr : Nat} {A : Dev} {P : List Nat} {F Z : Mut} {N l : Nat} {J : List Nd → Mut → World → Prop} (JO : JOk bt bd bp ba fr A P F Z N l J) (hfr : fr ≤ 5000) {mx : Nat} (hfew : Few A mx) (hmx : mx ≤ 1000000000) (n : Nat) (IH : ∀ n', n = n' + 1 → EaSpec bt fr A P.length Z N l J n') : EaSpec bt fr A P.length Z N l J n := by
  intro w M v hJ hZ page d hd hp1 hp2 hN
  obtain ⟨w0, rfl⟩ : ∃ w0, w0 = w := ⟨_, rfl⟩
  obtain ⟨ea, hea⟩ : ∃ ea, ea = eachG A fr P.length (n + 1) page d := ⟨_, rfl⟩
  rw [← hea] at hN ⊢
  rw [eachG] at hea
  obtain ⟨rt, hrt⟩ : ∃ rt, rt = readT A fr P.length page (d : Int) := ⟨_, rfl⟩
  rw [← hrt] at hea
  refine ret_of_W (fn := Tryz.f128) Tryz.func128 rfl [.pointer (some ⟨bt, 0, none⟩), .int .i64 page, .int .i64 (d : Int), .func (.yield l) #[] #[]] rfl (by kernel_rfl) ?_
  refine W_rseq ?_
  refine op_assign rfl (.bool _) rfl ?_
  refine op_assign rfl (.int _ _) rfl ?_
  refine op_nil (at_then ?_)
  refine W_rseq ?_
  refine op_move rfl (.pointer _) rfl ?_
  refine op_move rfl (.int _ _) rfl ?_
  refine op_move rfl (.int _ _) rfl ?_
  refine op_call rfl ca_66_TrEa (read7_ok (JO.tx hJ) hfr page (d : Int) ⟨hp1, hp2⟩ hfew hmx) rfl ?_
  rintro v2 w2 ⟨inner, aa, nn, cc, rfl, hx20, hits⟩
  rw [← hrt] at hits
  rw [← hrt]
  have hJ2 := JO.ext hJ hx20
  have H := Ctx.start w2 []
  refine op_move rfl (.tuple _) rfl ?_
  refine op_extract rfl rfl rfl ?_
  refine op_extract rfl rfl rfl ?_
  refine op_alloc rfl zc_116_TrEa H ?_
  rintro b10 w - H
  refine op_stb0 rfl sz_116_TrEa rfl rfl rfl (by simp [oneCell]) H (by first | exact at0 | exact at1 | exact at2 | exact at3 | exact at4 | exact at5 | exact at6 | exact at7 | exact at8 | exact at9) rfl ?_
  rintro w H
  refine op_assign rfl (.int _ _) rfl ?_
  refine op_nil (at_then ?_)
  refine W_seq ?_
  refine W_rseq ?_
  refine op_move rfl (.int _ _) rfl ?_
  refine op_neq rfl rfl rfl ?_
  refine op_move rfl (.bool _) rfl ?_
  refine Wops_split 25 rfl ?_ ?_
  · intro hA
    replace hA := ndec_t hA
    have hnone : rt.2 = none := by
      cases h5 : rt.2 with
      | none => rfl
      | some r => obtain ⟨i, l⟩ := r; rw [hrt] at h5; rw [hrt] at hA; exact absurd (readT_some h5).1 hA
    rw [hnone] at hea
    dsimp only at hea
    refine op_skip rfl ?_
    refine op_skip rfl ?_
    refine op_skip rfl ?_
    refine op_skip rfl ?_
    refine op_skip rfl ?_
    refine op_pick1 rfl rfl (.bool _) rfl ?_
    refine op_nil (at_then ?_)
    refine W_cond1 rfl ?_
    refine W_rseq ?_
    refine op_move rfl (.int _ _) rfl ?_
    refine op_assign rfl (.bool _) rfl ?_
    refine op_assign rfl (.int _ _) rfl ?_
    refine op_nil (at_then ?_)
    refine W_ret (ret_then (leave2 (v1 := (.bool _)) (v2 := (.int _ _)) rfl rfl rfl rfl ?_))
    have hx3 := hx20.trans H.ext
    refine ⟨by rw [hea, decide_eq_false hA], M, ?_, .call0 hx3⟩
    rw [hea]
    simpa using JO.ext hJ hx3
  · intro hA
    replace hA := ndec_f hA
    have hA' : rt.1 = 0 := by simpa using hA
    obtain ⟨⟨i, li⟩, hsome⟩ : ∃ r, rt.2 = some r := by
      cases h5 : rt.2 with
      | none => rw [hrt] at h5; rw [hrt] at hA'; exact absurd hA' (readT_none h5)
      | some r => exact ⟨r, rfl⟩
    obtain ⟨-, hne, hd16, -, -, hll⟩ := readT_some (A := A) (fr := fr) (sz := P.length) (page := page) (depth := (d : Int)) (by rw [← hrt]; exact hsome)
    obtain ⟨rfl, I2f, hb⟩ := hits i li hsome
    have I2 := I2f.weak (M' := MZ M Z) fun x h => h.elim (JO.lt hJ x) (hZ x)
    rw [hsome] at hea
    have hnum := I2.num
    obtain ⟨O3, g3⟩ := Fo.nil.own (JO.lt hJ2) H
    have I3 := (I2.weak (M' := MZ (MY M []) Z) fun x h => h.elim (fun h => .inl (MY.nil x h)) .inr).turn (g3.or Z)
    have hJ3 := JO.ext hJ2 H.ext
    have hx3 := hx20.trans H.ext
    have hvl : v.length < N := by
      have : 1 ≤ ea.2.length := by
        rw [hea]
        cases inner with
        | true => simp
        | false => simp
      omega
    obtain ⟨w3, rfl⟩ : ∃ x, x = w := ⟨_, rfl⟩
    replace H := O3.ctx
    refine op_move rfl (.func _ _ _) rfl ?_
    refine op_move rfl (.int _ _) rfl ?_
    refine op_ldbN rfl ag_116_TrEa sz_116_TrEa rfl H (by first | exact at0 | exact at1 | exact at2 | exact at3 | exact at4 | exact at5 | exact at6 | exact at7 | exact at8 | exact at9) rfl ?_
    refine op_yield rfl rfl (JO.round page inner aa nn cc li hJ3 hvl (I3.weak fun x h => h.elim (fun h => .inl (.inl h)) .inr) hll (fun x hx => ⟨(hb x hx).1, (hb x hx).2.1⟩) ⟨hp1, hp2⟩) rfl ?_
    rintro _ w4 ⟨rfl, M4, hJ4, g4⟩
    obtain ⟨O4, gy4⟩ := O3.call g4
    have I4 := I3.turn (gy4.or Z)
    have gg4 := (Grown.call0 hx3).trans g4
    replace H := O4.ctx
    refine op_not rfl rfl ?_
    refine op_pick0 rfl rfl (.bool _) rfl ?_
    refine op_nil (at_then ?_)
    refine W_cond0 rfl ?_
    refine W_skip (at_then ?_)
    refine W_seq ?_
    refine W_rseq ?_
    refine op_fieldAddr rfl fo_116_1_TrEa rfl ?_
    refine op_ldb rfl ag_114_TrEa rfl H (by first | exact at0 | exact at1 | exact at2 | exact at3 | exact at4 | exact at5 | exact at6 | exact at7 | exact at8 | exact at9) rfl ?_
    refine op_len rfl el_114_TrEa rfl ?_
    refine op_move rfl (.int _ _) rfl ?_
    refine op_nil (at_then ?_)
    refine W_block ?_
    refine W_loop 144115119356437248 (α := Nat × List Nd × Mut) (fun s => [(36, .int .i64 (s.1 : Int))]) (fun s w' => s.1 ≤ nn ∧ J (v ++ [(page, inner, li)] ++ s.2.1) s.2.2 w' ∧ Fo w' s.2.2 [(b10, NBl inner aa nn cc)] ∧ Its w' (MZ (MY s.2.2 [(b10, NBl inner aa nn cc)]) Z) aa nn cc li ∧ Grown M s.2.2 w0 w' ∧ (inner = false → s.2.1 = []) ∧ (inner = true → kidsG (fun p => eachG A fr P.length n p (d + 1)) li = ((kidsG (fun p => eachG A fr P.length n p (d + 1)) (li.drop s.1)).1, s.2.1 ++ (kidsG (fun p => eachG A fr P.length n p (d + 1)) (li.drop s.1)).2))) (fun s => nn - s.1) (0, [], M4) rfl ?_ ?_ ?_
    · exact ⟨rfl, trivial⟩
    · exact ⟨Nat.zero_le _, by rw [List.append_nil]; exact hJ4, O4, I4, gg4, fun _ => rfl, fun _ => rfl⟩
    · rintro ⟨i, vs, M5⟩ j w ⟨hi, hJ5, O5, I5, g5, hvs, hkg⟩; dsimp only at hi hJ5 O5 I5 g5 hvs hkg; dsimp only
      obtain ⟨ms, R, -, hl, hok⟩ := I5.ex
      have hml : ms.length = nn := by rw [hnum, ← hl, List.length_map]
      have hb10 := O5.blk (b10, _) (List.mem_singleton.2 rfl)
      have H := Ctx.start w []
      refine W_rseq ?_
      refine op_lss rfl rfl rfl ?_
      refine op_nil (at_then ?_)
      refine W_seq ?_
      refine W_cond _ rfl ?_ ?_
      · intro hB
        replace hB := dec_t hB
        obtain ⟨x, hx1⟩ := get_some (l := ms) (i := i) (by omega)
        have hxL := Im.at hl hx1
        have hxb := hb x.it (List.mem_of_getElem? hxL)
        obtain ⟨wl, rfl⟩ : ∃ x, x = w := ⟨_, rfl⟩
        refine W_skip (at_then ?_)
        refine W_seq ?_
        refine W_block ?_
        refine W_rseq ?_
        first | refine op_indexRd R rfl el_114_TrEa sz_120_TrEa rfl rfl (by omega) (by omega) (by first | rfl | omega) ?_ | refine op_indexAddr rfl el_114_TrEa sz_120_TrEa rfl rfl (by omega) (by omega) ?_
        first | refine op_ldN _ rfl ag_120_TrEa sz_120_TrEa rfl rfl (R.row hx1 rfl) ?_ | refine op_ldbN rfl ag_120_TrEa sz_120_TrEa rfl H (by first | exact at0 | exact at1 | exact at2 | exact at3 | exact at4 | exact at5 | exact at6 | exact at7 | exact at8 | exact at9) rfl ?_
        refine op_alloc rfl zc_120_TrEa H ?_
        rintro b13 w - H
        refine op_stb0 rfl sz_120_TrEa rfl rfl rfl (by first | exact Im.oneE _ | simp [oneCell]) H (by first | exact at0 | exact at1 | exact at2 | exact at3 | exact at4 | exact at5 | exact at6 | exact at7 | exact at8 | exact at9) rfl ?_
        rintro w H
        refine op_nil (at_then ?_)
        refine W_seq ?_
        refine W_rseq ?_
        refine op_fieldAddr rfl fo_116_0_TrEa rfl ?_
        first | refine op_ldb rfl ag_4 rfl H (by first | exact at0 | exact at1 | exact at2 | exact at3 | exact at4 | exact at5 | exact at6 | exact at7 | exact at8 | exact at9) rfl ?_ | refine op_ld rfl ag_4 rfl ((by rw [cell_bl (show _ = some (NBl inner aa nn cc) from by rw [H.ext.block b10 (heap_lt hb10) (by simp)]; exact hb10)]; rfl)) ?_
        refine op_not rfl rfl ?_
        refine op_nil (at_then ?_)
        refine W_cond _ rfl ?_ ?_
        · intro hC
          replace hC := nvar_t hC
          have hea1 : ea = (0, [(page, inner, li)]) := by rw [hea, hC]
          refine W_exit (exit_then (exit_pass rfl (exit_then (exit_then (exit_here (at_then ?_))))))
          refine W_rseq ?_
          refine op_assign rfl (.bool _) rfl ?_
          refine op_assign rfl (.int _ _) rfl ?_
          refine op_nil (at_then ?_)
          refine W_ret (leave2 (v1 := (.bool _)) (v2 := (.int _ _)) rfl rfl rfl rfl ?_)
          refine ⟨by rw [hea1]; rfl, M5, ?_, g5.trans (.call0 H.ext)⟩
          rw [hea1]
          have := JO.ext hJ5 H.ext
          rw [hvs hC, List.append_nil] at this
          exact this
        · intro hC
          replace hC := nvar_f hC
          replace hea : ea = ((kidsG (fun p => eachG A fr P.length n p (d + 1)) li).1, (page, inner, li) :: (kidsG (fun p => eachG A fr P.length n p (d + 1)) li).2) := by rw [hea, hC]
          have hkg := hkg hC
          rw [drop_cons hxL, kidsG] at hkg
          obtain ⟨n', rfl⟩ : ∃ n', n = n' + 1 := ⟨n - 1, by omega⟩
          obtain ⟨f5, hf5⟩ : ∃ f5, f5 = eachG A fr P.length (n' + 1) (x.it.page : Int) (d + 1) := ⟨_, rfl⟩
          rw [← hf5] at hkg
          have hN5 : (v ++ [(page, inner, li)] ++ vs).length + f5.2.length ≤ N := by
            rw [hea, hkg] at hN
            by_cases h0 : f5.1 ≠ 0
            · rw [if_pos h0] at hN; simp only [List.length_append, List.length_cons, List.length_nil] at hN ⊢; omega
            · rw [if_neg h0] at hN; simp only [List.length_append, List.length_cons, List.length_nil] at hN ⊢; omega
          refine W_skip (at_then ?_)
          refine W_rseq ?_
          refine op_move rfl (.pointer _) rfl ?_
          refine op_fieldAddr rfl fo_120_2_TrEa rfl ?_
          refine op_ldb rfl ag_3 rfl H (by first | exact at0 | exact at1 | exact at2 | exact at3 | exact at4 | exact at5 | exact at6 | exact at7 | exact at8 | exact at9) rfl ?_
          refine op_move rfl (.int _ _) rfl ?_
          refine op_add_i64 rfl rfl rfl (by omega) (by omega) ?_
          rw [show ((d : Int) + 1) = ((d + 1 : Nat) : Int) by omega]
          refine op_move rfl (.func _ _ _) rfl ?_
          have hx6 := H.ext
          refine op_call rfl ca_128_TrEa (IH n' rfl (JO.ext hJ5 hx6) (fun x h => Nat.lt_of_lt_of_le (hZ x h) (Nat.le_trans g5.1.size hx6.size)) (x.it.page : Int) (d + 1) (by omega) (by omega) (by omega) (by rw [← hf5]; exact hN5)) rfl ?_
          rintro v7 w7 ⟨rfl, M7, hJ7, g7⟩
          rw [← hf5] at hJ7
          rw [← hf5]
          obtain ⟨O6, gy6⟩ := O5.call (.call0 hx6)
          obtain ⟨O7, gy7⟩ := O6.call g7
          have I7 := (I5.turn (gy6.or Z)).turn (gy7.or Z)
          have gg7 := (g5.trans (.call0 hx6)).trans g7
          refine op_move rfl (.tuple _) rfl ?_
          refine op_extract rfl rfl rfl ?_
          refine op_extract rfl rfl rfl ?_
          refine op_assign rfl (.bool _) rfl ?_
          refine op_assign rfl (.int _ _) rfl ?_
          refine op_nil (at_then ?_)
          refine W_rseq ?_
          refine op_move rfl (.bool _) rfl ?_
          refine op_not rfl rfl ?_
          refine op_nil (at_then ?_)
          refine W_cond _ rfl ?_ ?_
          · intro hD
            replace hD := nvar_t hD
            have hD' : f5.1 ≠ 0 := by simpa using hD
            rw [if_pos hD'] at hkg
            refine W_rseq ?_
            refine op_move rfl (.int _ _) rfl ?_
            refine op_assign rfl (.bool _) rfl ?_
            refine op_assign rfl (.int _ _) rfl ?_
            refine op_nil (at_then ?_)
            refine W_ret (ret_block (ret_then (ret_then (ret_block (ret_then (leave2 (v1 := (.bool _)) (v2 := (.int _ _)) rfl rfl rfl rfl ?_))))))
            refine ⟨by rw [hea, hkg]; dsimp only; rw [decide_eq_false hD'], M7, ?_, gg7⟩
            rw [hea, hkg]
            simpa using hJ7
          · intro hD
            replace hD := nvar_f hD
            have hD' : f5.1 = 0 := by simpa using hD
            rw [if_neg (by rw [hD']; simp)] at hkg
            refine W_skip (at_block (at_then ?_))
            refine W_region ?_
            refine op_add_i64 rfl rfl rfl (by omega) (by omega) ?_
            refine op_move rfl (.int _ _) rfl ?_
            refine op_nil (at_then ?_)
            exact ⟨(i + 1, vs ++ f5.2, M7), rfl, ⟨rfl, trivial⟩, ⟨by dsimp only; omega, by dsimp only; rw [← List.append_assoc]; exact hJ7, O7, I7, gg7, (fun h => by rw [hC] at h; cases h), fun _ => by dsimp only; rw [hkg, List.append_assoc]⟩, by dsimp only; omega⟩
      · intro hB
        replace hB := dec_f hB
        have hii : i = nn := by omega
        refine W_exit (exit_then (exit_then (exit_here (at_then ?_))))
        refine W_rseq ?_
        refine op_assign rfl (.bool _) rfl ?_
        refine op_assign rfl (.int _ _) rfl ?_
        refine op_nil (at_then ?_)
        refine W_ret (leave2 (v1 := (.bool _)) (v2 := (.int _ _)) rfl rfl rfl rfl ?_)
        cases inner with
        | false =>
          dsimp only at hea
          refine ⟨by rw [hea]; rfl, M5, ?_, g5⟩
          rw [hea]
          rw [hvs rfl, List.append_nil] at hJ5
          exact hJ5
        | true =>
          dsimp only at hea
          have hkg := hkg rfl
          rw [List.drop_of_length_le (by omega), kidsG, List.append_nil] at hkg
          refine ⟨by rw [hea, hkg]; rfl, M5, ?_, g5⟩
          rw [hea, hkg]
          simpa using hJ5
theorem each7_ok {bt bd bp ba fr : Nat} {A : Dev} {P : List Nat} {F Z : Mut} {N l : Nat} {J : List Nd → Mut → World → Prop} (JO : JOk bt bd bp ba fr A P F Z N l J) (hfr : fr ≤ 5000) {mx : Nat} (hfew : Few A mx) (hmx : mx ≤ 1000000000) : ∀ n, EaSpec bt fr A P.length Z N l J n
  | 0 => each_step JO hfr hfew hmx 0 fun n' h => by omega
  | n + 1 => each_step JO hfr hfew hmx (n + 1) fun n' h => by obtain rfl : n = n' := by omega
                                                              exact each7_ok JO hfr hfew hmx n

end Go.Proofs.YtbkadlngijkmmaaGreatDoor

/- The nodes of a root, as an iterator: the walk. -/
namespace Go.Proofs.YtbkadlngijkmmaaGreatDoor
open Go.GV
theorem ag_127_TrEb : aggB Tryz.prog 127 = some false := by kernel_rfl
theorem ag_34_TrEb : aggB Tryz.prog 34 = some false := by kernel_rfl
theorem ca_128_TrEb : callable Tryz.prog 128 = true := by kernel_rfl
theorem sz_31_TrEb : tsize Tryz.prog 31 = some 1 := by kernel_rfl
attribute [local irreducible] Wops W Wq Wt

def nodesG (A : Dev) (fr sz : Nat) (root : Int) : Int × List Nd := if root = -1 then (0, []) else eachG A fr sz 18 root 0
theorem nodes_ok (bt be : Nat) (root : Int) (w : World) : Ret Tryz.prog 70 #[ptr bt, .int .i64 root, ptr be] w fun v w' => ∃ b3 b4 b5, v = .func (.func 127) #[] #[ptr b4, ptr b3, ptr b5] ∧ (∃ t, w'.heap[b4]? = some (Bl t [.int .i64 root])) ∧ (∃ t, w'.heap[b3]? = some (Bl t [ptr bt])) ∧ (∃ t, w'.heap[b5]? = some (Bl t [ptr be])) ∧ w.heap.size ≤ b4 ∧ w.heap.size ≤ b3 ∧ w.heap.size ≤ b5 ∧ Ext [] w w' := by
  obtain ⟨w0, rfl⟩ : ∃ w0, w0 = w := ⟨_, rfl⟩
  have H := Ctx.start w0 []
  refine ret_of_W (fn := Tryz.f70) Tryz.func70 rfl [.pointer (some ⟨bt, 0, none⟩), .int .i64 root, .pointer (some ⟨be, 0, none⟩)] rfl (by kernel_rfl) ?_
  refine W_rseq ?_
  refine op_box rfl _ (.pointer _) rfl rfl H ?_
  rintro b3 w - H
  refine op_box rfl _ (.int _ _) rfl rfl H ?_
  rintro b4 w - H
  refine op_box rfl _ (.pointer _) rfl rfl H ?_
  rintro b5 w - H
  refine op_assign rfl .nilFunc rfl ?_
  refine op_nil (at_then ?_)
  refine W_rseq ?_
  refine op_makeFuncL rfl [.pointer _, .pointer _, .pointer _] rfl ?_
  refine op_assign rfl (.func _ _ _) rfl ?_
  refine op_nil (at_then ?_)
  refine W_ret (leave1 (v := (.func _ _ _)) rfl rfl rfl ?_)
  have ho : ∀ x ∈ [(b5, Bl 127 [ptr be]), (b4, Bl 3 [.int .i64 root]), (b3, Bl 34 [ptr bt])], w0.heap.size ≤ x.1 := fun x hx => (H.own x hx).elim (fun h => by cases h) id
  exact ⟨b3, b4, b5, rfl, ⟨_, H.get at1⟩, ⟨_, H.get at2⟩, ⟨_, H.get at0⟩, ho (b4, _) (List.mem_cons_of_mem _ (List.mem_cons_self ..)), ho (b3, _) (List.mem_cons_of_mem _ (List.mem_cons_of_mem _ (List.mem_cons_self ..))), ho (b5, _) (List.mem_cons_self ..), H.ext⟩

set_option maxRecDepth 20000 in
set_option maxHeartbeats 4000000 in
theorem nodes1_ok {bt bd bp ba fr : Nat} {A : Dev} {P : List Nat} {F Z : Mut} {N l : Nat} {J : List Nd → Mut → World → Prop} (JO : JOk bt bd bp ba fr A P F Z N l J) (hfr : fr ≤ 5000) {mx : Nat} (hfew : Few A mx) (hmx : mx ≤ 1000000000) {w : World} {M : Mut} (hJ : J [] M w) (hZ : ∀ x, Z x → x < w.heap.size) {b3 b4 b5 be t3 t4 t5 te : Nat} {root : Int}
    (h4 : w.heap[b4]? = some (Bl t4 [.int .i64 root])) (h3 : w.heap[b3]? = some (Bl t3 [ptr bt])) (h5 : w.heap[b5]? = some (Bl t5 [ptr be])) (he : w.heap[be]? = some (Bl te [.int .i64 0])) (n4 : ¬ M b4) (n3 : ¬ M b3) (n5 : ¬ M b5) (ne : ¬ M be) (hr1 : -9223372036854775808 ≤ root) (hr2 : root ≤ 9223372036854775807) (hN : (nodesG A fr P.length root).2.length ≤ N) :
    Ret Tryz.prog 127 #[.func (.yield l) #[] #[], ptr b4, ptr b3, ptr b5] w fun _ w' => ∃ wx M', J (nodesG A fr P.length root).2 M' wx ∧ Grown M M' w wx ∧ Ext [be] wx w' ∧ w'.heap[be]? = some (Bl te [.int .i64 (nodesG A fr P.length root).1]) := by
  obtain ⟨w0, rfl⟩ : ∃ w0, w0 = w := ⟨_, rfl⟩
  obtain ⟨g, hg⟩ : ∃ g, g = nodesG A fr P.length root := ⟨_, rfl⟩
  rw [← hg] at hN ⊢
  unfold nodesG at hg
  refine ret_of_W (fn := Tryz.f127) Tryz.func127 rfl [.func (.yield l) #[] #[], .pointer (some ⟨b4, 0, none⟩), .pointer (some ⟨b3, 0, none⟩), .pointer (some ⟨b5, 0, none⟩)] rfl (by kernel_rfl) ?_
  have H := Ctx.start w0 []
  refine W_rseq ?_
  first | refine op_ldb rfl ag_3 rfl H (by first | exact at0 | exact at1 | exact at2 | exact at3 | exact at4 | exact at5 | exact at6 | exact at7 | exact at8 | exact at9) rfl ?_ | refine op_ld rfl ag_3 rfl ((by rw [cell_bl h4]; rfl)) ?_
  refine op_neq rfl rfl rfl ?_
  refine op_nil (at_then ?_)
  refine W_cond _ rfl ?_ ?_
  · intro hA
    replace hA := ndec_t hA
    rw [if_neg hA] at hg
    have hg' : g = eachG A fr P.length (17 + 1) root 0 := hg
    refine W_segz [([0, 1, 2, 3], 4), ([5, 6, 7, 8], 9)] (fun z => z.heap[b5]? = some (Bl t5 [ptr be]) ∧ z.heap[b3]? = some (Bl t3 [ptr bt]) ∧ z.heap[b4]? = some (Bl t4 [.int .i64 root])) [9] mixed (by kernel_rfl) (⟨h5, h3, h4⟩) ?_
    refine seg_cons rfl rfl ?_
    first | refine t_ldb rfl ag_127_TrEb rfl (fun _ _ => Ctx.start _ []) (by first | exact at0 | exact at1 | exact at2 | exact at3 | exact at4 | exact at5 | exact at6 | exact at7 | exact at8 | exact at9) rfl ?_ | refine t_ld rfl ag_127_TrEb rfl (fun _ hx => (by rw [cell_bl hx.1]; rfl)) ?_ | refine t_ld rfl ag_127_TrEb rfl (fun _ hx => (by rw [cell_bl hx.2.1]; rfl)) ?_ | refine t_ld rfl ag_127_TrEb rfl (fun _ hx => (by rw [cell_bl hx.2.2]; rfl)) ?_
    first | refine t_ldb rfl ag_34_TrEb rfl (fun _ _ => Ctx.start _ []) (by first | exact at0 | exact at1 | exact at2 | exact at3 | exact at4 | exact at5 | exact at6 | exact at7 | exact at8 | exact at9) rfl ?_ | refine t_ld rfl ag_34_TrEb rfl (fun _ hx => (by rw [cell_bl hx.1]; rfl)) ?_ | refine t_ld rfl ag_34_TrEb rfl (fun _ hx => (by rw [cell_bl hx.2.1]; rfl)) ?_ | refine t_ld rfl ag_34_TrEb rfl (fun _ hx => (by rw [cell_bl hx.2.2]; rfl)) ?_
    first | refine t_ldb rfl ag_3 rfl (fun _ _ => Ctx.start _ []) (by first | exact at0 | exact at1 | exact at2 | exact at3 | exact at4 | exact at5 | exact at6 | exact at7 | exact at8 | exact at9) rfl ?_ | refine t_ld rfl ag_3 rfl (fun _ hx => (by rw [cell_bl hx.1]; rfl)) ?_ | refine t_ld rfl ag_3 rfl (fun _ hx => (by rw [cell_bl hx.2.1]; rfl)) ?_ | refine t_ld rfl ag_3 rfl (fun _ hx => (by rw [cell_bl hx.2.2]; rfl)) ?_
    refine t_move rfl (.func _ _ _) rfl ?_
    refine t_nil ?_
    skip
    refine op_call rfl ca_128_TrEb (each7_ok JO hfr hfew hmx 17 (JO.ext hJ (Ext.drew [] w0)) hZ root 0 (by omega) hr1 hr2 (by rw [← hg']; simpa using hN)) rfl ?_
    rintro v w3 ⟨rfl, M3, hJ3, g3⟩
    rw [← hg', List.nil_append] at hJ3
    rw [← hg']
    have gg := (Grown.call0 (Ext.drew [] w0)).trans g3
    have H := Ctx.start1 (gg.keep he ne)
    refine op_nil (at_seg (⟨gg.keep h5 n5, gg.keep h3 n3, gg.keep h4 n4⟩) ?_)
    refine seg_cons rfl rfl ?_
    refine t_move rfl (.tuple _) rfl ?_
    refine t_extract rfl rfl rfl ?_
    refine t_extract rfl rfl rfl ?_
    refine t_nilCheck rfl rfl ?_
    refine t_nil ?_
    refine op_stb (.int _ _) rfl sz_31_TrEb rfl rfl rfl H (by first | exact at0 | exact at1 | exact at2 | exact at3 | exact at4 | exact at5 | exact at6 | exact at7 | exact at8 | exact at9) (by first | decide | (simp; done) | (simp; omega)) ?_
    rintro w H
    refine op_nil (at_segz rfl ?_)
    refine seg_nil ?_
    refine leave0n rfl rfl ?_
    exact ⟨w3, M3, hJ3, gg, H.ext, H.get at0⟩
  · intro hA
    replace hA := ndec_f hA
    rw [if_pos (by simpa using hA)] at hg
    refine W_skip (leave0n rfl rfl ?_)
    exact ⟨w0, M, by rw [hg]; exact hJ, .call0 (.refl _ _), .refl _ _, by rw [hg]; exact he⟩

end Go.Proofs.YtbkadlngijkmmaaGreatDoor

/- Pages sorted; what rounds over nodes gather in a slice. -/
namespace Go.Proofs.YtbkadlngijkmmaaGreatDoor
open Go.GV
attribute [local irreducible] Wops W Wq Wt

def iv (x : Int) : Value := .int .i64 x
abbrev sortZ (l : List Int) : List Int := l.mergeSort fun x y => decide (x ≤ y)
theorem putCellsI_list (full : List Value) (ts : List Int) (h : ts.length ≤ full.length) : (Go.Sort.putCells (Value.int .i64) 0 ts.toArray full.toArray).toList = ts.map iv ++ full.drop ts.length := by
  apply List.ext_getElem?
  intro j
  by_cases hj : j < ts.length
  · rw [List.getElem?_append_left (by simpa using hj), Array.getElem?_toList]
    simp [Go.Sort.putCells, hj, show j < full.length by omega, iv]
  · rw [List.getElem?_append_right (by simp; omega), Array.getElem?_toList, List.getElem?_drop]
    by_cases h2 : j < full.length
    · simp [Go.Sort.putCells, hj, h2, show ts.length + (j - ts.length) = j by omega]
    · rw [List.getElem?_eq_none (by simp; omega)]
      simp [Go.Sort.putCells, h2]
theorem sort7_ok {w : World} {b t c : Nat} {full : List Value} {l : List Int} (hb : w.heap[b]? = some (Bl t full)) (hl : full.take l.length = l.map iv) (hf : l.length ≤ full.length) (hsz : l.length ≤ 1000000) :
    Ret Tryz.prog 76 #[.slice (some ⟨b, 0, none⟩) l.length c] w fun v w' => v = .tuple #[] ∧ w'.heap[b]? = some (Bl t ((sortZ l).map iv ++ full.drop l.length)) ∧ Ext [b] w w' := by
  have hH := Go.holds_of_blockI (ss := l) hb (by rw [List.toList_toArray]; exact hl)
  have h := Go.Proofs.AnyM.slices_Sort_int Tryz.sortA b 0 c l w hH (heap_lt hb) (by omega)
  refine CallsIn.mono (callsIn_wide.2 h) ?_
  rintro e w' ⟨rfl, n, os, rfl⟩
  have g := Go.grownBy_sortedI (n := n) (os := os) (w := w) (g := b) (sortZ l).toArray
  refine ⟨_, rfl, rfl, ?_, ?_⟩
  · rw [Go.heap_sortedI (sortZ l).toArray hb]
    have h1 := putCellsI_list full (sortZ l) (by rw [List.length_mergeSort]; exact hf)
    rw [List.length_mergeSort] at h1
    show some (Obj.cells _ t (0, 0)) = some (Obj.cells _ t (0, 0))
    rw [← h1]
  · obtain ⟨g1, g2, g3, g4, g5⟩ := g
    exact ⟨g1, g2, g3, g4, fun x hx hn => g5 x hx (by simpa using fun e => hn (by simp [e]))⟩
theorem sort7_nil (c : Nat) (w : World) : Ret Tryz.prog 76 #[.slice none 0 c] w fun v w' => v = .tuple #[] ∧ w = w' := by
  refine CallsIn.mono (callsIn_wide.2 (Go.Proofs.AnyM.slices_Sort_int_none Tryz.sortA none c w)) ?_
  rintro e w' ⟨rfl, rfl⟩
  exact ⟨_, rfl, rfl, rfl⟩

/-! ### What the rounds gather -/
/-- The slice that rounds gather, in a cell of the function's own: b; the record of the loop: l. -/
structure GJ (w0 : World) (bt bd bp ba fr : Nat) (A : Dev) (P : List Nat) (F : Mut) (tL tE s b l : Nat) (lo : Loop) (vals : List Value) (M : Mut) (w : World) (a : Option Addr) (n c : Nat) (full : List Value) : Prop where
  M : M = fun x => x = l ∨ x ∈ ((b, Bl tL [.slice a n c]) :: ent a tE full).map (·.1)
  tx : Tx w bt bd bp ba fr A P F []
  loop : w.heap[l]? = some (.loop lo)
  blk : ∀ y ∈ (b, Bl tL [.slice a n c]) :: ent a tE full, w.heap[y.1]? = some y.2 ∧ w0.heap.size ≤ y.1 ∧ y.1 ≠ l
  nd : ((b, Bl tL [.slice a n c]) :: ent a tE full).Pairwise fun x y => x.1 ≠ y.1
  os : OS a n c s full vals
section
variable {w0 w wR wE wF : World} {bt bd bp ba fr : Nat} {A : Dev} {P : List Nat} {F M : Mut} {tL tE s b l : Nat} {lo lo2 : Loop} {vals vals' : List Value} {a a' : Option Addr} {n n' c c' : Nat} {full full' : List Value}
theorem GJ.lt (G : GJ w0 bt bd bp ba fr A P F tL tE s b l lo vals M w a n c full) : ∀ x, M x → x < w.heap.size := fun x h => by
  rw [G.M] at h
  rcases h with rfl | h
  · exact heap_lt G.loop
  · obtain ⟨y, hy, rfl⟩ := List.mem_map.1 h
    exact heap_lt (G.blk y hy).1
theorem GJ.ext (G : GJ w0 bt bd bp ba fr A P F tL tE s b l lo vals M w a n c full) {w' : World} (hx : Ext [] w w') : GJ w0 bt bd bp ba fr A P F tL tE s b l lo vals M w' a n c full :=
  ⟨G.M, G.tx.call hx, by rw [hx.block l (heap_lt G.loop) (by simp)]; exact G.loop, fun y hy => ⟨by rw [hx.block y.1 (heap_lt (G.blk y hy).1) (by simp)]; exact (G.blk y hy).1, (G.blk y hy).2⟩, G.nd, G.os⟩
/-- The round's body: the loop's record is busy. -/
theorem GJ.body (G : GJ w0 bt bd bp ba fr A P F tL tE s b l lo vals M w a n c full) (hxR : Ext [l] w wR) : Ctx wR (((b, Bl tL [.slice a n c]) :: ent a tE full).map (·.1)) wR ((b, Bl tL [.slice a n c]) :: ent a tE full) :=
  Ctx.startL (fun y hy => by rw [hxR.block y.1 (heap_lt (G.blk y hy).1) (by simpa using (G.blk y hy).2.2)]; exact (G.blk y hy).1) G.nd
theorem GJ.next (G : GJ w0 bt bd bp ba fr A P F tL tE s b l lo vals M w a n c full) (h0 : ∀ x, TM F ba bt bp [] x → x < w0.heap.size) (hl0 : w0.heap.size ≤ l) (hxR : Ext [l] w wR)
    (H : Ctx wR (((b, Bl tL [.slice a n c]) :: ent a tE full).map (·.1)) wE ((b, Bl tL [.slice a' n' c']) :: ent a' tE full')) (hO : OS a' n' c' s full' vals') (hxF : Ext [l] wE wF) (hlF : wF.heap[l]? = some (.loop lo)) :
    GJ w0 bt bd bp ba fr A P F tL tE s b l lo vals' (fun x => x = l ∨ x ∈ ((b, Bl tL [.slice a' n' c']) :: ent a' tE full').map (·.1)) wF a' n' c' full' ∧ Grown M (fun x => x = l ∨ x ∈ ((b, Bl tL [.slice a' n' c']) :: ent a' tE full').map (·.1)) w wF := by
  have hll := heap_lt G.loop
  have hsR := hxR.size
  have hnew : ∀ y ∈ (b, Bl tL [.slice a' n' c']) :: ent a' tE full', w0.heap.size ≤ y.1 ∧ y.1 ≠ l ∧ (y.1 ∈ ((b, Bl tL [.slice a n c]) :: ent a tE full).map (·.1) ∨ w.heap.size ≤ y.1) := fun y hy => by
    have hsz : w0.heap.size ≤ w.heap.size := by omega
    rcases H.own y hy with h | h
    · obtain ⟨z, hz, he⟩ := List.mem_map.1 h
      exact ⟨by rw [← he]; exact (G.blk z hz).2.1, by rw [← he]; exact (G.blk z hz).2.2, .inl h⟩
    · exact ⟨by omega, by omega, .inr (by omega)⟩
  have hx : Ext (l :: ((b, Bl tL [.slice a n c]) :: ent a tE full).map (·.1)) w wF :=
    ((hxR.mono (fun x h => by rw [List.mem_singleton.1 h]; exact List.mem_cons_self ..)).trans (H.ext.mono fun x h => List.mem_cons_of_mem _ h)).trans (hxF.mono fun x h => by rw [List.mem_singleton.1 h]; exact List.mem_cons_self ..)
  refine ⟨⟨rfl, G.tx.side hx fun x h hT => ?_, hlF, fun y hy => ⟨?_, (hnew y hy).1, (hnew y hy).2.1⟩, H.nd, hO⟩, ⟨⟨_, fun x h => ?_, hx⟩, fun x h => ?_⟩⟩
  · have := h0 x hT
    rcases List.mem_cons.1 h with rfl | h
    · omega
    · obtain ⟨y, hy, rfl⟩ := List.mem_map.1 h
      have := (G.blk y hy).2.1; omega
  · rw [hxF.block y.1 (heap_lt (H.blk y hy)) (by simpa using (hnew y hy).2.1)]; exact H.blk y hy
  · rw [G.M]
    rcases List.mem_cons.1 h with rfl | h
    · exact .inl rfl
    · exact .inr h
  · rw [G.M]
    rcases h with rfl | h
    · exact .inl (.inl rfl)
    · obtain ⟨y, hy, rfl⟩ := List.mem_map.1 h
      exact (hnew y hy).2.2.imp .inr id
end
/-- A body is left, its results in two cells. -/
theorem leaveM2cc {P : Program} {e : Env} {w : World} {fn : Func} {R : Value → World → Prop} {a1 a2 : Tmp} {t1 t2 : TypeId} {b1 b2 : Nat} (hr : fn.results = #[.cell a1 t1, .cell a2 t2]) (h1 : e.g a1 = .pointer (some ⟨b1, 0, none⟩)) (h2 : e.g a2 = .pointer (some ⟨b2, 0, none⟩)) (hg1 : aggB P t1 = some false) (hg2 : aggB P t2 = some false)
    (h : Marks e.ds w fun w' => ∃ v1 v2 x1 x2 l1 l2, w'.heap[b1]? = some (Bl x1 (v1 :: l1)) ∧ w'.heap[b2]? = some (Bl x2 (v2 :: l2)) ∧ R (.tuple #[v1, v2]) w') : QretM P fn R .ret e w :=
  Marks.mono (fun w' ⟨v1, v2, x1, x2, l1, l2, hb1, hb2, hR⟩ tmps ht => by
    have g1 := (ht a1).trans h1
    have g2 := (ht a2).trans h2
    rw [Array.getD_eq_getD_getElem?] at g1 g2
    have k1 : (loadVar t1 ⟨b1, 0, none⟩).run P w' = .ok v1 w' := run_load1 hg1 (by rw [cell_bl hb1]; rfl)
    have k2 : (loadVar t2 ⟨b2, 0, none⟩).run P w' = .ok v2 w' := run_load1 hg2 (by rw [cell_bl hb2]; rfl)
    exact ⟨_, by simp [results, hr, g1, g2, asAddr, k1, k2], hR⟩) h

end Go.Proofs.YtbkadlngijkmmaaGreatDoor

/- The pages of a root: the walk. -/
namespace Go.Proofs.YtbkadlngijkmmaaGreatDoor
open Go.GV
theorem ag_31_TrEd : aggB Tryz.prog 31 = some false := by kernel_rfl
theorem by_3_TrEd : tbytes Tryz.prog 3 = some 8 := by kernel_rfl
theorem ca_127_TrEd : callable Tryz.prog 127 = true := by kernel_rfl
theorem ca_64_TrEd : callable Tryz.prog 64 = true := by kernel_rfl
theorem ca_70_TrEd : callable Tryz.prog 70 = true := by kernel_rfl
theorem ca_76_TrEd : callable Tryz.prog 76 = true := by kernel_rfl
theorem sz_31_TrEd : tsize Tryz.prog 31 = some 1 := by kernel_rfl
theorem zc_31_TrEd : zcells Tryz.prog 31 = some ([.int .i64 0]) := by kernel_rfl
theorem zc_3_TrEd : zcells Tryz.prog 3 = some ([.int .i64 0]) := by kernel_rfl
theorem zc_57_TrEd : zcells Tryz.prog 57 = some ([.slice none 0 0]) := by kernel_rfl
attribute [local irreducible] Wops W Wq Wt

theorem mark_end {w6 w : World} {ids : List Nat} {L' : List (Nat × Obj)} (H : Ctx w6 ids w L') {Db : Nat} (hD6 : w6.heap[Db]? = some (.deferred (some []))) (hids : Db ∉ ids) {K : World → Prop} {ds : List Deferred} (hds : ds = [{ target := .collected Db, args := #[] }])
    (hK : ∀ wF, Ext [Db] w wF → (∀ (b t : Nat) (l : List Value), w.heap[b]? = some (Bl t l) → wF.heap[b]? = some (Bl t l)) → K wF) : Marks ds w K := by
  have hD : w.heap[Db]? = some (.deferred (some [])) := by rw [H.ext.block Db (heap_lt hD6) hids]; exact hD6
  subst hds
  refine ⟨Db, rfl, hD, hK _ (Ext.setB w Db _) fun b t l hb => ?_⟩
  rw [(Ext.setB w Db _).block b (heap_lt hb) (by
    rw [List.mem_singleton]
    rintro rfl
    rw [hD] at hb
    cases hb)]
  exact hb
theorem sortO_ok {w : World} {a : Option Addr} {n c t : Nat} {full : List Value} {l : List Int} (O : OS a n c 1 full (l.map iv)) (hb : ∀ y ∈ ent a t full, w.heap[y.1]? = some y.2) (hsz : l.length ≤ 1000000) :
    Ret Tryz.prog 76 #[.slice a n c] w fun v w' => v = .tuple #[] ∧ ∃ full', (∀ y ∈ ent a t full', w'.heap[y.1]? = some y.2) ∧ OS a n c 1 full' ((sortZ l).map iv) ∧ Ext ((ent a t full).map (·.1)) w w' := by
  have hn : n = l.length := O.num
  cases ha : a with
  | none =>
    have h0 := O.none' ha
    have h1 := O.le
    have hl : l = [] := List.eq_nil_of_length_eq_zero (by omega)
    subst hl hn ha
    refine Ret.mono (sort7_nil c w) ?_
    rintro v w' ⟨rfl, rfl⟩
    exact ⟨rfl, full, (fun y hy => by cases hy), by simpa [sortZ] using O, .refl _ _⟩
  | some p =>
    have hp := O.zero p ha
    subst ha
    rw [hp] at hb O ⊢
    have h2 := O.len
    have h3 := O.le
    have hpre := O.pre
    rw [Nat.mul_one] at hpre h2
    subst hn
    refine Ret.mono (sort7_ok (c := c) (hb (p.block, _) (List.mem_singleton.2 rfl)) hpre (by omega) hsz) ?_
    rintro v w' ⟨rfl, h4, h5⟩
    refine ⟨rfl, _, fun y hy => by rw [List.mem_singleton.1 hy]; exact h4, ⟨O.zero, O.none', ?_, O.le, ?_⟩, h5⟩
    · rw [List.length_append, List.length_map, List.length_mergeSort, List.length_drop]; omega
    · rw [Nat.mul_one, List.take_left' (by rw [List.length_map, List.length_mergeSort])]
theorem _root_.Go.GV.Ctx.sorted {w6 w7 : World} {S : List Nat} {b5 b4 t : Nat} {o5 o4 : Obj} {a : Option Addr} {full full' : List Value} (H : Ctx w6 S w6 ((b5, o5) :: (b4, o4) :: ent a t full)) (hf : ∀ y ∈ ent a t full', w7.heap[y.1]? = some y.2) (hx : Ext ((ent a t full).map (·.1)) w6 w7)
    (h4 : ∀ y ∈ ent a t full, b4 ≠ y.1) (h5 : ∀ y ∈ ent a t full, b5 ≠ y.1) (hS : S = ((b5, o5) :: (b4, o4) :: ent a t full).map (·.1)) : Ctx w6 S w7 ((b5, o5) :: (b4, o4) :: ent a t full') := by
  subst hS
  have hid : ∀ y ∈ ent a t full', ∃ z ∈ ent a t full, z.1 = y.1 := fun y hy => by
    cases a with
    | none => cases hy
    | some q => rw [List.mem_singleton.1 hy]; exact ⟨_, List.mem_singleton.2 rfl, rfl⟩
  have hnd := List.pairwise_cons.1 H.nd
  refine ⟨hx.mono fun x h => List.mem_cons_of_mem _ (List.mem_cons_of_mem _ h), fun y hy => ?_, List.pairwise_cons.2 ⟨fun y hy => ?_, List.pairwise_cons.2 ⟨fun y hy => ?_, ?_⟩⟩, fun y hy => .inl ?_⟩
  · rcases List.mem_cons.1 hy with rfl | hy
    · rw [hx.block b5 (heap_lt (H.get at0)) fun h => by obtain ⟨y, hy, he⟩ := List.mem_map.1 h; exact h5 y hy he.symm]
      exact H.get at0
    · rcases List.mem_cons.1 hy with rfl | hy
      · rw [hx.block b4 (heap_lt (H.get at1)) fun h => by obtain ⟨y, hy, he⟩ := List.mem_map.1 h; exact h4 y hy he.symm]
        exact H.get at1
      · exact hf y hy
  · rcases List.mem_cons.1 hy with rfl | hy
    · exact hnd.1 _ (List.mem_cons_self ..)
    · obtain ⟨z, hz, he⟩ := hid y hy
      rw [← he]; exact h5 z hz
  · obtain ⟨z, hz, he⟩ := hid y hy
    rw [← he]; exact h4 z hz
  · cases a with
    | none => exact List.Pairwise.nil
    | some q => exact List.pairwise_singleton ..
  · rcases List.mem_cons.1 hy with rfl | hy
    · exact List.mem_cons_self ..
    · rcases List.mem_cons.1 hy with rfl | hy
      · exact List.mem_cons_of_mem _ (List.mem_cons_self ..)
      · obtain ⟨z, hz, he⟩ := hid y hy
        rw [← he]
        exact List.mem_cons_of_mem _ (List.mem_cons_of_mem _ (List.mem_map.2 ⟨z, hz, rfl⟩))
def walkT (A : Dev) (fr sz : Nat) (root : Int) : Int × List Int :=
  if mayE sz root ≠ 0 then (1, []) else if (nodesG A fr sz root).1 ≠ 0 then ((nodesG A fr sz root).1, []) else (0, sortZ ((nodesG A fr sz root).2.map (·.1)))

set_option maxRecDepth 20000 in
set_option maxHeartbeats 8000000 in
theorem walk7_ok {fr : Nat} (hfr : fr ≤ 5000) {w : World} {bt bd bp ba : Nat} {A : Dev} {P : List Nat} {F : Mut} (T : Tx w bt bd bp ba fr A P F []) (root : Int) (hr1 : -9223372036854775808 ≤ root) (hr2 : root ≤ 9223372036854775807) {mx : Nat} (hfew : Few A mx) (hmx : mx ≤ 1000000000) (hN : (nodesG A fr P.length root).2.length ≤ 100000) :
    Ret Tryz.prog 28 #[ptr bt, .int .i64 root] w fun v w' => ∃ a c, v = .tuple #[.slice a (walkT A fr P.length root).2.length c, .int .i64 (walkT A fr P.length root).1] ∧ Rd w' a 1 (fun x : Int => [.int .i64 x]) (walkT A fr P.length root).2 ∧ ((walkT A fr P.length root).2 = [] ∨ w.heap.size ≤ (adr a).block) ∧ (walkT A fr P.length root).2.length ≤ c ∧ Ext [] w w' := by
  obtain ⟨w0, rfl⟩ : ∃ w0, w0 = w := ⟨_, rfl⟩
  obtain ⟨wt, hwt⟩ : ∃ wt, wt = walkT A fr P.length root := ⟨_, rfl⟩
  rw [← hwt]
  unfold walkT at hwt
  have h0 := T.mlt
  have H := Ctx.start w0 []
  refine ret_of_WM (fn := Tryz.f28) Tryz.func28 rfl [.pointer (some ⟨bt, 0, none⟩), .int .i64 root] rfl (by kernel_rfl) ?_
  refine W_rseq ?_
  refine op_alloc rfl zc_57_TrEd H ?_
  rintro b4 w - H
  refine op_alloc rfl zc_31_TrEd H ?_
  rintro b5 w - H
  refine op_nil (at_then ?_)
  refine W_seq ?_
  refine W_rseq ?_
  refine op_move rfl (.pointer _) rfl ?_
  refine op_move rfl (.int _ _) rfl ?_
  refine op_call rfl ca_64_TrEd (may7_ok (T.call H.ext) root) rfl ?_
  rintro v w2 ⟨rfl, rfl⟩
  refine op_assign rfl (.int _ _) rfl ?_
  refine op_nil (at_then ?_)
  refine W_rseq ?_
  refine op_move rfl (.int _ _) rfl ?_
  refine op_neq rfl rfl rfl ?_
  refine op_nil (at_then ?_)
  refine W_cond _ rfl ?_ ?_
  · intro hA
    replace hA := ndec_t hA
    rw [if_pos hA] at hwt
    have he : mayE P.length root = 1 := by unfold mayE at hA ⊢; split <;> simp_all
    rw [he]
    refine W_rseq ?_
    refine op_move rfl (.int _ _) rfl ?_
    refine op_stb (.slice _ _ _) rfl sz_57 rfl rfl rfl H (by first | exact at0 | exact at1 | exact at2 | exact at3 | exact at4 | exact at5 | exact at6 | exact at7 | exact at8 | exact at9) (by first | decide | (simp; done) | (simp; omega)) ?_
    rintro w H
    refine op_stb (.int _ _) rfl sz_31_TrEd rfl rfl rfl H (by first | exact at0 | exact at1 | exact at2 | exact at3 | exact at4 | exact at5 | exact at6 | exact at7 | exact at8 | exact at9) (by first | decide | (simp; done) | (simp; omega)) ?_
    rintro w H
    refine op_nil (at_then ?_)
    refine W_ret (ret_then ?_)
    refine leaveM2cc rfl rfl rfl ag_57 ag_31_TrEd ?_
    exact ⟨_, _, _, _, _, _, H.get at1, H.get at0, none, 0, by rw [hwt]; rfl, by rw [hwt]; exact Rd.nil, by rw [hwt]; exact .inl rfl, by rw [hwt]; exact Nat.le_refl _, H.ext⟩
  · intro hA
    replace hA := ndec_f hA
    rw [if_neg (by simpa using hA)] at hwt
    obtain ⟨ng, hng⟩ : ∃ ng, ng = nodesG A fr P.length root := ⟨_, rfl⟩
    rw [← hng] at hwt hN
    refine W_skip (at_then ?_)
    refine W_seq ?_
    refine W_rseq ?_
    refine op_move rfl (.pointer _) rfl ?_
    refine op_move rfl (.int _ _) rfl ?_
    have hb4w := H.lt (k := 1) rfl
    have hb5w := H.lt (k := 0) rfl
    refine op_call rfl ca_70_TrEd (nodes_ok bt b5 root _) rfl ?_
    rintro v w3 ⟨x3, x4, x5, rfl, ⟨t4, hx4⟩, ⟨t3, hx3⟩, ⟨t5, hx5⟩, n4, n3, n5, hxn⟩
    replace H := H.call hxn
    refine op_nil (at_then ?_)
    refine W_block ?_
    refine W_rangeFunc rfl ca_127_TrEd ?_
    intro fn tmps hts htm Db l w2 hDb hl hx2 hD hrec
    obtain ⟨lo, hlo, hrec'⟩ : ∃ lo, lo = _ ∧ w2.heap[l]? = some (.loop lo) := ⟨_, rfl, hrec⟩
    have hw03 := H.ext
    have hs03 := hw03.size
    have hs32 := hx2.size
    have up2 : ∀ {b : Nat} {o : Obj}, w3.heap[b]? = some o → w2.heap[b]? = some o := fun {b o} g => by rw [hx2.block b (heap_lt g) (by simp)]; exact g
    have hb4 := H.get at1
    have hb5 := H.get at0
    have hb45 := H.ne at1 at0 (by decide)
    have ho4 : w0.heap.size ≤ b4 := (H.own _ (List.mem_cons_of_mem _ (List.mem_cons_self ..))).elim (fun h => by cases h) id
    have ho5 : w0.heap.size ≤ b5 := (H.own _ (List.mem_cons_self ..)).elim (fun h => by cases h) id
    have hl4 := heap_lt hb4
    have hl5 := heap_lt hb5
    have hxl4 := heap_lt hx4
    have hxl3 := heap_lt hx3
    have hxl5 := heap_lt hx5
    have hN' : (nodesG A fr P.length root).2.length ≤ 100000 := by rw [← hng]; exact hN
    have JO : JOk bt bd bp ba fr A P F Z0 100000 l (fun v M w => ∃ a n c full, GJ w0 bt bd bp ba fr A P F 57 3 1 b4 l lo (v.map fun x => iv x.1) M w a n c full) := by
      refine ⟨fun {v M w} h => ?_, fun {v M w w'} h hx => ?_, fun {v M w} h => ?_, ?_⟩
      · obtain ⟨a, n, c, full, G⟩ := h
        exact G.lt
      · obtain ⟨a, n, c, full, G⟩ := h
        exact ⟨a, n, c, full, G.ext hx⟩
      · obtain ⟨a, n, c, full, G⟩ := h
        exact G.tx
      · rintro v M w page i a7 n7 c7 L7 ⟨a, n, c, full, G⟩ hv I hL hLb hpg
        have hn : n = v.length := by have := G.os.num; exact this
        have hloop := G.loop
        subst hlo
        refine yield_of hloop rfl (round_of_W _ (sim_two hts htm (by decide) (by decide)) (by kernel_rfl) ?_)
        refine W_region ?_
        refine op_assign rfl (.int _ _) rfl ?_
        refine op_nil ?_
        refine begin_of hloop rfl ?_
        intro wR lo2 hxR hlR hlo2
        have H := G.body hxR
        have O := G.os
        refine W_block ?_
        refine W_region ?_
        refine op_ldb rfl ag_57 rfl H (by first | exact at0 | exact at1 | exact at2 | exact at3 | exact at4 | exact at5 | exact at6 | exact at7 | exact at8 | exact at9) rfl ?_
        refine op_move rfl (.int _ _) rfl ?_
        refine op_build1 [.int .i64 page] (.int .i64 page) rfl el_57 sz_3 zc_3_TrEd rfl (by decide) (by decide) rfl rfl rfl H ?_
        rintro b21 w - H
        refine op_appendb (L := [_]) rfl el_57 el_57 sz_3 by_3_TrEd zc_3_TrEd rfl (by decide) rfl rfl H O rfl (by simp [oneCell]) (by omega) ?_
        rintro a22 c22 f22 w H O22
        refine op_stb (.slice _ _ _) rfl sz_57 rfl rfl rfl H (by first | exact at0 | exact at1 | exact at2 | exact at3 | exact at4 | exact at5 | exact at6 | exact at7 | exact at8 | exact at9) (by first | decide | (simp; done) | (simp; omega)) ?_
        rintro w H
        refine op_nil (at_block ?_)
        have H9 := H
        have hlE : w.heap[l]? = some (.loop lo2) := by
          rw [H9.ext.block l (heap_lt hlR) fun h => ?_]
          · exact hlR
          · obtain ⟨y, hy, he⟩ := List.mem_map.1 h
            exact (G.blk y hy).2.2 he
        refine round_end hlE hlo2 rfl rfl ?_
        intro wF hxF hlF
        have O23 : OS a22 (n + 1) c22 1 f22 ((v ++ [(page, i, L7)]).map fun x => iv x.1) := by rw [List.map_append]; exact O22
        obtain ⟨G9, g9⟩ := G.next h0 (by omega) hxR H9 O23 hxF hlF
        exact ⟨rfl, _, ⟨a22, n + 1, c22, f22, G9⟩, g9⟩
    have hJ0 : (fun (v : List Nd) (M : Mut) (w : World) => ∃ a n c full, GJ w0 bt bd bp ba fr A P F 57 3 1 b4 l lo (v.map fun x => iv x.1) M w a n c full) [] (fun x => x = l ∨ x ∈ ((b4, Bl 57 [.slice none 0 0]) :: ent none 3 []).map (·.1)) w2 := by
      refine ⟨none, 0, 0, [], rfl, T.call (hw03.trans hx2), hrec', fun y hy => ?_, List.pairwise_singleton .., OS.nil⟩
      rw [List.mem_singleton.1 hy]
      exact ⟨up2 hb4, ho4, by dsimp only; omega⟩
    have hnM : ∀ x, x ≠ l → x ≠ b4 → ¬ (x = l ∨ x ∈ ((b4, Bl 57 [.slice none 0 0]) :: ent none 3 []).map (·.1)) := fun x h1 h2 h => by
      rcases h with h | h
      · exact h1 h
      · exact h2 (by simpa [ent] using h)
    refine Ret.mono (nodes1_ok JO hfr hfew hmx hJ0 (fun x h => h.elim) (up2 hx4) (up2 hx3) (up2 hx5) (up2 hb5) (hnM _ (by omega) (by omega)) (hnM _ (by omega) (by omega)) (hnM _ (by omega) (by omega)) (hnM _ (by omega) (Ne.symm hb45)) hr1 hr2 hN') ?_
    rintro v w4 ⟨wx, Mx, ⟨a, n, c, full, G⟩, gx, hx5w, he5⟩
    rw [← hng] at G he5
    have hloop := G.loop
    have hb5l : b5 ≠ l := by omega
    have hx1 : w4.heap[l]? = some (.loop lo) := by rw [hx5w.block l (heap_lt hloop) (by simpa using fun h => hb5l h.symm)]; exact hloop
    refine ⟨_, hx1, by subst hlo; exact (fun h => by cases h), jumped_none (by rw [hlo]) ?_⟩
    have hx6 := Ext.setB w4 l (.loop { lo with state := .exhausted })
    generalize w4.putObj l (.loop { lo with state := .exhausted }) = w6 at hx6 ⊢
    have hEnt : ∀ y ∈ (b4, Bl 57 [.slice a n c]) :: ent a 3 full, w6.heap[y.1]? = some y.2 := fun y hy => by
      have h1 := G.blk y hy
      have h2 : y.1 ≠ b5 := fun e => by
        rcases gx.2 y.1 (by rw [G.M]; exact .inr (List.mem_map.2 ⟨y, hy, rfl⟩)) with h | h
        · exact hnM y.1 h1.2.2 (fun e4 => hb45 (e4 ▸ e)) h
        · omega
      rw [hx6.block y.1 (Nat.lt_of_lt_of_le (heap_lt h1.1) hx5w.size) (by simpa using h1.2.2), hx5w.block y.1 (heap_lt h1.1) (by simpa using h2)]; exact h1.1
    have hb56 : w6.heap[b5]? = some (Bl 31 [.int .i64 ng.1]) := by
      rw [hx6.block b5 (heap_lt he5) (by simpa using hb5l)]; exact he5
    obtain ⟨⟨Sg, hSg, hxg⟩, hgg⟩ := gx
    have hsx := hxg.size
    have hs45 := hx5w.size
    have hs46 := hx6.size
    have hM2 : ∀ x, (x = l ∨ x ∈ ((b4, Bl 57 [.slice none 0 0]) :: ent none 3 []).map (·.1)) → x = l ∨ x = b4 := fun x h => h.imp id fun h => by simpa [ent] using h
    have E06 : Ext [] w0 w6 := (((hw03.trans hx2).then hxg fun x h => .inr (by rcases hM2 x (hSg x h) with h | h <;> omega)).then hx5w fun x h => .inr (by rw [List.mem_singleton.1 h]; exact ho5)).then hx6 fun x h => .inr (by rw [List.mem_singleton.1 h]; omega)
    have hD6 : w6.heap[Db]? = some (.deferred (some [])) := by
      rw [hx6.block Db (by have := heap_lt hD; omega) (by rw [List.mem_singleton]; omega), hx5w.block Db (by have := heap_lt hD; omega) (by rw [List.mem_singleton]; omega), hxg.block Db (heap_lt hD) fun h => by rcases hM2 _ (hSg _ h) with h | h <;> omega]
      exact hD
    have hEne : ∀ y ∈ (b4, Bl 57 [.slice a n c]) :: ent a 3 full, b5 ≠ y.1 := fun y hy e => by
      have h1 := G.blk y hy
      rcases hgg y.1 (by rw [G.M]; exact .inr (List.mem_map.2 ⟨y, hy, rfl⟩)) with h | h
      · rcases hM2 _ h with h | h
        · exact hb5l (e.trans h)
        · exact hb45 (h ▸ e ▸ rfl)
      · omega
    have hEge : ∀ x ∈ (((b5, Bl 31 [.int .i64 ng.1]) :: (b4, Bl 57 [.slice a n c]) :: ent a 3 full).map (·.1)), w0.heap.size ≤ x ∧ x ≠ Db := fun x h => by
      obtain ⟨y, hy, rfl⟩ := List.mem_map.1 h
      rcases List.mem_cons.1 hy with rfl | hy
      · exact ⟨ho5, by dsimp only; omega⟩
      · refine ⟨(G.blk y hy).2.1, fun e => ?_⟩
        have h1 := hEnt y hy
        rw [e, hD6] at h1
        rcases List.mem_cons.1 hy with rfl | hy
        · cases h1
        · cases ha : a with
          | none => rw [ha] at hy; cases hy
          | some q => rw [ha] at hy; rw [List.mem_singleton.1 hy] at h1; cases h1
    have H := Ctx.startL (L := (b5, Bl 31 [.int .i64 ng.1]) :: (b4, Bl 57 [.slice a n c]) :: ent a 3 full) (w := w6) (fun y hy => by
      rcases List.mem_cons.1 hy with rfl | hy
      · exact hb56
      · exact hEnt y hy) (List.pairwise_cons.2 ⟨hEne, G.nd⟩)
    have hnn : n = ng.2.length := by have := G.os.num; exact this
    have hDn : Db ∉ (((b5, Bl 31 [.int .i64 ng.1]) :: (b4, Bl 57 [.slice a n c]) :: ent a 3 full).map (·.1)) := fun h => (hEge Db h).2 rfl
    refine at_block (at_then ?_)
    refine W_seq ?_
    refine W_rseq ?_
    refine op_ldb rfl ag_31_TrEd rfl H (by first | exact at0 | exact at1 | exact at2 | exact at3 | exact at4 | exact at5 | exact at6 | exact at7 | exact at8 | exact at9) rfl ?_
    refine op_neq rfl rfl rfl ?_
    refine op_nil (at_then ?_)
    refine W_cond _ rfl ?_ ?_
    · intro hB
      replace hB := ndec_t hB
      rw [if_pos hB] at hwt
      refine W_sseqz [([0], 1), ([], 2)] (fun z => z.heap[b5]? = some (Bl 31 [.int .i64 ng.1])) [2] mixed (by kernel_rfl) (H.drew.get at0) ?_
      refine seg_cons rfl rfl ?_
      first | refine t_ldb rfl ag_31_TrEd rfl (fun _ _ => Ctx.start _ []) (by first | exact at0 | exact at1 | exact at2 | exact at3 | exact at4 | exact at5 | exact at6 | exact at7 | exact at8 | exact at9) rfl ?_ | refine t_ld rfl ag_31_TrEd rfl (fun _ hx => (by rw [cell_bl hx]; rfl)) ?_
      refine t_nil ?_
      replace H := H.drew
      refine op_stb (.slice _ _ _) rfl sz_57 rfl rfl rfl H (by first | exact at0 | exact at1 | exact at2 | exact at3 | exact at4 | exact at5 | exact at6 | exact at7 | exact at8 | exact at9) (by first | decide | (simp; done) | (simp; omega)) ?_
      rintro w H
      refine op_nil (at_seg (H.get at0) ?_)
      refine seg_cons rfl rfl ?_
      refine t_nil ?_
      refine op_stb (.int _ _) rfl sz_31_TrEd rfl rfl rfl H (by first | exact at0 | exact at1 | exact at2 | exact at3 | exact at4 | exact at5 | exact at6 | exact at7 | exact at8 | exact at9) (by first | decide | (simp; done) | (simp; omega)) ?_
      rintro w H
      refine op_nil (at_segz rfl ?_)
      refine seg_nil ?_
      refine W_ret (ret_then ?_)
      refine leaveM2cc rfl rfl rfl ag_57 ag_31_TrEd (mark_end H hD6 hDn rfl fun wF hxF hkF => ?_)
      exact ⟨_, _, _, _, _, _, hkF _ _ _ (H.get at1), hkF _ _ _ (H.get at0), none, 0, by rw [hwt]; rfl, by rw [hwt]; exact Rd.nil, by rw [hwt]; exact .inl rfl, by rw [hwt]; exact Nat.le_refl _, (E06.then H.ext fun x h => .inr (hEge x h).1).then hxF fun x h => .inr (by rw [List.mem_singleton.1 h]; omega)⟩
    · intro hB
      replace hB := ndec_f hB
      have hB' : ng.1 = 0 := by simpa using hB
      rw [if_neg (by simpa using hB)] at hwt
      have O9 : OS a n c 1 full ((ng.2.map (·.1)).map iv) := by rw [List.map_map]; exact G.os
      refine W_skip (at_then ?_)
      refine W_rseq ?_
      refine op_ldb rfl ag_57 rfl H (by first | exact at0 | exact at1 | exact at2 | exact at3 | exact at4 | exact at5 | exact at6 | exact at7 | exact at8 | exact at9) rfl ?_
      refine op_call rfl ca_76_TrEd (sortO_ok (t := 3) O9 (fun y hy => H.blk y (List.mem_cons_of_mem _ (List.mem_cons_of_mem _ hy))) (by rw [List.length_map]; omega)) rfl ?_
      rintro v w7 ⟨rfl, full', hf7, O7, hx7⟩
      have H7 : Ctx w6 _ w7 ((b5, Bl 31 [.int .i64 ng.1]) :: (b4, Bl 57 [.slice a n c]) :: ent a 3 full') := H.sorted hf7 hx7 (fun y hy => (List.pairwise_cons.1 G.nd).1 y hy) (fun y hy => hEne y (List.mem_cons_of_mem _ hy)) rfl
      replace H := H7
      refine op_nil (at_then ?_)
      refine W_rseq ?_
      refine op_ldb rfl ag_57 rfl H (by first | exact at0 | exact at1 | exact at2 | exact at3 | exact at4 | exact at5 | exact at6 | exact at7 | exact at8 | exact at9) rfl ?_
      refine op_stb (.slice _ _ _) rfl sz_57 rfl rfl rfl H (by first | exact at0 | exact at1 | exact at2 | exact at3 | exact at4 | exact at5 | exact at6 | exact at7 | exact at8 | exact at9) (by first | decide | (simp; done) | (simp; omega)) ?_
      rintro w H
      refine op_stb (.int _ _) rfl sz_31_TrEd rfl rfl rfl H (by first | exact at0 | exact at1 | exact at2 | exact at3 | exact at4 | exact at5 | exact at6 | exact at7 | exact at8 | exact at9) (by first | decide | (simp; done) | (simp; omega)) ?_
      rintro w H
      refine op_nil (at_then ?_)
      refine W_ret ?_
      have hs9 : (sortZ (ng.2.map (·.1))).length = n := by rw [List.length_mergeSort, List.length_map, hnn]
      refine leaveM2cc rfl rfl rfl ag_57 ag_31_TrEd (mark_end H hD6 hDn rfl fun wF hxF hkF => ?_)
      refine ⟨_, _, _, _, _, _, hkF _ _ _ (H.get at1), hkF _ _ _ (H.get at0), a, c, by rw [hwt, hs9], ?_, ?_, ?_, (E06.then H.ext fun x h => .inr (hEge x h).1).then hxF fun x h => .inr (by rw [List.mem_singleton.1 h]; omega)⟩
      · rw [hwt]
        exact OS.rd1 (t := 3) (f := iv) O7 fun y hy => by
          have h1 := H.blk y (List.mem_cons_of_mem _ (List.mem_cons_of_mem _ hy))
          cases ha : a with
          | none => rw [ha] at hy; cases hy
          | some q =>
            rw [ha] at hy
            rw [List.mem_singleton.1 hy] at h1 ⊢
            exact hkF _ _ _ h1
      · rw [hwt]
        cases ha : a with
        | none =>
          left
          have h8 := O7.none' ha; have h9 := O7.le
          exact List.eq_nil_of_length_eq_zero (by rw [hs9]; omega)
        | some q =>
          right
          have h8 := (hEge q.block (by rw [ha]; simp [ent])).1
          obtain ⟨qb, qo, qs⟩ := q
          exact h8
      · rw [hwt, hs9]; exact O7.le

end Go.Proofs.YtbkadlngijkmmaaGreatDoor

/- The pairs of a root: the walk. -/
namespace Go.Proofs.YtbkadlngijkmmaaGreatDoor
open Go.GV
theorem ag_114_TrEe : aggB Tryz.prog 114 = some false := by kernel_rfl
theorem ag_120_TrEe : aggB Tryz.prog 120 = some true := by kernel_rfl
theorem ag_28_TrEe : aggB Tryz.prog 28 = some false := by kernel_rfl
theorem ag_31_TrEe : aggB Tryz.prog 31 = some false := by kernel_rfl
theorem ag_70_TrEe : aggB Tryz.prog 70 = some true := by kernel_rfl
theorem by_70_TrEe : tbytes Tryz.prog 70 = some 48 := by kernel_rfl
theorem ca_127_TrEe : callable Tryz.prog 127 = true := by kernel_rfl
theorem ca_64_TrEe : callable Tryz.prog 64 = true := by kernel_rfl
theorem ca_70_TrEe : callable Tryz.prog 70 = true := by kernel_rfl
theorem ca_71_TrEe : callable Tryz.prog 71 = true := by kernel_rfl
theorem el_114_TrEe : elemT Tryz.prog 114 = some 120 := by kernel_rfl
theorem el_28_TrEe : elemT Tryz.prog 28 = some 70 := by kernel_rfl
theorem fo_116_0_TrEe : fieldO Tryz.prog 116 0 = some 0 := by kernel_rfl
theorem fo_116_1_TrEe : fieldO Tryz.prog 116 1 = some 1 := by kernel_rfl
theorem fo_120_0_TrEe : fieldO Tryz.prog 120 0 = some 0 := by kernel_rfl
theorem fo_120_1_TrEe : fieldO Tryz.prog 120 1 = some 1 := by kernel_rfl
theorem fo_70_0_TrEe : fieldO Tryz.prog 70 0 = some 0 := by kernel_rfl
theorem pl_70_TrEe : placesB Tryz.prog 70 = some [(0, 1), (1, 1)] := by kernel_rfl
theorem sz_116_TrEe : tsize Tryz.prog 116 = some 2 := by kernel_rfl
theorem sz_120_TrEe : tsize Tryz.prog 120 = some 3 := by kernel_rfl
theorem sz_28_TrEe : tsize Tryz.prog 28 = some 1 := by kernel_rfl
theorem sz_31_TrEe : tsize Tryz.prog 31 = some 1 := by kernel_rfl
theorem sz_70_TrEe : tsize Tryz.prog 70 = some 2 := by kernel_rfl
theorem zc_116_TrEe : zcells Tryz.prog 116 = some ([.bool false, .slice none 0 0]) := by kernel_rfl
theorem zc_120_TrEe : zcells Tryz.prog 120 = some ([.slice none 0 0, .slice none 0 0, .int .i64 0]) := by kernel_rfl
theorem zc_28_TrEe : zcells Tryz.prog 28 = some ([.slice none 0 0]) := by kernel_rfl
theorem zc_31_TrEe : zcells Tryz.prog 31 = some ([.int .i64 0]) := by kernel_rfl
theorem zc_70_TrEe : zcells Tryz.prog 70 = some ([.slice none 0 0, .slice none 0 0]) := by kernel_rfl
attribute [local irreducible] Wops W Wq Wt

def prI (x : It) : Pr := (x.key, x.val)
def gathL (kf : Byt) (i : Bool) (l : List It) : List Pr := if i = true then [] else (l.filter fun x => decide (0 ≤ cmpB x.key kf)).map prI
def gathG (kf : Byt) (v : List Nd) : List Pr := v.flatMap fun x => gathL kf x.2.1 x.2.2
def upTo (kt : Byt) (L : List Pr) : List Pr := if kt = [] then L else L.takeWhile fun p => decide (cmpB p.1 kt < 0)
def scanT (A : Dev) (fr sz : Nat) (root : Int) (kf kt : Byt) : Int × List Pr :=
  if mayE sz root ≠ 0 then (1, []) else if (nodesG A fr sz root).1 ≠ 0 then ((nodesG A fr sz root).1, []) else (0, upTo kt (gathG kf (nodesG A fr sz root).2))
def encP (m : Im) : List Value := [.slice m.ka m.it.key.length m.kc, .slice m.va m.it.val.length m.vc]
theorem encP_one (m : Im) : ∀ v ∈ encP m, oneCell v = true := fun v hv => by
  simp only [encP, List.mem_cons, List.not_mem_nil, or_false] at hv
  rcases hv with rfl | rfl <;> rfl
/-- A slice of pairs. -/
structure Prs (w : World) (M : Mut) (a : Option Addr) (n c : Nat) (L : List Pr) : Prop where
  ex : ∃ ps : List Im, Rd w a 2 encP ps ∧ (ps = [] ∨ ¬ M (adr a).block) ∧ ps.map (fun m => prI m.it) = L ∧ ∀ m ∈ ps, m.Ok w M
  num : n = L.length
  le : n ≤ c
theorem Rdx.read {w w' : World} {M : Mut} {a : Option Addr} {l : Byt} {S : List Nat} (X : Rdx w M a l) (hx : Ext S w w') (hS : ∀ x ∈ S, M x) : Rd w' a 1 B8 l := by
  obtain ⟨R, hn⟩ := X
  rcases hn with rfl | hn
  · exact Rd.nil
  · exact R.ext hx fun h => hn (hS _ h)
theorem gathL_snoc {kf : Byt} {i : Bool} {l : List It} {k : Nat} {x : It} (h : l[k]? = some x) : gathL kf i (l.take (k + 1)) = gathL kf i (l.take k) ++ if (decide (i = false) && decide (0 ≤ cmpB x.key kf)) = true then [prI x] else [] := by
  unfold gathL
  cases i with
  | true => simp
  | false =>
    simp only [Bool.false_eq_true, if_false, decide_true, Bool.true_and, decide_eq_true_eq]
    rw [take_snoc h, List.filter_append, List.map_append]
    congr 1
    by_cases hc : 0 ≤ cmpB x.key kf
    · rw [if_pos hc, List.filter_cons, decide_eq_true hc]; rfl
    · rw [if_neg hc, List.filter_cons, decide_eq_false hc]; rfl

theorem tw_take {α : Type} {p : α → Bool} : ∀ {L : List α} {i : Nat}, (∀ (j : Nat) (x : α), j < i → L[j]? = some x → p x = true) → (∀ x, L[i]? = some x → p x = false) → L.takeWhile p = L.take i
  | [], i, _, _ => by simp
  | x :: L, 0, _, h => by rw [List.takeWhile_cons, h x rfl]; rfl
  | x :: L, i + 1, h1, h2 => by
    rw [List.takeWhile_cons, h1 0 x (by omega) rfl, List.take_succ_cons]
    simp only [if_true]
    rw [tw_take (i := i) (fun j y hj hy => h1 (j + 1) y (by omega) (by simpa using hy)) fun y hy => h2 y (by simpa using hy)]
theorem prs_of {wx z : World} {Mx : Mut} {w0 w2 : World} {S' : List Nat} {ps : List Im} (hok : ∀ m ∈ ps, m.Ok wx (MZ Mx (Old w2))) (hx : Ext S' wx z) (hS : ∀ x ∈ S', Mx x ∨ x < w2.heap.size) (hle : w0.heap.size ≤ w2.heap.size) : ∀ m ∈ ps, m.Ok z (Old w0) := fun m hm =>
  (hok m hm).turn ⟨⟨S', fun x h => hS x h, hx⟩, fun x h => .inl (.inr (Nat.lt_of_lt_of_le h hle))⟩
/-- What Scan's rounds gather. -/
structure SJ (w0 : World) (bt bd bp ba fr : Nat) (A : Dev) (P : List Nat) (F : Mut) (b l : Nat) (lo : Loop) (b6 : Nat) (o6 : Obj) (Z : Mut) (kf : Byt) (v : List Nd) (M : Mut) (w : World) (a : Option Addr) (n c : Nat) (full : List Value) (ps : List Im) : Prop where
  G : GJ w0 bt bd bp ba fr A P F 28 70 2 b l lo (ps.flatMap encP) M w a n c full
  x0 : Ext [] w0 w
  prs : ps.map (fun m => prI m.it) = gathG kf v
  ok : ∀ m ∈ ps, m.Ok w (MZ M Z)
  h6 : w.heap[b6]? = some o6
  n6 : ¬ M b6
theorem SJ.ext {w0 w w' : World} {bt bd bp ba fr : Nat} {A : Dev} {P : List Nat} {F : Mut} {b l : Nat} {lo : Loop} {b6 : Nat} {o6 : Obj} {Z : Mut} {kf : Byt} {v : List Nd} {M : Mut} {a : Option Addr} {n c : Nat} {full : List Value} {ps : List Im} (S : SJ w0 bt bd bp ba fr A P F b l lo b6 o6 Z kf v M w a n c full ps) (hx : Ext [] w w') : SJ w0 bt bd bp ba fr A P F b l lo b6 o6 Z kf v M w' a n c full ps :=
  ⟨S.G.ext hx, S.x0.trans hx, S.prs, fun m hm => (S.ok m hm).call hx, by rw [hx.block b6 (heap_lt S.h6) (by simp)]; exact S.h6, S.n6⟩

set_option maxRecDepth 20000 in
set_option maxHeartbeats 8000000 in
theorem scan7_ok {fr : Nat} (hfr : fr ≤ 5000) {w : World} {bt bd bp ba : Nat} {A : Dev} {P : List Nat} {F : Mut} (T : Tx w bt bd bp ba fr A P F []) (root : Int) (hr1 : -9223372036854775808 ≤ root) (hr2 : root ≤ 9223372036854775807) (fa ta : Option Addr) (fc tc fn' tn : Nat) (kf kt : Byt) (Rf : Rd w fa 1 B8 kf) (hfn : kf.length = fn') (Rt : Rd w ta 1 B8 kt) (htn : kt.length = tn)
    {mx : Nat} (hfew : Few A mx) (hmx : mx ≤ 1000000000) (hN : (nodesG A fr P.length root).2.length ≤ 100000) :
    Ret Tryz.prog 23 #[ptr bt, .int .i64 root, .slice fa fn' fc, .slice ta tn tc] w fun v w' => ∃ a c, v = .tuple #[.slice a (scanT A fr P.length root kf kt).2.length c, .int .i64 (scanT A fr P.length root kf kt).1] ∧ Prs w' (Old w) a (scanT A fr P.length root kf kt).2.length c (scanT A fr P.length root kf kt).2 ∧ Ext [] w w' := by
  subst hfn htn
  obtain ⟨w0, rfl⟩ : ∃ w0, w0 = w := ⟨_, rfl⟩
  obtain ⟨wt, hwt⟩ : ∃ wt, wt = scanT A fr P.length root kf kt := ⟨_, rfl⟩
  rw [← hwt]
  unfold scanT at hwt
  have h0 := T.mlt
  have H := Ctx.start w0 []
  refine ret_of_WM (fn := Tryz.f23) Tryz.func23 rfl [.pointer (some ⟨bt, 0, none⟩), .int .i64 root, .slice fa kf.length fc, .slice ta kt.length tc] rfl (by kernel_rfl) ?_
  refine W_rseq ?_
  refine op_box rfl _ (.slice _ _ _) rfl rfl H ?_
  rintro b6 w - H
  refine op_alloc rfl zc_28_TrEe H ?_
  rintro b8 w - H
  refine op_alloc rfl zc_31_TrEe H ?_
  rintro b9 w - H
  refine op_nil (at_then ?_)
  refine W_seq ?_
  refine W_rseq ?_
  refine op_move rfl (.pointer _) rfl ?_
  refine op_move rfl (.int _ _) rfl ?_
  refine op_call rfl ca_64_TrEe (may7_ok (T.call H.ext) root) rfl ?_
  rintro v w2 ⟨rfl, rfl⟩
  refine op_assign rfl (.int _ _) rfl ?_
  refine op_nil (at_then ?_)
  refine W_rseq ?_
  refine op_move rfl (.int _ _) rfl ?_
  refine op_neq rfl rfl rfl ?_
  refine op_nil (at_then ?_)
  refine W_cond _ rfl ?_ ?_
  · intro hA
    replace hA := ndec_t hA
    rw [if_pos hA] at hwt
    have he : mayE P.length root = 1 := by unfold mayE at hA ⊢; split <;> simp_all
    rw [he]
    refine W_rseq ?_
    refine op_move rfl (.int _ _) rfl ?_
    refine op_stb (.slice _ _ _) rfl sz_28_TrEe rfl rfl rfl H (by first | exact at0 | exact at1 | exact at2 | exact at3 | exact at4 | exact at5 | exact at6 | exact at7 | exact at8 | exact at9) (by first | decide | (simp; done) | (simp; omega)) ?_
    rintro w H
    refine op_stb (.int _ _) rfl sz_31_TrEe rfl rfl rfl H (by first | exact at0 | exact at1 | exact at2 | exact at3 | exact at4 | exact at5 | exact at6 | exact at7 | exact at8 | exact at9) (by first | decide | (simp; done) | (simp; omega)) ?_
    rintro w H
    refine op_nil (at_then ?_)
    refine W_ret (ret_then ?_)
    refine leaveM2cc rfl rfl rfl ag_28_TrEe ag_31_TrEe ?_
    exact ⟨_, _, _, _, _, _, H.get at1, H.get at0, none, 0, by rw [hwt]; rfl, by rw [hwt]; exact ⟨⟨[], Rd.nil, .inl rfl, rfl, fun m h => by cases h⟩, rfl, Nat.le_refl _⟩, H.ext⟩
  · intro hA
    replace hA := ndec_f hA
    rw [if_neg (by simpa using hA)] at hwt
    obtain ⟨ng, hng⟩ : ∃ ng, ng = nodesG A fr P.length root := ⟨_, rfl⟩
    rw [← hng] at hwt hN
    refine W_skip (at_then ?_)
    refine W_seq ?_
    refine W_rseq ?_
    refine op_move rfl (.pointer _) rfl ?_
    refine op_move rfl (.int _ _) rfl ?_
    have hb8w := H.lt (k := 1) rfl
    have hb9w := H.lt (k := 0) rfl
    have hb6w := H.lt (k := 2) rfl
    refine op_call rfl ca_70_TrEe (nodes_ok bt b9 root _) rfl ?_
    rintro v w3 ⟨x3, x4, x5, rfl, ⟨t4, hx4⟩, ⟨t3, hx3⟩, ⟨t5, hx5⟩, n4, n3, n5, hxn⟩
    replace H := H.call hxn
    refine op_nil (at_then ?_)
    refine W_block ?_
    refine W_rangeFunc rfl ca_127_TrEe ?_
    intro fn tmps hts htm Db l w2 hDb hl hx2 hD hrec
    obtain ⟨lo, hlo, hrec'⟩ : ∃ lo, lo = _ ∧ w2.heap[l]? = some (.loop lo) := ⟨_, rfl, hrec⟩
    have hw03 := H.ext
    have hs03 := hw03.size
    have hs32 := hx2.size
    have up2 : ∀ {b : Nat} {o : Obj}, w3.heap[b]? = some o → w2.heap[b]? = some o := fun {b o} g => by rw [hx2.block b (heap_lt g) (by simp)]; exact g
    have hb8 := H.get at1
    have hb9 := H.get at0
    have hb6 := H.get at2
    have hb89 := H.ne at1 at0 (by decide)
    have hb68 := H.ne at2 at1 (by decide)
    have ho8 : w0.heap.size ≤ b8 := (H.own _ (List.mem_cons_of_mem _ (List.mem_cons_self ..))).elim (fun h => by cases h) id
    have ho9 : w0.heap.size ≤ b9 := (H.own _ (List.mem_cons_self ..)).elim (fun h => by cases h) id
    have hl8 := heap_lt hb8
    have hl9 := heap_lt hb9
    have hl6 := heap_lt hb6
    have hxl4 := heap_lt hx4
    have hxl3 := heap_lt hx3
    have hxl5 := heap_lt hx5
    have hN' : (nodesG A fr P.length root).2.length ≤ 100000 := by rw [← hng]; exact hN
    have JO : JOk bt bd bp ba fr A P F (Old w2) 100000 l (fun v M w => v.length ≤ 100000 ∧ ∃ a n c full ps, n ≤ 65535 * v.length ∧ SJ w0 bt bd bp ba fr A P F b8 l lo b6 (Bl 23 [.slice fa kf.length fc]) (Old w2) kf v M w a n c full ps) := by
      refine ⟨fun {v M w} h => ?_, fun {v M w w'} h hx => ?_, fun {v M w} h => ?_, ?_⟩
      · obtain ⟨-, a, n, c, full, ps, -, S⟩ := h
        exact S.G.lt
      · obtain ⟨hv, a, n, c, full, ps, hn, S⟩ := h
        exact ⟨hv, a, n, c, full, ps, hn, S.ext hx⟩
      · obtain ⟨-, a, n, c, full, ps, -, S⟩ := h
        exact S.G.tx
      · rintro v M wJ page i a7 n7 c7 L7 ⟨hvl, a, n, c, full, ps, hnv, S⟩ hv I hL hLb hpg
        have G := S.G
        have hloop := G.loop
        obtain ⟨ms, R7, hR7, hl7, hok7⟩ := I.ex
        have hn7 := I.num
        have hml7 : ms.length = n7 := by rw [hn7, ← hl7, List.length_map]
        subst hlo
        refine yield_of hloop rfl (round_of_W _ (sim_two hts htm (by decide) (by decide)) (by kernel_rfl) ?_)
        have H := Ctx.start wJ []
        refine W_region ?_
        refine op_alloc rfl zc_116_TrEe H ?_
        rintro b12 w - H
        refine op_stb0 rfl sz_116_TrEe rfl rfl rfl (by simp [oneCell]) H (by first | exact at0 | exact at1 | exact at2 | exact at3 | exact at4 | exact at5 | exact at6 | exact at7 | exact at8 | exact at9) rfl ?_
        rintro w H
        refine op_nil ?_
        have hxa := H.ext
        have SA := S.ext hxa
        have GA := SA.G
        refine begin_of GA.loop rfl ?_
        intro wR lo2 hxR hlR hlo2
        have hb12 := H.get at0
        have ho12 : wJ.heap.size ≤ b12 := (H.own _ (List.mem_cons_self ..)).elim (fun h => by cases h) id
        have hb12R : wR.heap[b12]? = some (NBl i a7 n7 c7) := by
          rw [hxR.block b12 (heap_lt hb12) (by rw [List.mem_singleton]; have := heap_lt hloop; omega)]; exact hb12
        have n12 : b12 ∉ ((b8, Bl 28 [.slice a n c]) :: ent a 70 full).map (·.1) := fun h => by
          obtain ⟨y, hy, he⟩ := List.mem_map.1 h
          have := heap_lt (G.blk y hy).1
          omega
        have hb6R : wR.heap[b6]? = some (Bl 23 [.slice fa kf.length fc]) := by
          rw [hxR.block b6 (heap_lt SA.h6) (by rw [List.mem_singleton]; omega)]; exact SA.h6
        have n6 : b6 ∉ ((b8, Bl 28 [.slice a n c]) :: ent a 70 full).map (·.1) := fun h => S.n6 (by rw [G.M]; exact .inr h)
        have H := GA.body hxR
        have hMl : ∀ x ∈ l :: ((b8, Bl 28 [.slice a n c]) :: ent a 70 full).map (·.1), M x ∧ w0.heap.size ≤ x := fun x h => by
          rw [G.M]
          rcases List.mem_cons.1 h with rfl | h
          · exact ⟨.inl rfl, by omega⟩
          · obtain ⟨y, hy, he⟩ := List.mem_map.1 h
            exact ⟨.inr h, by rw [← he]; exact (G.blk y hy).2.1⟩
        have hxw : ∀ {z : World}, Ext (((b8, Bl 28 [.slice a n c]) :: ent a 70 full).map (·.1)) wR z → Ext (l :: ((b8, Bl 28 [.slice a n c]) :: ent a 70 full).map (·.1)) wJ z := fun {z} hz => ((hxa.mono (by simp)).trans (hxR.mono (fun x h => by rw [List.mem_singleton.1 h]; exact List.mem_cons_self ..))).trans (hz.mono fun x h => List.mem_cons_of_mem _ h)
        have k12 : ∀ {z : World}, Ext (((b8, Bl 28 [.slice a n c]) :: ent a 70 full).map (·.1)) wR z → z.heap[b12]? = some (NBl i a7 n7 c7) := fun {z} hz => by rw [hz.block b12 (heap_lt hb12R) n12]; exact hb12R
        have k6 : ∀ {z : World}, Ext (((b8, Bl 28 [.slice a n c]) :: ent a 70 full).map (·.1)) wR z → z.heap[b6]? = some (Bl 23 [.slice fa kf.length fc]) := fun {z} hz => by rw [hz.block b6 (heap_lt hb6R) n6]; exact hb6R
        have kR : ∀ {z : World}, Ext (((b8, Bl 28 [.slice a n c]) :: ent a 70 full).map (·.1)) wR z → Rd z a7 3 Im.enc ms := fun {z} hz => by
          rcases hR7 with h | h
          · rw [h]; exact Rd.nil
          · exact R7.ext (hxw hz) fun h5 => h (.inl (hMl _ h5).1)
        have kF : ∀ {z : World}, Ext (((b8, Bl 28 [.slice a n c]) :: ent a 70 full).map (·.1)) wR z → Rd z fa 1 B8 kf := fun {z} hz => Rf.ext0 (S.x0.then (hxw hz) fun x h => .inr (hMl x h).2)
        refine W_block ?_
        refine W_rseq ?_
        refine op_fieldAddr rfl fo_116_1_TrEe rfl ?_
        first | refine op_ldb rfl ag_114_TrEe rfl H (by first | exact at0 | exact at1 | exact at2 | exact at3 | exact at4 | exact at5 | exact at6 | exact at7 | exact at8 | exact at9) rfl ?_ | refine op_ld rfl ag_114_TrEe rfl ((by rw [cell_bl (k12 H.ext)]; rfl)) ?_
        refine op_len rfl el_114_TrEe rfl ?_
        refine op_move rfl (.int _ _) rfl ?_
        refine op_nil (at_then ?_)
        refine W_block ?_
        refine W_loop 18014396362014720 (α := Nat × Option Addr × Nat × Nat × List Value × List Im) (fun s => [(31, .int .i64 (s.1 : Int))]) (fun s w' => s.1 ≤ n7 ∧ s.2.2.1 ≤ n + s.1 ∧ Ctx wR (((b8, Bl 28 [.slice a n c]) :: ent a 70 full).map (·.1)) w' ((b8, Bl 28 [.slice s.2.1 s.2.2.1 s.2.2.2.1]) :: ent s.2.1 70 s.2.2.2.2.1) ∧ OS s.2.1 s.2.2.1 s.2.2.2.1 2 s.2.2.2.2.1 (s.2.2.2.2.2.flatMap encP) ∧ s.2.2.2.2.2.map (fun m => prI m.it) = gathG kf v ++ gathL kf i (L7.take s.1) ∧ ∀ m ∈ s.2.2.2.2.2, m.Ok wJ (MZ M (Old w2))) (fun s => n7 - s.1) (0, a, n, c, full, ps) rfl ?_ ?_ ?_
        · exact ⟨rfl, trivial⟩
        · exact ⟨Nat.zero_le _, Nat.le_refl _, H, G.os, by dsimp only; rw [S.prs]; unfold gathL; simp, S.ok⟩
        · rintro ⟨k, a2, n2, c2, full2, ps2⟩ j w' ⟨hk, hn2, H2, O2, hps2, hok2⟩; dsimp only at hk hn2 H2 O2 hps2 hok2; dsimp only
          have H := H2
          have Rk := kR H.ext
          refine W_rseq ?_
          refine op_lss rfl rfl rfl ?_
          refine op_nil (at_then ?_)
          refine W_seq ?_
          refine W_cond _ rfl ?_ ?_
          · intro hB
            replace hB := dec_t hB
            obtain ⟨x, hx1⟩ := get_some (l := ms) (i := k) (by omega)
            have hxL := Im.at hl7 hx1
            have hxo := hok7 x (List.mem_of_getElem? hx1)
            have hxb := hLb x.it (List.mem_of_getElem? hxL)
            have hsn := gathL_snoc (kf := kf) (i := i) hxL
            refine W_skip (at_then ?_)
            refine W_seq ?_
            refine W_block ?_
            refine W_rseq ?_
            first | refine op_indexRd Rk rfl el_114_TrEe sz_120_TrEe rfl rfl (by omega) (by omega) (by first | rfl | omega) ?_ | refine op_indexAddr rfl el_114_TrEe sz_120_TrEe rfl rfl (by omega) (by omega) ?_
            first | refine op_ldN _ rfl ag_120_TrEe sz_120_TrEe rfl rfl (Rk.row hx1 rfl) ?_ | refine op_ldbN rfl ag_120_TrEe sz_120_TrEe rfl H (by first | exact at0 | exact at1 | exact at2 | exact at3 | exact at4 | exact at5 | exact at6 | exact at7 | exact at8 | exact at9) rfl ?_
            refine op_alloc rfl zc_120_TrEe H ?_
            rintro b14 w - H
            refine op_stb0 rfl sz_120_TrEe rfl rfl rfl (by first | exact Im.oneE _ | simp [oneCell]) H (by first | exact at0 | exact at1 | exact at2 | exact at3 | exact at4 | exact at5 | exact at6 | exact at7 | exact at8 | exact at9) rfl ?_
            rintro w H
            refine op_nil (at_then ?_)
            obtain ⟨wq, rfl⟩ : ∃ z, z = w := ⟨_, rfl⟩
            have Rx := hxo.k.read (hxw H.ext) fun z hz => .inl (hMl z hz).1
            refine W_rseq (Wops_join (α := Unit) 35150012350464 (fun _ => [(44, .bool (decide (i = false) && decide (0 ≤ cmpB x.it.key kf)))]) (fun _ w' => wq = w') rfl ?_ ?_)
            · refine op_fieldAddr rfl fo_116_0_TrEe rfl ?_
              first | refine op_ldb rfl ag_4 rfl H (by first | exact at0 | exact at1 | exact at2 | exact at3 | exact at4 | exact at5 | exact at6 | exact at7 | exact at8 | exact at9) rfl ?_ | refine op_ld rfl ag_4 rfl ((by rw [cell_bl (k12 H.ext)]; rfl)) ?_ | refine op_ld rfl ag_4 rfl ((by rw [cell_bl (k6 H.ext)]; rfl)) ?_
              refine op_not rfl rfl ?_
              refine op_move rfl (.bool _) rfl ?_
              refine Wops_split 38 rfl ?_ ?_
              · intro h1
                replace h1 := nvar_t h1
                refine op_fieldAddr rfl fo_120_0_TrEe rfl ?_
                first | refine op_ldb rfl ag_23 rfl H (by first | exact at0 | exact at1 | exact at2 | exact at3 | exact at4 | exact at5 | exact at6 | exact at7 | exact at8 | exact at9) rfl ?_ | refine op_ld rfl ag_23 rfl ((by rw [cell_bl (k12 H.ext)]; rfl)) ?_ | refine op_ld rfl ag_23 rfl ((by rw [cell_bl (k6 H.ext)]; rfl)) ?_
                first | refine op_ldb rfl ag_23 rfl H (by first | exact at0 | exact at1 | exact at2 | exact at3 | exact at4 | exact at5 | exact at6 | exact at7 | exact at8 | exact at9) rfl ?_ | refine op_ld rfl ag_23 rfl ((by rw [cell_bl (k12 H.ext)]; rfl)) ?_ | refine op_ld rfl ag_23 rfl ((by rw [cell_bl (k6 H.ext)]; rfl)) ?_
                refine op_call rfl ca_71_TrEe (compare_ok x.ka fa x.kc fc _ _ x.it.key kf Rx (kF H.ext) rfl rfl) rfl ?_
                rintro v5 w5 ⟨rfl, rfl⟩
                refine op_geq rfl rfl rfl ?_
                refine op_pick1 rfl rfl (.bool _) rfl ?_
                refine op_nil ?_
                exact ⟨rfl, (), rfl, ⟨congrArg Value.bool (by first | (rw [h1]; rfl) | (rw [h2]; rfl)), trivial⟩, rfl⟩
              · intro h2
                replace h2 := nvar_f h2
                refine op_skip rfl ?_
                refine op_skip rfl ?_
                refine op_skip rfl ?_
                refine op_skip rfl ?_
                refine op_skip rfl ?_
                refine op_pick0 rfl rfl (.bool _) rfl ?_
                refine op_nil ?_
                exact ⟨rfl, (), rfl, ⟨congrArg Value.bool (by first | (rw [h1]; rfl) | (rw [h2]; rfl)), trivial⟩, rfl⟩
            rintro - j44 w rfl
            refine W_cond _ rfl ?_ ?_
            · intro hC
              rw [if_pos hC] at hsn
              refine W_region ?_
              refine op_ldb rfl ag_28_TrEe rfl H (by first | exact at0 | exact at1 | exact at2 | exact at3 | exact at4 | exact at5 | exact at6 | exact at7 | exact at8 | exact at9) rfl ?_
              refine op_fieldAddr rfl fo_120_0_TrEe rfl ?_
              refine op_ldb rfl ag_23 rfl H (by first | exact at0 | exact at1 | exact at2 | exact at3 | exact at4 | exact at5 | exact at6 | exact at7 | exact at8 | exact at9) rfl ?_
              refine op_fieldAddr rfl fo_120_1_TrEe rfl ?_
              refine op_ldb rfl ag_23 rfl H (by first | exact at0 | exact at1 | exact at2 | exact at3 | exact at4 | exact at5 | exact at6 | exact at7 | exact at8 | exact at9) rfl ?_
              refine op_buildS [.slice x.ka x.it.key.length x.kc, .slice x.va x.it.val.length x.vc] rfl pl_70_TrEe zc_70_TrEe (by kernel_rfl) ?_
              refine op_build1 [.slice x.ka x.it.key.length x.kc, .slice x.va x.it.val.length x.vc] (.agg _) rfl el_28_TrEe sz_70_TrEe zc_70_TrEe rfl (by decide) (by decide) rfl rfl rfl H ?_
              rintro b51 w - H
              refine op_appendb (L := [_, _]) rfl el_28_TrEe el_28_TrEe sz_70_TrEe by_70_TrEe zc_70_TrEe rfl (by decide) rfl rfl H O2 rfl (encP_one x) (by omega) ?_
              rintro a52 c52 f52 w H O52
              refine op_stb (.slice _ _ _) rfl sz_28_TrEe rfl rfl rfl H (by first | exact at0 | exact at1 | exact at2 | exact at3 | exact at4 | exact at5 | exact at6 | exact at7 | exact at8 | exact at9) (by first | decide | (simp; done) | (simp; omega)) ?_
              rintro w H
              refine op_nil (at_block (at_then ?_))
              refine W_region ?_
              refine op_add_i64 rfl rfl rfl (by omega) (by omega) ?_
              refine op_move rfl (.int _ _) rfl ?_
              refine op_nil (at_then ?_)
              refine ⟨(k + 1, a52, n2 + 1, c52, f52, ps2 ++ [x]), rfl, ⟨rfl, trivial⟩, ⟨by dsimp only; omega, by dsimp only; omega, H.tail, by dsimp only; rw [List.flatMap_append, List.flatMap_singleton]; exact O52, by dsimp only; rw [List.map_append, hsn, hps2, List.append_assoc]; rfl, fun m hm => ?_⟩, by dsimp only; omega⟩
              dsimp only at hm
              rcases List.mem_append.1 hm with hm | hm
              · exact hok2 m hm
              · rw [List.mem_singleton.1 hm]; exact hxo
            · intro hC
              rw [if_neg (by rw [hC]; simp), List.append_nil] at hsn
              refine W_skip (at_block (at_then ?_))
              refine W_region ?_
              refine op_add_i64 rfl rfl rfl (by omega) (by omega) ?_
              refine op_move rfl (.int _ _) rfl ?_
              refine op_nil (at_then ?_)
              exact ⟨(k + 1, a2, n2, c2, full2, ps2), rfl, ⟨rfl, trivial⟩, ⟨by dsimp only; omega, by dsimp only; omega, H.tail, O2, by dsimp only; rw [hsn]; exact hps2, hok2⟩, by dsimp only; omega⟩
          · intro hB
            replace hB := dec_f hB
            have hii : k = n7 := by omega
            rw [List.take_of_length_le (by omega)] at hps2
            refine W_exit (exit_then (exit_then (exit_here (at_block ?_))))
            have hlE : w'.heap[l]? = some (.loop lo2) := by
              rw [H.ext.block l (heap_lt hlR) fun h => ?_]
              · exact hlR
              · obtain ⟨y, hy, he⟩ := List.mem_map.1 h
                exact (G.blk y hy).2.2 he
            refine round_end hlE hlo2 rfl rfl ?_
            intro wF hxF hlF
            obtain ⟨G9, g9⟩ := GA.next h0 (by omega) hxR H O2 hxF hlF
            have gg9 := (Grown.call0 hxa).trans g9
            obtain ⟨⟨S9, hS9, hx9⟩, -⟩ := id g9
            refine ⟨rfl, _, ⟨by simp; omega, a2, n2, c2, full2, ps2, by rw [List.length_append, List.length_singleton]; omega, G9, SA.x0.then hx9 fun x h => .inr ?_, ?_, fun m hm => (hok2 m hm).turn (gg9.or _), gg9.keep S.h6 S.n6, fun h => (gg9.2 b6 h).elim S.n6 fun h5 => by have := heap_lt S.h6; omega⟩, gg9⟩
            · have h5 := hS9 x h
              rw [G.M] at h5
              rcases h5 with h5 | h5
              · omega
              · obtain ⟨y, hy, he⟩ := List.mem_map.1 h5
                have := (G.blk y hy).2.1; omega
            · rw [hps2]; unfold gathG; simp
    have hJ0 : (fun (v : List Nd) (M : Mut) (w : World) => v.length ≤ 100000 ∧ ∃ a n c full ps, n ≤ 65535 * v.length ∧ SJ w0 bt bd bp ba fr A P F b8 l lo b6 (Bl 23 [.slice fa kf.length fc]) (Old w2) kf v M w a n c full ps) [] (fun x => x = l ∨ x ∈ ((b8, Bl 28 [.slice none 0 0]) :: ent none 70 []).map (·.1)) w2 := by
      refine ⟨by simp, none, 0, 0, [], [], Nat.zero_le _, ⟨rfl, T.call (hw03.trans hx2), hrec', fun y hy => ?_, List.pairwise_singleton .., OS.nil⟩, hw03.trans hx2, rfl, (fun m hm => by cases hm), up2 hb6, fun h => ?_⟩
      · rw [List.mem_singleton.1 hy]
        exact ⟨up2 hb8, ho8, by dsimp only; omega⟩
      · rcases h with h | h
        · omega
        · exact hb68 (by simpa [ent] using h)
    have hnM : ∀ x, x ≠ l → x ≠ b8 → ¬ (x = l ∨ x ∈ ((b8, Bl 28 [.slice none 0 0]) :: ent none 70 []).map (·.1)) := fun x h1 h2 h => by
      rcases h with h | h
      · exact h1 h
      · exact h2 (by simpa [ent] using h)
    refine Ret.mono (nodes1_ok JO hfr hfew hmx hJ0 (fun x h => h) (up2 hx4) (up2 hx3) (up2 hx5) (up2 hb9) (hnM _ (by omega) (by omega)) (hnM _ (by omega) (by omega)) (hnM _ (by omega) (by omega)) (hnM _ (by omega) (Ne.symm hb89)) hr1 hr2 hN') ?_
    rintro v w4 ⟨wx, Mx, ⟨-, a, n, c, full, ps, hnv, S⟩, gx, hx9w, he9⟩
    rw [← hng] at S he9 hnv
    have G := S.G
    have hloop := G.loop
    have hb9l : b9 ≠ l := by omega
    have hl1 : w4.heap[l]? = some (.loop lo) := by rw [hx9w.block l (heap_lt hloop) (by simpa using fun h => hb9l h.symm)]; exact hloop
    refine ⟨_, hl1, by subst hlo; exact (fun h => by cases h), jumped_none (by rw [hlo]) ?_⟩
    have hx6 := Ext.setB w4 l (.loop { lo with state := .exhausted })
    generalize w4.putObj l (.loop { lo with state := .exhausted }) = w6 at hx6 ⊢
    have hEnt : ∀ y ∈ (b8, Bl 28 [.slice a n c]) :: ent a 70 full, w6.heap[y.1]? = some y.2 := fun y hy => by
      have h1 := G.blk y hy
      have h2 : y.1 ≠ b9 := fun e => by
        rcases gx.2 y.1 (by rw [G.M]; exact .inr (List.mem_map.2 ⟨y, hy, rfl⟩)) with h | h
        · exact hnM y.1 h1.2.2 (fun e4 => hb89 (e4 ▸ e)) h
        · omega
      rw [hx6.block y.1 (Nat.lt_of_lt_of_le (heap_lt h1.1) hx9w.size) (by simpa using h1.2.2), hx9w.block y.1 (heap_lt h1.1) (by simpa using h2)]; exact h1.1
    have hb96 : w6.heap[b9]? = some (Bl 31 [.int .i64 ng.1]) := by
      rw [hx6.block b9 (heap_lt he9) (by simpa using hb9l)]; exact he9
    obtain ⟨⟨Sg, hSg, hxg⟩, hgg⟩ := gx
    have hsx := hxg.size
    have hs45 := hx9w.size
    have hs46 := hx6.size
    have hM2 : ∀ x, (x = l ∨ x ∈ ((b8, Bl 28 [.slice none 0 0]) :: ent none 70 []).map (·.1)) → x = l ∨ x = b8 := fun x h => h.imp id fun h => by simpa [ent] using h
    have E46 : Ext [b9, l] wx w6 := (hx9w.mono (by simp)).trans (hx6.mono (by simp))
    have E06 : Ext [] w0 w6 := S.x0.then E46 fun x h => .inr (by simp only [List.mem_cons, List.not_mem_nil, or_false] at h; rcases h with rfl | rfl <;> omega)
    have hD6 : w6.heap[Db]? = some (.deferred (some [])) := by
      rw [hx6.block Db (by have := heap_lt hD; omega) (by rw [List.mem_singleton]; omega), hx9w.block Db (by have := heap_lt hD; omega) (by rw [List.mem_singleton]; omega), hxg.block Db (heap_lt hD) fun h => by rcases hM2 _ (hSg _ h) with h | h <;> omega]
      exact hD
    have n9 : ¬ Mx b9 := fun h => (hgg b9 h).elim (hnM _ hb9l (Ne.symm hb89)) fun h => by omega
    have hEne : ∀ y ∈ (b8, Bl 28 [.slice a n c]) :: ent a 70 full, b9 ≠ y.1 := fun y hy e => n9 (by rw [G.M]; exact .inr (List.mem_map.2 ⟨y, hy, e.symm⟩))
    have hEge : ∀ x ∈ (((b9, Bl 31 [.int .i64 ng.1]) :: (b8, Bl 28 [.slice a n c]) :: ent a 70 full).map (·.1)), w0.heap.size ≤ x ∧ x ≠ Db := fun x h => by
      obtain ⟨y, hy, rfl⟩ := List.mem_map.1 h
      rcases List.mem_cons.1 hy with rfl | hy
      · exact ⟨ho9, by dsimp only; omega⟩
      · refine ⟨(G.blk y hy).2.1, fun e => ?_⟩
        have h1 := hEnt y hy
        rw [e, hD6] at h1
        rcases List.mem_cons.1 hy with rfl | hy
        · cases h1
        · cases ha : a with
          | none => rw [ha] at hy; cases hy
          | some q => rw [ha] at hy; rw [List.mem_singleton.1 hy] at h1; cases h1
    have H := Ctx.startL (L := (b9, Bl 31 [.int .i64 ng.1]) :: (b8, Bl 28 [.slice a n c]) :: ent a 70 full) (w := w6) (fun y hy => by
      rcases List.mem_cons.1 hy with rfl | hy
      · exact hb96
      · exact hEnt y hy) (List.pairwise_cons.2 ⟨hEne, G.nd⟩)
    have hDn : Db ∉ (((b9, Bl 31 [.int .i64 ng.1]) :: (b8, Bl 28 [.slice a n c]) :: ent a 70 full).map (·.1)) := fun h => (hEge Db h).2 rfl
    have hnp : n = ps.length := G.os.numN (fun _ _ => rfl) (by decide)
    -- what was read lives on
    have hlive : ∀ {z : World}, Ext (((b9, Bl 31 [.int .i64 ng.1]) :: (b8, Bl 28 [.slice a n c]) :: ent a 70 full).map (·.1)) w6 z → ∃ S', Ext S' wx z ∧ ∀ x ∈ S', Mx x ∨ x < w2.heap.size := fun {z} hz => by
      refine ⟨_, (E46.mono (S' := b9 :: l :: ((b9, Bl 31 [.int .i64 ng.1]) :: (b8, Bl 28 [.slice a n c]) :: ent a 70 full).map (·.1)) (by simp)).trans (hz.mono fun x h => List.mem_cons_of_mem _ (List.mem_cons_of_mem _ h)), fun x h => ?_⟩
      rcases List.mem_cons.1 h with rfl | h
      · exact .inr (heap_lt (up2 hb9))
      · rcases List.mem_cons.1 h with rfl | h
        · exact .inl (by rw [G.M]; exact .inl rfl)
        · rcases List.mem_cons.1 h with rfl | h
          · exact .inr (heap_lt (up2 hb9))
          · exact .inl (by rw [G.M]; exact .inr h)
    have hDlt : Db < w2.heap.size := by have := heap_lt hrec'; omega
    have hs02 : w0.heap.size ≤ w2.heap.size := by omega
    refine at_block (at_then ?_)
    refine W_seq ?_
    refine W_rseq ?_
    refine op_ldb rfl ag_31_TrEe rfl H (by first | exact at0 | exact at1 | exact at2 | exact at3 | exact at4 | exact at5 | exact at6 | exact at7 | exact at8 | exact at9) rfl ?_
    refine op_neq rfl rfl rfl ?_
    refine op_nil (at_then ?_)
    refine W_cond _ rfl ?_ ?_
    · intro hB
      replace hB := ndec_t hB
      rw [if_pos hB] at hwt
      refine W_sseqz [([0], 1), ([], 2)] (fun z => z.heap[b9]? = some (Bl 31 [.int .i64 ng.1])) [2] mixed (by kernel_rfl) (H.drew.get at0) ?_
      refine seg_cons rfl rfl ?_
      first | refine t_ldb rfl ag_31_TrEe rfl (fun _ _ => Ctx.start _ []) (by first | exact at0 | exact at1 | exact at2 | exact at3 | exact at4 | exact at5 | exact at6 | exact at7 | exact at8 | exact at9) rfl ?_ | refine t_ld rfl ag_31_TrEe rfl (fun _ hx => (by rw [cell_bl hx]; rfl)) ?_
      refine t_nil ?_
      replace H := H.drew
      refine op_stb (.slice _ _ _) rfl sz_28_TrEe rfl rfl rfl H (by first | exact at0 | exact at1 | exact at2 | exact at3 | exact at4 | exact at5 | exact at6 | exact at7 | exact at8 | exact at9) (by first | decide | (simp; done) | (simp; omega)) ?_
      rintro w H
      refine op_nil (at_seg (H.get at0) ?_)
      refine seg_cons rfl rfl ?_
      refine t_nil ?_
      refine op_stb (.int _ _) rfl sz_31_TrEe rfl rfl rfl H (by first | exact at0 | exact at1 | exact at2 | exact at3 | exact at4 | exact at5 | exact at6 | exact at7 | exact at8 | exact at9) (by first | decide | (simp; done) | (simp; omega)) ?_
      rintro w H
      refine op_nil (at_segz rfl ?_)
      refine seg_nil ?_
      refine W_ret (ret_then ?_)
      refine leaveM2cc rfl rfl rfl ag_28_TrEe ag_31_TrEe (mark_end H hD6 hDn rfl fun wF hxF hkF => ?_)
      exact ⟨_, _, _, _, _, _, hkF _ _ _ (H.get at1), hkF _ _ _ (H.get at0), none, 0, by rw [hwt]; rfl, by rw [hwt]; exact ⟨⟨[], Rd.nil, .inl rfl, rfl, fun m h => by cases h⟩, rfl, Nat.le_refl _⟩, (E06.then H.ext fun x h => .inr (hEge x h).1).then hxF fun x h => .inr (by rw [List.mem_singleton.1 h]; omega)⟩
    · intro hB
      replace hB := ndec_f hB
      have hB' : ng.1 = 0 := by simpa using hB
      rw [if_neg (by simpa using hB), ← S.prs] at hwt
      obtain ⟨PL, hPL⟩ : ∃ PL, PL = ps.map fun m => prI m.it := ⟨_, rfl⟩
      rw [← hPL] at hwt
      have hnc := G.os.le
      have hPn : PL.length = n := by rw [hPL, List.length_map, hnp]
      have hres : ∀ {z wF : World} {i : Nat}, Ext (((b9, Bl 31 [.int .i64 ng.1]) :: (b8, Bl 28 [.slice a n c]) :: ent a 70 full).map (·.1)) w6 z → (∀ y ∈ ent a 70 full, z.heap[y.1]? = some y.2) → Ext [Db] z wF → (∀ (b t : Nat) (l : List Value), z.heap[b]? = some (Bl t l) → wF.heap[b]? = some (Bl t l)) → i ≤ n → Prs wF (Old w0) a i c (PL.take i) := fun {z wF i} hz he hxF hkF hi => by
        obtain ⟨S', hS1, hS2⟩ := hlive hz
        have hokF := prs_of S.ok ((hS1.mono (S' := S' ++ [Db]) fun x h => List.mem_append_left _ h).trans (hxF.mono fun x h => List.mem_append_right _ h)) (fun x h => (List.mem_append.1 h).elim (hS2 x) fun h => .inr (by rw [List.mem_singleton.1 h]; exact hDlt)) hs02
        have Rz := OS.rd (t := 70) (w := wF) G.os (fun y hy => by
          have h1 := he y hy
          cases ha : a with
          | none => rw [ha] at hy; cases hy
          | some q =>
            rw [ha] at hy
            rw [List.mem_singleton.1 hy] at h1 ⊢
            exact hkF _ _ _ h1) (fun _ _ => rfl) (by decide)
        refine ⟨⟨ps.take i, Rz.take i, ?_, by rw [List.map_take, hPL], fun m hm => hokF m (List.mem_of_mem_take hm)⟩, by rw [List.length_take]; omega, Nat.le_trans hi G.os.le⟩
        cases ha : a with
        | none =>
          left
          have h8 := G.os.none' ha; have h9 := G.os.le
          exact List.eq_nil_of_length_eq_zero (by rw [List.length_take]; omega)
        | some q =>
          right
          have h8 := (hEge q.block (by rw [ha]; simp [ent])).1
          obtain ⟨qb, qo, qs⟩ := q
          exact Nat.not_lt.2 h8
      refine W_skip (at_then ?_)
      refine W_seq ?_
      refine W_rseq ?_
      refine op_ldb rfl ag_28_TrEe rfl H (by first | exact at0 | exact at1 | exact at2 | exact at3 | exact at4 | exact at5 | exact at6 | exact at7 | exact at8 | exact at9) rfl ?_
      refine op_len rfl el_28_TrEe rfl ?_
      refine op_move rfl (.int _ _) rfl ?_
      refine op_nil (at_then ?_)
      refine W_block ?_
      refine W_loop 302230878442904990351360 (α := Nat) (fun i => [(59, .int .i64 (i : Int))]) (fun i w' => i ≤ n ∧ Ctx w6 (((b9, Bl 31 [.int .i64 ng.1]) :: (b8, Bl 28 [.slice a n c]) :: ent a 70 full).map (·.1)) w' ((b9, Bl 31 [.int .i64 ng.1]) :: (b8, Bl 28 [.slice a n c]) :: ent a 70 full) ∧ (kt = [] ∨ ∀ (j : Nat) (p : Pr), j < i → PL[j]? = some p → cmpB p.1 kt < 0)) (fun i => n - i) 0 rfl ?_ ?_ ?_
      · exact ⟨rfl, trivial⟩
      · exact ⟨Nat.zero_le _, H, .inr fun j p h => absurd h (Nat.not_lt_zero _)⟩
      · rintro i j w ⟨hi, H5, hlow⟩
        have H := H5
        have Rp := OS.rd (t := 70) (w := w) G.os (fun y hy => H.blk y (List.mem_cons_of_mem _ (List.mem_cons_of_mem _ hy))) (fun _ _ => rfl) (by decide)
        refine W_rseq ?_
        refine op_lss rfl rfl rfl ?_
        refine op_nil (at_then ?_)
        refine W_seq ?_
        refine W_cond _ rfl ?_ ?_
        · intro hC
          replace hC := dec_t hC
          obtain ⟨x, hx1⟩ := get_some (l := ps) (i := i) (by omega)
          have hxP : PL[i]? = some (prI x.it) := by rw [hPL, List.getElem?_map, hx1]; rfl
          refine W_skip (at_then ?_)
          refine W_seq ?_
          refine W_block ?_
          refine W_rseq ?_
          refine op_move rfl (.int _ _) rfl ?_
          first | refine op_indexRd Rk rfl el_28_TrEe sz_70_TrEe rfl rfl (by omega) (by omega) (by first | rfl | omega) ?_ | refine op_indexRd Rp rfl el_28_TrEe sz_70_TrEe rfl rfl (by omega) (by omega) (by first | rfl | omega) ?_ | refine op_indexAddr rfl el_28_TrEe sz_70_TrEe rfl rfl (by omega) (by omega) ?_
          first | refine op_ldN _ rfl ag_70_TrEe sz_70_TrEe rfl rfl (Rk.row hx1 rfl) ?_ | refine op_ldN _ rfl ag_70_TrEe sz_70_TrEe rfl rfl (Rp.row hx1 rfl) ?_ | refine op_ldbN rfl ag_70_TrEe sz_70_TrEe rfl H (by first | exact at0 | exact at1 | exact at2 | exact at3 | exact at4 | exact at5 | exact at6 | exact at7 | exact at8 | exact at9) rfl ?_
          refine op_alloc rfl zc_70_TrEe H ?_
          rintro b16 w - H
          refine op_assign rfl (.int _ _) rfl ?_
          refine op_stb0 rfl sz_70_TrEe rfl rfl rfl (by first | exact Im.oneE _ | exact encP_one _ | simp [oneCell]) H (by first | exact at0 | exact at1 | exact at2 | exact at3 | exact at4 | exact at5 | exact at6 | exact at7 | exact at8 | exact at9) rfl ?_
          rintro w H
          refine op_nil (at_then ?_)
          obtain ⟨wq, rfl⟩ : ∃ z, z = w := ⟨_, rfl⟩
          obtain ⟨Sx, hSx1, hSx2⟩ := hlive H.ext
          have hxo := prs_of S.ok hSx1 hSx2 hs02 x (List.mem_of_getElem? hx1)
          have Rtw := Rt.ext0 (E06.then H.ext fun x h => .inr (hEge x h).1)
          refine W_rseq (Wops_join (α := Unit) 18871019187404871303168 (fun _ => [(73, .bool (decide (0 < kt.length) && decide (0 ≤ cmpB x.it.key kt)))]) (fun _ w' => wq = w') rfl ?_ ?_)
          · refine op_move rfl (.slice _ _ _) rfl ?_
            refine op_len rfl el_23 rfl ?_
            refine op_gtr rfl rfl rfl ?_
            refine op_move rfl (.bool _) rfl ?_
            refine Wops_split 67 rfl ?_ ?_
            · intro h3
              replace h3 := dec_t h3
              refine op_fieldAddr rfl fo_70_0_TrEe rfl ?_
              refine op_ldb rfl ag_23 rfl H (by first | exact at0 | exact at1 | exact at2 | exact at3 | exact at4 | exact at5 | exact at6 | exact at7 | exact at8 | exact at9) rfl ?_
              refine op_move rfl (.slice _ _ _) rfl ?_
              refine op_call rfl ca_71_TrEe (compare_ok x.ka ta x.kc tc _ _ x.it.key kt hxo.k.1 Rtw rfl rfl) rfl ?_
              rintro v5 w5 ⟨rfl, rfl⟩
              refine op_geq rfl rfl rfl ?_
              refine op_pick1 rfl rfl (.bool _) rfl ?_
              refine op_nil ?_
              exact ⟨rfl, (), rfl, ⟨congrArg Value.bool (by (first | rw [decide_eq_true (show 0 < kt.length by omega)] | rw [decide_eq_false (show ¬ 0 < kt.length by omega)]); rfl), trivial⟩, rfl⟩
            · intro h4
              replace h4 := dec_f h4
              refine op_skip rfl ?_
              refine op_skip rfl ?_
              refine op_skip rfl ?_
              refine op_skip rfl ?_
              refine op_skip rfl ?_
              refine op_pick0 rfl rfl (.bool _) rfl ?_
              refine op_nil ?_
              exact ⟨rfl, (), rfl, ⟨congrArg Value.bool (by (first | rw [decide_eq_true (show 0 < kt.length by omega)] | rw [decide_eq_false (show ¬ 0 < kt.length by omega)]); rfl), trivial⟩, rfl⟩
          rintro - j73 w rfl
          refine W_cond _ rfl ?_ ?_
          · intro hE
            rw [Bool.and_eq_true, decide_eq_true_eq, decide_eq_true_eq] at hE
            have hkt : kt ≠ [] := List.length_pos_iff.1 hE.1
            have hup : upTo kt PL = PL.take i := by
              unfold upTo
              rw [if_neg hkt, tw_take (i := i) (fun j p hj hp => decide_eq_true ((hlow.resolve_left hkt) j p hj hp)) fun p hp => ?_]
              rw [hxP] at hp
              cases hp
              exact decide_eq_false (by show ¬ cmpB x.it.key kt < 0; omega)
            rw [hup] at hwt
            refine W_rseq ?_
            refine op_ldb rfl ag_28_TrEe rfl H (by first | exact at0 | exact at1 | exact at2 | exact at3 | exact at4 | exact at5 | exact at6 | exact at7 | exact at8 | exact at9) rfl ?_
            refine op_move rfl (.int _ _) rfl ?_
            refine op_slice_hi rfl el_28_TrEe sz_70_TrEe rfl rfl (by omega) (by omega) ?_
            refine op_stb (.slice _ _ _) rfl sz_28_TrEe rfl rfl rfl H (by first | exact at0 | exact at1 | exact at2 | exact at3 | exact at4 | exact at5 | exact at6 | exact at7 | exact at8 | exact at9) (by first | decide | (simp; done) | (simp; omega)) ?_
            rintro w H
            refine op_stb (.int _ _) rfl sz_31_TrEe rfl rfl rfl H (by first | exact at0 | exact at1 | exact at2 | exact at3 | exact at4 | exact at5 | exact at6 | exact at7 | exact at8 | exact at9) (by first | decide | (simp; done) | (simp; omega)) ?_
            rintro w H
            refine op_nil (at_then ?_)
            refine W_ret (ret_block (ret_then (ret_then (ret_block (ret_then ?_)))))
            refine leaveM2cc rfl rfl rfl ag_28_TrEe ag_31_TrEe (mark_end H hD6 hDn rfl fun wF hxF hkF => ?_)
            have hti : (PL.take i).length = i := by rw [List.length_take]; omega
            refine ⟨_, _, _, _, _, _, hkF _ _ _ (H.get at2), hkF _ _ _ (H.get at1), a, c, by rw [hwt, hti]; rfl, ?_, (E06.then H.ext fun x h => .inr (hEge x h).1).then hxF fun x h => .inr (by rw [List.mem_singleton.1 h]; omega)⟩
            rw [hwt, hti]
            exact hres H.ext (fun y hy => H.blk y (List.mem_cons_of_mem _ (List.mem_cons_of_mem _ (List.mem_cons_of_mem _ hy)))) hxF hkF hi
          · intro hE
            refine W_skip (at_block (at_then ?_))
            refine W_region ?_
            refine op_add_i64 rfl rfl rfl (by omega) (by omega) ?_
            refine op_move rfl (.int _ _) rfl ?_
            refine op_nil (at_then ?_)
            refine ⟨i + 1, rfl, ⟨rfl, trivial⟩, ⟨by omega, H.tail, ?_⟩, by omega⟩
            by_cases hkt : kt = []
            · exact .inl hkt
            · right
              rw [Bool.and_eq_false_iff] at hE
              have hpos := List.length_pos_iff.2 hkt
              have hE2 : ¬ 0 ≤ cmpB x.it.key kt := hE.elim (fun h => absurd hpos (of_decide_eq_false h)) of_decide_eq_false
              intro j p hj hp
              rcases Nat.lt_or_ge j i with h3 | h3
              · exact (hlow.resolve_left hkt) j p h3 hp
              · obtain rfl : j = i := by omega
                rw [hxP] at hp
                cases hp
                show cmpB x.it.key kt < 0
                omega
        · intro hC
          replace hC := dec_f hC
          have hii : i = n := by omega
          have hup : upTo kt PL = PL.take n := by
            rw [List.take_of_length_le (by omega)]
            unfold upTo
            by_cases hkt : kt = []
            · rw [if_pos hkt]
            · rw [if_neg hkt, tw_take (i := n) (fun j p hj hp => decide_eq_true ((hlow.resolve_left hkt) j p (by omega) hp)) fun p hp => ?_, List.take_of_length_le (by omega)]
              have := (List.getElem?_eq_some_iff.1 hp).1
              omega
          rw [hup] at hwt
          refine W_exit (exit_then (exit_then (exit_here (at_then ?_))))
          refine W_rseq ?_
          refine op_ldb rfl ag_28_TrEe rfl H (by first | exact at0 | exact at1 | exact at2 | exact at3 | exact at4 | exact at5 | exact at6 | exact at7 | exact at8 | exact at9) rfl ?_
          refine op_stb (.slice _ _ _) rfl sz_28_TrEe rfl rfl rfl H (by first | exact at0 | exact at1 | exact at2 | exact at3 | exact at4 | exact at5 | exact at6 | exact at7 | exact at8 | exact at9) (by first | decide | (simp; done) | (simp; omega)) ?_
          rintro w H
          refine op_stb (.int _ _) rfl sz_31_TrEe rfl rfl rfl H (by first | exact at0 | exact at1 | exact at2 | exact at3 | exact at4 | exact at5 | exact at6 | exact at7 | exact at8 | exact at9) (by first | decide | (simp; done) | (simp; omega)) ?_
          rintro w H
          refine op_nil (at_then ?_)
          refine W_ret ?_
          refine leaveM2cc rfl rfl rfl ag_28_TrEe ag_31_TrEe (mark_end H hD6 hDn rfl fun wF hxF hkF => ?_)
          have hti : (PL.take n).length = n := by rw [List.length_take]; omega
          refine ⟨_, _, _, _, _, _, hkF _ _ _ (H.get at1), hkF _ _ _ (H.get at0), a, c, by rw [hwt, hti], ?_, (E06.then H.ext fun x h => .inr (hEge x h).1).then hxF fun x h => .inr (by rw [List.mem_singleton.1 h]; omega)⟩
          rw [hwt, hti]
          exact hres H.ext (fun y hy => H.blk y (List.mem_cons_of_mem _ (List.mem_cons_of_mem _ hy))) hxF hkF (Nat.le_refl _)

end Go.Proofs.YtbkadlngijkmmaaGreatDoor

/- []byte of a constant. It holds for every program. -/
namespace Go.GV
open Go

section
variable {P : Program} {r : Option Nat} {ops rest : List Oper} {Q : Exit → Env → World → Prop} {e : Env} {w w0 : World} {S : List Nat} {L : List (Nat × Obj)}
  {dst : Option Tmp} {ty : TypeId} {pos : String} {af : Array Edge} {g : Option (Nat × Bool)}

theorem q_strne {C : World → Prop} {K : Env → Prop} {t t2 : TypeId} {x y : Operand} {l m : List UInt8} (hg : wants ⟨dst, .binOp .neq t x y t2, ty, pos, af, g⟩ ops e = true) (hx : ev e x = str l) (hy : ev e y = str m)
    (h : Wq P ops C K rest (put e dst (.bool !decide (l = m)))) : Wq P ops C K (⟨dst, .binOp .neq t x y t2, ty, pos, af, g⟩ :: rest) e :=
  q_val hg (fun w _ => by
    have hq : eqGuard .neq t x y (.string ⟨l.toArray⟩) (.string ⟨m.toArray⟩) = pure () := rfl
    simp only [execOp, hx, hy, hq, Sem.run_bind, Sem.run_pure, Result.andThen_ok, binOp, str, Op.stringOp, str_inj]) h
end
end Go.GV
