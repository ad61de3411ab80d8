/- Part 12 of the proof. The last text: TreePlays: for every input the law answers true, and turns nothing. The tables that its row lists are premises, and tied to the text by its card. -/
import Derived.Test.YtbkadlngijkmmaaGreatDoorPart11
import Derived.Test.YtbkadlngijkmmaaGreatDoorPart2
import Derived.ProofKit
import Derived.Deep.Slices
import Derived.OpenShut
import Derived.Test.YtbkadlngijkmmaaGreatDoorPart10
import Derived.Test.YtbkadlngijkmmaaGreatDoorPart3
import Derived.Test.YtbkadlngijkmmaaGreatDoorCards
import Derived.Test.YtbkadlngijkmmaaGreatDoorTie
import Derived.WalkKit
import Derived.Deep.DeepHandedRow
/- Pages settle; a desk stands; whether there is too much of the steps. -/
namespace Go.Proofs.YtbkadlngijkmmaaGreatDoor
open Go.GV
theorem el_22_TrG4 : elemT Tryz.prog 22 = some 30 := by kernel_rfl
theorem fo_30_1_TrG4 : fieldO Tryz.prog 30 1 = some 1 := by kernel_rfl
theorem fo_30_2_TrG4 : fieldO Tryz.prog 30 2 = some 2 := by kernel_rfl
theorem sz_30_TrG4 : tsize Tryz.prog 30 = some 4 := by kernel_rfl
attribute [local irreducible] Wops W Wq Wt

/-! ### Settling -/
theorem settle_held (P : List Nat) (x : Nat) : ((P.map settleS)[x]? = some 1 ∨ (P.map settleS)[x]? = some 2) ↔ (P[x]? = some 1 ∨ P[x]? = some 2) := by
  rw [List.getElem?_map]
  cases P[x]? with
  | none => simp
  | some s =>
    simp only [Option.map_some, Option.some.injEq]
    unfold settleS
    split
    · omega
    · split
      · omega
      · exact Iff.rfl
theorem TreeAt.settle {fr : Nat} {A : Dev} {P : List Nat} {root : Int} {L : List Pr} (T : TreeAt fr A P root L) : TreeAt fr A (P.map settleS) root L := by
  obtain ⟨S, h1, h2, h3⟩ := T.lies
  exact ⟨⟨S, h1, h2, fun x => (h3 x).trans (settle_held P x).symm⟩, T.rise, T.ok⟩
theorem settle_count {P : List Nat} (hok : ∀ s ∈ P, s ≤ 3) : ∀ k, k ≤ P.length → (heldL P k).length + freeP ((P.map settleS).take k) = k
  | 0, _ => rfl
  | k + 1, hk => by
    have ih := settle_count hok k (by omega)
    obtain ⟨s, hs⟩ := get_some (l := P) (i := k) (by omega)
    have hs3 := hok s (List.mem_of_getElem? hs)
    have hq : (P.map settleS)[k]? = some (settleS s) := by rw [List.getElem?_map, hs]; rfl
    rw [heldL_succ, List.length_append, countP_snoc hq]
    have hb : heldB P k = (decide (s = 1) || decide (s = 2)) := by unfold heldB; rw [hs]; simp
    rw [hb]
    have h4 : s = 0 ∨ s = 1 ∨ s = 2 ∨ s = 3 := by omega
    rcases h4 with rfl | rfl | rfl | rfl
    · rw [if_neg (by decide), if_pos (by decide)]; simp only [List.length_nil]; omega
    · rw [if_pos (by decide), if_neg (by decide)]; simp only [List.length_cons, List.length_nil]; omega
    · rw [if_pos (by decide), if_neg (by decide)]; simp only [List.length_cons, List.length_nil]; omega
    · rw [if_neg (by decide), if_pos (by decide)]; simp only [List.length_nil]; omega
theorem settle_free {P S : List Nat} (hok : ∀ s ∈ P, s ≤ 3) (hnd : S.Nodup) (hS : ∀ x : Nat, x ∈ S ↔ P[x]? = some 1 ∨ P[x]? = some 2) : S.length + freeP (P.map settleS) = P.length := by
  have h1 := settle_count hok P.length (Nat.le_refl _)
  rw [List.take_of_length_le (by rw [List.length_map]; omega)] at h1
  have hperm : S.Perm (heldL P P.length) := by
    refine (List.perm_ext_iff_of_nodup hnd (List.nodup_range.filter _)).2 fun x => ?_
    rw [List.mem_filter, List.mem_range, hS]
    unfold heldB
    rw [Bool.or_eq_true, decide_eq_true_eq, decide_eq_true_eq]
    refine ⟨fun h => ⟨h.elim (fun h => (List.getElem?_eq_some_iff.1 h).1) fun h => (List.getElem?_eq_some_iff.1 h).1, h⟩, And.right⟩
  have h2 := hperm.length_eq
  omega
theorem rep0 {n x s : Nat} (h : (List.replicate n 0)[x]? = some s) : s = 0 := List.eq_of_mem_replicate (List.mem_of_getElem? h)
theorem new_tree (n : Nat) : TreeAt 10 (newD (10 + n)) (List.replicate n 0) (-1) [] := by
  refine ⟨⟨[], .inl ⟨rfl, rfl, rfl⟩, List.nodup_nil, fun x => ⟨(fun h => by cases h), fun h => ?_⟩⟩, List.Pairwise.nil, (fun p h => by cases h)⟩
  exfalso
  rcases h with h | h
  · have := rep0 h; omega
  · have := rep0 h; omega
theorem new_few7 (n : Nat) : Few (newD n) 0 := fun p h => by
  have h := List.eq_of_mem_replicate (show p ∈ List.replicate n (zeros, []) from h)
  rw [h]; exact Nat.le_refl _
theorem new_free (n : Nat) : freeP (List.replicate n 0) = n := by
  unfold freeP
  rw [List.countP_replicate]
  exact if_pos (by decide)
theorem stepL_len {s : St7} {L : List Pr} (h : Rising L) : (stepL s L).length ≤ L.length + 1 := by
  unfold stepL
  split
  · split
    · exact Nat.le_succ_of_le (cutP_len _ _)
    · omega
  · split
    · exact putP_len _ _ _ h
    · omega

/-! ### A desk that stands -/
structure Std (w0 w : World) (bx bt bd bp ba n : Nat) (root : Int) (L : List Pr) (i : Nat) (A : Dev) (P : List Nat) (F : Mut) : Prop where
  D : Dk w bx bt bd bp ba A P F
  T : TreeAt 10 A P root L
  on : A.on = true
  left : A.left = -1
  num : P.length = n
  blen : A.B.length = 10 + n
  few : Few A (40 * i)
  li : L.length ≤ i
  new : ∀ x, TM F ba bt bp [] x → w0.heap.size ≤ x
  hx : Ext [] w0 w
section
variable {w0 w w' : World} {bx bt bd bp ba n : Nat} {root : Int} {L : List Pr} {i : Nat} {A : Dev} {P : List Nat} {F : Mut}
theorem Std.call (s : Std w0 w bx bt bd bp ba n root L i A P F) (hx : Ext [] w w') : Std w0 w' bx bt bd bp ba n root L i A P F :=
  ⟨s.D.call hx, s.T, s.on, s.left, s.num, s.blen, s.few, s.li, s.new, s.hx.trans hx⟩
theorem Std.hl (s : Std w0 w bx bt bd bp ba n root L i A P F) : 10 + P.length ≤ A.B.length := by rw [s.num, s.blen]; exact Nat.le_refl _
theorem Std.settle (s : Std w0 w bx bt bd bp ba n root L i A P F) (h : PgAt w' bp ba (P.map settleS)) (hx : Ext [ba] w w') : Std w0 w' bx bt bd bp ba n root L i A (P.map settleS) F ∧ Grown (TM F ba bt bp []) (TM F ba bt bp []) w w' := by
  obtain ⟨h1, h2⟩ := s.D.T.page h hx
  exact ⟨⟨s.D.step h1 h2, s.T.settle, s.on, s.left, by rw [List.length_map]; exact s.num, s.blen, s.few, s.li, s.new, h2.1.new s.hx s.new⟩, h2⟩
theorem Std.told (s : Std w0 w bx bt bd bp ba n root L i A P F) (hn : n ≤ 2000) : ∃ S, Told 10 A P root L S ∧ S.Nodup ∧ (∀ x : Nat, x ∈ S ↔ P[x]? = some 1 ∨ P[x]? = some 2) := s.T.told s.on s.hl (by rw [s.num]; exact hn)
theorem Std.free (s : Std w0 w bx bt bd bp ba n root L i A P F) (hn : n ≤ 2000) : n ≤ freeP (P.map settleS) + 2 * i := by
  obtain ⟨S, td, hnd, hS⟩ := s.told hn
  have h1 := settle_free s.D.T.pg.ok hnd hS
  have h2 := td.len
  have h3 := s.li
  have h4 := s.num
  omega
theorem Std.step {root' : Int} {L' : List Pr} {A' : Dev} {P' : List Nat} {F' : Mut} (s : Std w0 w bx bt bd bp ba n root L i A P F) (D' : Dk w' bx bt bd bp ba A' P' F') (g : Grown (TM F ba bt bp []) (TM F' ba bt bp []) w w') (h : Stepped 10 A P root' L' A' P' (40 * i + 40)) (hl : L'.length ≤ L.length + 1) :
    Std w0 w' bx bt bd bp ba n root' L' (i + 1) A' P' F' := by
  obtain ⟨T', af, on', few'⟩ := h
  refine ⟨D', T', on', af.left s.left, af.len.trans s.num, af.blen.trans s.blen, few'.mono (by omega), ?_, fun x hx => ?_, g.1.new s.hx s.new⟩
  · have := s.li; omega
  · exact (g.2 x hx).elim (s.new x) fun h => Nat.le_trans s.hx.size h
theorem Std.does {t : St7} {v : Value} (s : Std w0 w bx bt bd bp ba n root L i A P F) (h : Does w bx bt bd bp ba A P F (stepL t L) (40 * i) v w') :
    ∃ root' a' c' A' P' F', v = .tuple #[.int .i64 root', .slice a' (stepL t L).length c', .bool true] ∧ Std w0 w' bx bt bd bp ba n root' (stepL t L) (i + 1) A' P' F' ∧ Prs w' (TM F' ba bt bp []) a' (stepL t L).length c' (stepL t L) ∧ Grown (TM F ba bt bp []) (TM F' ba bt bp []) w w' ∧ After 10 A P A' P' := by
  obtain ⟨root', a', c', A', P', F', hv, D', g, st, PL'⟩ := h.ex
  exact ⟨root', a', c', A', P', F', hv, s.step D' g st (stepL_len s.T.rise), PL', g, st.aft⟩
/-- What is put. -/
theorem Std.put (s : Std w0 w bx bt bd bp ba n root L i A P F) (hn : n ≤ 2000) (hi : i ≤ 1000) (hfree : 24 ≤ freeP P) {ka va : Option Addr} {kc vc : Nat} {key val : Byt} (Rk : Rdx w (TM F ba bt bp []) ka key) (Rv : Rdx w (TM F ba bt bp []) va val) (hkc : key.length ≤ kc) (hvc : val.length ≤ vc) (hk : rightK key.length val.length = true) :
    Ret Tryz.prog 26 #[ptr bt, .int .i64 root, .slice ka key.length kc, .slice va val.length vc] w fun v w' => ∃ root' A' P' F', v = .tuple #[.int .i64 root', .int .i64 0] ∧ Std w0 w' bx bt bd bp ba n root' (putP L key val) (i + 1) A' P' F' ∧ After 10 A P A' P' ∧ Grown (TM F ba bt bp []) (TM F' ba bt bp []) w w' := by
  obtain ⟨S, td, -, -⟩ := s.told hn
  have hlo := td.rlo; have hhi := td.rhi; have hnum := s.num
  have hkl : key.length ≤ 32 := by unfold rightK at hk; simp only [Bool.and_eq_true, decide_eq_true_eq] at hk; omega
  have hgood := put_good (key := key) (val := val) s.T s.on s.hl (by omega) s.left hfree s.few
  rcases hgood with ⟨h, _⟩ | ⟨_, h1, h4⟩
  · rw [hk] at h; cases h
  · refine (put8_ok (by omega) s.D.T root (by omega) (by omega) ka va kc vc _ _ key val Rk Rv rfl rfl hkc hvc (by omega) s.few (by omega) (by rw [h1]; decide)).mono fun v w' ⟨F', hv, T', g⟩ => ?_
    rw [h1] at hv
    exact ⟨_, _, _, F', hv, s.step (s.D.step T' g) g h4 (putP_len _ _ _ s.T.rise), h4.aft, g⟩
/-- What is cut. -/
theorem Std.cut (s : Std w0 w bx bt bd bp ba n root L i A P F) (hn : n ≤ 2000) (hi : i ≤ 1000) (hfree : 24 ≤ freeP P) {ka : Option Addr} {kc : Nat} {key : Byt} (Rk : Rdx w (TM F ba bt bp []) ka key) (hk : rightK key.length 0 = true) :
    Ret Tryz.prog 27 #[ptr bt, .int .i64 root, .slice ka key.length kc] w fun v w' => ∃ root' A' P' F', v = .tuple #[.int .i64 root', .bool (getP L key).isSome, .int .i64 0] ∧ Std w0 w' bx bt bd bp ba n root' (cutP L key) (i + 1) A' P' F' ∧ After 10 A P A' P' ∧ ((getP L key).isSome = false → root' = root) ∧ Grown (TM F ba bt bp []) (TM F' ba bt bp []) w w' := by
  obtain ⟨S, td, -, -⟩ := s.told hn
  have hlo := td.rlo; have hhi := td.rhi; have hnum := s.num
  have hkl : key.length ≤ 32 := by unfold rightK at hk; simp only [Bool.and_eq_true, decide_eq_true_eq] at hk; omega
  have hgood := cut_good (key := key) s.T s.on s.hl (by omega) s.left hfree s.few
  rcases hgood with ⟨h, _⟩ | ⟨_, h1, h2, h3, h4⟩
  · rw [hk] at h; cases h
  · refine (cut8_ok (by omega) s.D.T root (by omega) (by omega) ka kc _ key Rk rfl (by omega) s.few (by omega) (by rw [h1]; decide)).mono fun v w' ⟨F', hv, T', g⟩ => ?_
    rw [h1, h2] at hv
    exact ⟨_, _, _, F', hv, s.step (s.D.step T' g) g h4 (Nat.le_succ_of_le (cutP_len _ _)), h4.aft, h3, g⟩
/-- What is there. -/
theorem Std.get (s : Std w0 w bx bt bd bp ba n root L i A P F) (hn : n ≤ 2000) (hi : i ≤ 1000) {ka : Option Addr} {kc : Nat} {key : Byt} (Rk : Rd w ka 1 B8 key) :
    Ret Tryz.prog 17 #[ptr bt, .int .i64 root, .slice ka key.length kc] w fun v w' => ∃ va vc u b e, v = .tuple #[.slice va (List.length u) vc, .bool b, .int .i64 e] ∧ Ext [] w w' ∧ Rdx w' (TM F ba bt bp []) va u ∧ (rightK key.length 0 = true → e = 0 ∧ b = (getP L key).isSome ∧ u = (getP L key).getD []) := by
  obtain ⟨S, td, -, -⟩ := s.told hn
  have hlo := td.rlo; have hhi := td.rhi; have hnum := s.num
  have hg := get_good (key := key) s.T s.on s.hl (by omega)
  refine (get7_ok s.D.T (by omega) root ⟨by omega, by omega⟩ ka kc _ key Rk rfl s.few (by omega)).mono fun v w' ⟨va, vc, u, hv, hx, X, hc, hu⟩ => ?_
  refine ⟨va, vc, u, _, _, hv, hx, ⟨X.1, X.2.imp id fun h hm => h (s.D.T.mlt _ hm)⟩, fun hk => ?_⟩
  rw [hu, hg, if_pos hk]
  exact ⟨rfl, rfl, rfl⟩
end
/-- As long as none is settled, none is dropped. -/
theorem free_young {P P' : List Nat} (h : P'.map backS = P.map backS) (h0 : ∀ s ∈ P, s = 0) : freeP (P'.map settleS) = freeP P' := by
  have h1 : ∀ s ∈ P', backS s = 0 := fun s hs => by
    have h2 : backS s ∈ P'.map backS := List.mem_map_of_mem hs
    rw [h] at h2
    obtain ⟨t, ht, he⟩ := List.mem_map.1 h2
    rw [← he, h0 t ht]; rfl
  unfold freeP
  rw [List.countP_map]
  refine List.countP_congr fun s hs => ?_
  have h3 := h1 s hs
  unfold backS at h3
  simp only [Function.comp_apply, decide_eq_true_eq]
  unfold settleS
  split at h3
  · rename_i h4; subst h4; decide
  · split at h3
    · cases h3
    · subst h3; decide

/-! ### Steps that are given -/
structure Sm.In (w : World) (m : Sm) : Prop where
  k : Rd w m.ka 1 B8 m.s.key
  v : Rd w m.va 1 B8 m.s.val
  kc : m.s.key.length ≤ m.kc
  vc : m.s.val.length ≤ m.vc
theorem Rdx.of0 {w0 w : World} {M : Mut} {a : Option Addr} {l : Byt} (R : Rd w0 a 1 B8 l) (hx : Ext [] w0 w) (hM : ∀ x, M x → w0.heap.size ≤ x) : Rdx w M a l := by
  refine ⟨R.ext0 hx, ?_⟩
  rcases rd_ltN R (by decide) (fun _ _ => rfl) with h | h
  · exact .inl h
  · exact .inr fun hm => by have := hM _ hm; omega
theorem Sm.In.ok {w0 w : World} {M : Mut} {m : Sm} (h : m.In w0) (hk : m.s.key.length ≤ 200) (hv : m.s.val.length ≤ 500) (hx : Ext [] w0 w) (hM : ∀ x, M x → w0.heap.size ≤ x) : m.Ok w M :=
  ⟨.of0 h.k hx hM, .of0 h.v hx hM, h.kc, h.vc, hk, hv⟩
def smallS (m : Sm) : Prop := m.s.key.length ≤ 200 ∧ m.s.val.length ≤ 500
def bigS (m : Sm) : Bool := decide (200 < m.s.key.length) || decide (500 < m.s.val.length)
def heavy7B (l : List Sm) : Bool := (l.take 500).any bigS || decide (300 < l.length)
theorem bigS_small {m : Sm} (h : bigS m = false) : smallS m := by
  unfold bigS at h
  simp only [Bool.or_eq_false_iff, decide_eq_false_iff_not] at h
  exact ⟨by omega, by omega⟩
theorem light7 {l : List Sm} (h : heavy7B l = false) : l.length ≤ 300 ∧ ∀ m ∈ l, smallS m := by
  unfold heavy7B at h
  rw [Bool.or_eq_false_iff] at h
  have hl : l.length ≤ 300 := by have := of_decide_eq_false h.2; omega
  rw [List.take_of_length_le (by omega), List.any_eq_false] at h
  exact ⟨hl, fun m hm => bigS_small (by simpa using h.1 m hm)⟩
theorem heavy7_ok (a : Option Addr) (c : Nat) (l : List Sm) (w : World) (R : Rd w a 4 Sm.enc l) : Ret Tryz.prog 12 #[.slice a l.length c] w fun v w' => v = .bool (heavy7B l) ∧ w = w' := by
  obtain ⟨w0, rfl⟩ : ∃ w0, w0 = w := ⟨_, rfl⟩
  refine ret_of_W (fn := Tryz.f12) Tryz.func12 rfl [.slice a l.length c] rfl (by kernel_rfl) ?_
  refine W_rseq ?_
  refine op_assign rfl (.bool _) rfl ?_
  refine op_nil (at_then ?_)
  refine W_seq ?_
  refine W_rseq ?_
  refine op_assign rfl (.int _ _) rfl ?_
  refine op_nil (at_then ?_)
  refine W_block ?_
  refine W_loop 1073741820 (α := Nat) (fun i => [(3, .int .i64 (i : Int))]) (fun i w' => i ≤ l.length ∧ i ≤ 500 ∧ w0 = w' ∧ ∀ j m, j < i → l[j]? = some m → bigS m = false) (fun i => 500 - i) 0 rfl ?_ ?_ ?_
  · exact ⟨rfl, trivial⟩
  · exact ⟨Nat.zero_le _, Nat.zero_le _, rfl, fun j m h => absurd h (Nat.not_lt_zero _)⟩
  · rintro i j w ⟨hi, hi5, rfl, hs⟩
    refine W_seq ?_
    refine W_rseq (Wops_join (α := Unit) 4080 (fun _ => [(11, .bool (decide (i < l.length) && decide (i < 500)))]) (fun _ w' => w0 = w') rfl ?_ ?_)
    · refine op_move rfl (.int _ _) rfl ?_
      refine op_move rfl (.slice _ _ _) rfl ?_
      refine op_len rfl el_22_TrG4 rfl ?_
      refine op_lss rfl rfl rfl ?_
      refine op_move rfl (.bool _) rfl ?_
      refine Wops_split 8 rfl ?_ ?_
      · intro h1
        replace h1 := dec_t h1
        refine op_move rfl (.int _ _) rfl ?_
        refine op_lss rfl rfl rfl ?_
        refine op_pick1 rfl rfl (.bool _) rfl ?_
        refine op_nil ?_
        exact ⟨rfl, (), rfl, ⟨congrArg Value.bool (by rw [Bool.eq_iff_iff]; simp_all; try omega), trivial⟩, rfl⟩
      · intro h2
        replace h2 := dec_f h2
        refine op_skip rfl ?_
        refine op_skip rfl ?_
        refine op_pick0 rfl rfl (.bool _) rfl ?_
        refine op_nil ?_
        exact ⟨rfl, (), rfl, ⟨congrArg Value.bool (by rw [Bool.eq_iff_iff]; simp_all; try omega), trivial⟩, rfl⟩
    rintro - j11 w rfl
    refine W_cond _ rfl ?_ ?_
    · intro h1
      simp only [Bool.and_eq_true, decide_eq_true_eq] at h1
      obtain ⟨m, hm⟩ := get_some (l := l) (i := i) (by omega)
      refine W_skip (at_then ?_)
      refine W_seq ?_
      refine W_block ?_
      refine W_rseq (Wops_join (α := Unit) 1073725440 (fun _ => [(29, .bool (bigS m))]) (fun _ w' => w0 = w') rfl ?_ ?_)
      · refine op_move rfl (.slice _ _ _) rfl ?_
        refine op_move rfl (.int _ _) rfl ?_
        first | refine op_indexRd R rfl el_22_TrG4 sz_30_TrG4 rfl rfl (by omega) (by omega) (by first | rfl | omega) ?_ | refine op_indexAddr rfl el_22_TrG4 sz_30_TrG4 rfl rfl (by omega) (by omega) ?_
        refine op_fieldAddr rfl fo_30_1_TrG4 rfl ?_
        first | refine op_ldb rfl ag_23 rfl H (by first | exact at0 | exact at1 | exact at2 | exact at3 | exact at4 | exact at5 | exact at6 | exact at7 | exact at8 | exact at9) rfl ?_ | refine op_ld rfl ag_23 rfl ((R.fld hm rfl (j := 1) rfl)) ?_ | refine op_ld rfl ag_23 rfl ((R.fld hm rfl (j := 2) rfl)) ?_
        refine op_len rfl el_23 rfl ?_
        refine op_gtr rfl rfl rfl ?_
        refine op_move rfl (.bool _) rfl ?_
        refine Wops_split 21 rfl ?_ ?_
        · intro h3
          replace h3 := dec_t h3
          refine op_skip rfl ?_
          refine op_skip rfl ?_
          refine op_skip rfl ?_
          refine op_skip rfl ?_
          refine op_skip rfl ?_
          refine op_skip rfl ?_
          refine op_skip rfl ?_
          refine op_pick1 rfl rfl (.bool _) rfl ?_
          refine op_nil ?_
          exact ⟨rfl, (), rfl, ⟨congrArg Value.bool (by unfold bigS; rw [Bool.eq_iff_iff]; simp_all; try omega), trivial⟩, rfl⟩
        · intro h4
          replace h4 := dec_f h4
          refine op_move rfl (.slice _ _ _) rfl ?_
          refine op_move rfl (.int _ _) rfl ?_
          first | refine op_indexRd R rfl el_22_TrG4 sz_30_TrG4 rfl rfl (by omega) (by omega) (by first | rfl | omega) ?_ | refine op_indexAddr rfl el_22_TrG4 sz_30_TrG4 rfl rfl (by omega) (by omega) ?_
          refine op_fieldAddr rfl fo_30_2_TrG4 rfl ?_
          first | refine op_ldb rfl ag_23 rfl H (by first | exact at0 | exact at1 | exact at2 | exact at3 | exact at4 | exact at5 | exact at6 | exact at7 | exact at8 | exact at9) rfl ?_ | refine op_ld rfl ag_23 rfl ((R.fld hm rfl (j := 1) rfl)) ?_ | refine op_ld rfl ag_23 rfl ((R.fld hm rfl (j := 2) rfl)) ?_
          refine op_len rfl el_23 rfl ?_
          refine op_gtr rfl rfl rfl ?_
          refine op_pick0 rfl rfl (.bool _) rfl ?_
          refine op_nil ?_
          exact ⟨rfl, (), rfl, ⟨congrArg Value.bool (by unfold bigS; rw [Bool.eq_iff_iff]; simp_all; try omega), trivial⟩, rfl⟩
      rintro - j29 w rfl
      refine W_cond _ rfl ?_ ?_
      · intro h2
        refine W_rseq ?_
        refine op_assign rfl (.bool _) rfl ?_
        refine op_nil (at_then ?_)
        refine W_ret (ret_block (ret_then (ret_then (ret_block (ret_then (leave1 (v := (.bool _)) rfl rfl rfl ?_))))))
        exact ⟨congrArg Value.bool (by
          unfold heavy7B
          rw [List.any_eq_true.2 ⟨m, List.mem_of_getElem? (i := i) (by rw [List.getElem?_take, if_pos h1.2]; exact hm), h2⟩]; rfl), rfl⟩
      · intro h2
        refine W_skip (at_block (at_then ?_))
        refine W_region ?_
        refine op_move rfl (.int _ _) rfl ?_
        refine op_add_i64 rfl rfl rfl (by omega) (by omega) ?_
        refine op_assign rfl (.int _ _) rfl ?_
        refine op_nil (at_then ?_)
        refine ⟨i + 1, rfl, ⟨rfl, trivial⟩, ⟨by omega, by omega, rfl, fun k x hk hx => ?_⟩, by omega⟩
        rcases Nat.lt_or_ge k i with h | h
        · exact hs k x h hx
        · obtain rfl : k = i := by omega
          rw [hm] at hx
          injection hx with hx
          subst hx
          exact h2
    · intro h1
      simp only [Bool.and_eq_false_iff, decide_eq_false_iff_not] at h1
      refine W_exit (exit_then (exit_then (exit_here (at_then ?_))))
      refine W_rseq ?_
      refine op_move rfl (.slice _ _ _) rfl ?_
      refine op_len rfl el_22_TrG4 rfl ?_
      refine op_gtr rfl rfl rfl ?_
      refine op_assign rfl (.bool _) rfl ?_
      refine op_nil (at_then ?_)
      refine W_ret (leave1 (v := (.bool _)) rfl rfl rfl ?_)
      refine ⟨congrArg Value.bool ?_, rfl⟩
      unfold heavy7B
      rw [show (l.take 500).any bigS = false from ?_, Bool.false_or]
      · rw [Bool.eq_iff_iff]; simp only [decide_eq_true_eq]; omega
      · rw [List.any_eq_false]
        intro m hm
        obtain ⟨k, hk⟩ := List.getElem?_of_mem hm
        rw [List.getElem?_take] at hk
        split at hk
        · have := (List.getElem?_eq_some_iff.1 hk).1
          rw [hs k m (by omega) hk]; decide
        · cases hk

end Go.Proofs.YtbkadlngijkmmaaGreatDoor

/- The chapter's examples. -/
namespace Go.Proofs.YtbkadlngijkmmaaGreatDoor
open Go.GV
theorem ag_34_TrG5 : aggB Tryz.prog 34 = some false := by kernel_rfl
theorem ca_14_TrG5 : callable Tryz.prog 14 = true := by kernel_rfl
theorem ca_17_TrG5 : callable Tryz.prog 17 = true := by kernel_rfl
theorem ca_26_TrG5 : callable Tryz.prog 26 = true := by kernel_rfl
theorem ca_27_TrG5 : callable Tryz.prog 27 = true := by kernel_rfl
theorem ca_33_TrG5 : callable Tryz.prog 33 = true := by kernel_rfl
theorem fo_36_2_TrG5 : fieldO Tryz.prog 36 2 = some 2 := by kernel_rfl
theorem un_26_TrG5 : Tryz.prog.underlying 26 = some (.pointer 36) := by kernel_rfl
attribute [local irreducible] Wops W Wq Wt

theorem b7_ok (l : Byt) (w : World) : Ret Tryz.prog 33 #[str l] w fun v w' => ∃ b c, v = .slice (some ⟨b, 0, none⟩) l.length c ∧ Rd w' (some ⟨b, 0, none⟩) 1 B8 l ∧ l.length ≤ c ∧ w.heap.size ≤ b ∧ Ext [] w w' := by
  obtain ⟨w0, rfl⟩ : ∃ w0, w0 = w := ⟨_, rfl⟩
  refine ret_of_W (fn := Tryz.f33) Tryz.func33 rfl [str l] rfl (by kernel_rfl) ?_
  refine W_rseq ?_
  refine op_assign rfl (.slice _ _ _) rfl ?_
  refine op_nil (at_then ?_)
  refine W_rseq ?_
  refine op_move rfl (.string _) rfl ?_
  refine op_bytes (l := l) rfl un_9 el_23 un_5 rfl ?_
  rintro b c w hb hc hx R
  refine op_assign rfl (.slice _ _ _) rfl ?_
  refine op_nil (at_then ?_)
  refine W_ret (leave1 (v := (.slice _ _ _)) rfl rfl rfl ?_)
  exact ⟨b, c, rfl, R, hc, hb, hx⟩
theorem Rdx.new {w w1 w2 : World} {M : Mut} {b : Nat} {l : Byt} (R : Rd w2 (some ⟨b, 0, none⟩) 1 B8 l) (hM : ∀ x, M x → x < w.heap.size) (hs : w.heap.size ≤ w1.heap.size) (hb : w1.heap.size ≤ b) : Rdx w2 M (some ⟨b, 0, none⟩) l :=
  ⟨R, .inr fun h => by have : b < w.heap.size := hM _ h; omega⟩
def kA : Byt := [97]
def kB : Byt := [98]
def vA : Byt := [49]

set_option maxRecDepth 20000 in
set_option maxHeartbeats 8000000 in
theorem works7_ok (w : World) : Ret Tryz.prog 13 #[] w fun v w' => v = .bool true ∧ Ext [] w w' := by
  obtain ⟨w0, rfl⟩ : ∃ w0, w0 = w := ⟨_, rfl⟩
  refine ret_of_W (fn := Tryz.f13) Tryz.func13 rfl [] rfl (by kernel_rfl) ?_
  refine W_rseq ?_
  refine op_assign rfl (.bool _) rfl ?_
  refine op_nil (at_then ?_)
  refine W_rseq ?_
  refine op_call rfl ca_14_TrG5 (opened_ok 40 (by omega) (by omega) w0) rfl ?_
  rintro v w ⟨bx, bt, bd, bp, ba, F, rfl, D, hx, hnew, -⟩
  refine op_assign rfl (.pointer _) rfl ?_
  refine op_nil (at_then ?_)
  refine W_seq ?_
  refine W_rseq ?_
  refine op_move rfl (.pointer _) rfl ?_
  refine op_eqlptr rfl un_26_TrG5 rfl ?_
  refine op_nil (at_then ?_)
  refine W_cond0 rfl ?_
  refine W_skip (at_then ?_)
  obtain ⟨w1, rfl⟩ : ∃ z, z = w := ⟨_, rfl⟩
  obtain ⟨A0, hA0⟩ : ∃ A, A = newD (10 + 40) := ⟨_, rfl⟩
  obtain ⟨P0, hP0⟩ : ∃ P, P = List.replicate 40 0 := ⟨_, rfl⟩
  have s1 : Std w0 w1 bx bt bd bp ba 40 (-1) [] 0 A0 P0 F := by
    rw [hA0, hP0]
    exact ⟨D, new_tree 40, rfl, rfl, List.length_replicate .., newD_len _, new_few7 _, Nat.le_refl _, hnew, hx⟩
  have hfree0 : 24 ≤ freeP P0 := by rw [hP0, new_free]; omega
  have hz0 : ∀ s ∈ P0, s = 0 := fun s hs => by rw [hP0] at hs; exact List.eq_of_mem_replicate hs
  have H := Ctx.start w1 []
  refine W_sseqz [([0, 1, 2, 3], 4), ([], 5), ([], 6), ([7, 8, 9, 10], 11)] (fun z => z.heap[bx]? = some (Bl 36 [ptr bd, ptr bp, ptr bt])) [] mixed (by kernel_rfl) (s1.D.dk) ?_
  refine seg_cons rfl rfl ?_
  refine t_move rfl (.pointer _) rfl ?_
  refine t_nilCheck rfl rfl ?_
  refine t_fieldAddr rfl fo_36_2_TrG5 rfl ?_
  first | refine t_ldb rfl ag_34_TrG5 rfl (fun _ _ => Ctx.start _ []) (by first | exact at0 | exact at1 | exact at2 | exact at3 | exact at4 | exact at5 | exact at6 | exact at7 | exact at8 | exact at9) rfl ?_ | refine t_ld rfl ag_34_TrG5 rfl (fun _ hx => (by rw [cell_bl hx]; rfl)) ?_
  refine t_nil ?_
  skip
  refine op_call rfl ca_33_TrG5 (b7_ok kA _) rfl ?_
  rintro v w2 ⟨b2, c2, rfl, R2, hc2, hb2, hx2⟩
  have s2 := (s1.call (Ext.drew [] w1)).call hx2
  refine op_nil (at_seg (s2.D.dk) ?_)
  refine seg_cons rfl rfl ?_
  refine t_nil ?_
  refine op_call rfl ca_33_TrG5 (b7_ok vA _) rfl ?_
  rintro v w3 ⟨b3, c3, rfl, R3, hc3, hb3, hx3⟩
  have s3 := s2.call hx3
  refine op_nil (at_seg (s3.D.dk) ?_)
  refine seg_cons rfl rfl ?_
  refine t_nil ?_
  refine op_call rfl ca_26_TrG5 (s3.put (by omega) (by omega) hfree0 (Rdx.new (R2.ext0 hx3) s1.D.T.mlt (Nat.le_refl _) hb2) (Rdx.new R3 s2.D.T.mlt (Nat.le_refl _) hb3) hc2 hc3 (by decide)) rfl ?_
  rintro v w4 ⟨r4, A4, P4, F4, rfl, s4, af4, -⟩
  refine op_nil (at_seg (s4.D.dk) ?_)
  refine seg_cons rfl rfl ?_
  refine t_move rfl (.tuple _) rfl ?_
  refine t_extract rfl rfl rfl ?_
  refine t_extract rfl rfl rfl ?_
  refine t_assign rfl (.int _ _) rfl ?_
  refine t_nil ?_
  refine op_assign rfl (.int _ _) rfl ?_
  refine op_nil (at_seg (s4.D.dk) ?_)
  refine seg_nil ?_
  have hL4 : putP [] kA vA = [(kA, vA)] := rfl
  rw [hL4] at s4
  have H := Ctx.start w4 []
  refine W_sseqz [([0, 1, 2, 3, 4], 5), ([], 6), ([7, 8, 9, 10, 11, 12], 13)] (fun z => z.heap[bx]? = some (Bl 36 [ptr bd, ptr bp, ptr bt])) [] mixed (by kernel_rfl) (s4.D.dk) ?_
  refine seg_cons rfl rfl ?_
  refine t_move rfl (.pointer _) rfl ?_
  refine t_nilCheck rfl rfl ?_
  refine t_fieldAddr rfl fo_36_2_TrG5 rfl ?_
  first | refine t_ldb rfl ag_34_TrG5 rfl (fun _ _ => Ctx.start _ []) (by first | exact at0 | exact at1 | exact at2 | exact at3 | exact at4 | exact at5 | exact at6 | exact at7 | exact at8 | exact at9) rfl ?_ | refine t_ld rfl ag_34_TrG5 rfl (fun _ hx => (by rw [cell_bl hx]; rfl)) ?_
  refine t_move rfl (.int _ _) rfl ?_
  refine t_nil ?_
  skip
  refine op_call rfl ca_33_TrG5 (b7_ok kA _) rfl ?_
  rintro v w5 ⟨b5, c5, rfl, R5, hc5, hb5, hx5⟩
  have s5 := (s4.call (Ext.drew [] w4)).call hx5
  refine op_nil (at_seg (s5.D.dk) ?_)
  refine seg_cons rfl rfl ?_
  refine t_nil ?_
  refine op_call rfl ca_17_TrG5 (s5.get (by omega) (by omega) R5) rfl ?_
  rintro v w6 ⟨a6, c6, u6, g6, e6, rfl, hx6, R6, h6⟩
  have s6 := s5.call hx6
  refine op_nil (at_seg (s6.D.dk) ?_)
  refine seg_cons rfl rfl ?_
  refine t_move rfl (.tuple _) rfl ?_
  refine t_extract rfl rfl rfl ?_
  refine t_extract rfl rfl rfl ?_
  refine t_extract rfl rfl rfl ?_
  refine t_assign rfl (.slice _ _ _) rfl ?_
  refine t_assign rfl (.bool _) rfl ?_
  refine t_nil ?_
  refine op_assign rfl (.int _ _) rfl ?_
  refine op_nil (at_seg (s6.D.dk) ?_)
  refine seg_nil ?_
  obtain ⟨rfl, hg6, hu6⟩ := h6 (by decide)
  rw [show getP [(kA, vA)] kA = some vA from rfl] at hg6 hu6
  obtain rfl : g6 = true := hg6
  obtain rfl : u6 = vA := hu6
  have H := Ctx.start w6 []
  refine W_sseqz [([0, 1, 2, 3, 4], 5), ([], 6), ([7, 8, 9, 10, 11, 12], 13)] (fun z => z.heap[bx]? = some (Bl 36 [ptr bd, ptr bp, ptr bt])) [] mixed (by kernel_rfl) (s6.D.dk) ?_
  refine seg_cons rfl rfl ?_
  refine t_move rfl (.pointer _) rfl ?_
  refine t_nilCheck rfl rfl ?_
  refine t_fieldAddr rfl fo_36_2_TrG5 rfl ?_
  first | refine t_ldb rfl ag_34_TrG5 rfl (fun _ _ => Ctx.start _ []) (by first | exact at0 | exact at1 | exact at2 | exact at3 | exact at4 | exact at5 | exact at6 | exact at7 | exact at8 | exact at9) rfl ?_ | refine t_ld rfl ag_34_TrG5 rfl (fun _ hx => (by rw [cell_bl hx]; rfl)) ?_
  refine t_move rfl (.int _ _) rfl ?_
  refine t_nil ?_
  skip
  refine op_call rfl ca_33_TrG5 (b7_ok kB _) rfl ?_
  rintro v w7 ⟨b7, c7, rfl, R7, hc7, hb7, hx7⟩
  have s7 := (s6.call (Ext.drew [] w6)).call hx7
  refine op_nil (at_seg (s7.D.dk) ?_)
  refine seg_cons rfl rfl ?_
  refine t_nil ?_
  refine op_call rfl ca_17_TrG5 (s7.get (by omega) (by omega) R7) rfl ?_
  rintro v w8 ⟨a8, c8, u8, g8, e8, rfl, hx8, R8, h8⟩
  have s8 := s7.call hx8
  refine op_nil (at_seg (s8.D.dk) ?_)
  refine seg_cons rfl rfl ?_
  refine t_move rfl (.tuple _) rfl ?_
  refine t_extract rfl rfl rfl ?_
  refine t_extract rfl rfl rfl ?_
  refine t_extract rfl rfl rfl ?_
  refine t_assign rfl (.slice _ _ _) rfl ?_
  refine t_assign rfl (.bool _) rfl ?_
  refine t_nil ?_
  refine op_assign rfl (.int _ _) rfl ?_
  refine op_nil (at_seg (s8.D.dk) ?_)
  refine seg_nil ?_
  obtain ⟨rfl, hg8, hu8⟩ := h8 (by decide)
  rw [show getP [(kA, vA)] kB = none from rfl] at hg8 hu8
  obtain rfl : g8 = false := hg8
  obtain rfl : u8 = [] := hu8
  obtain ⟨S4, td4, hnd4, hS4⟩ := s4.told (by omega)
  have hset := settle_free s4.D.T.pg.ok hnd4 hS4
  rw [free_young af4.back hz0] at hset
  have hlen4 := td4.len
  have hnum4 := s4.num
  rw [show [(kA, vA)].length = 1 from rfl] at hlen4
  have hfree4 : 24 ≤ freeP P4 := by omega
  have hr4 : 0 ≤ r4 := by
    have h1 := td4.rlo
    have h2 : r4 ≠ -1 := fun h => by have h := td4.none.1 h; cases h
    omega
  have H := Ctx.start w8 []
  refine W_sseqz [([0, 1, 2, 3, 4], 5), ([], 6), ([7, 8, 9, 10, 11, 12], 13)] (fun z => z.heap[bx]? = some (Bl 36 [ptr bd, ptr bp, ptr bt])) [] mixed (by kernel_rfl) (s8.D.dk) ?_
  refine seg_cons rfl rfl ?_
  refine t_move rfl (.pointer _) rfl ?_
  refine t_nilCheck rfl rfl ?_
  refine t_fieldAddr rfl fo_36_2_TrG5 rfl ?_
  first | refine t_ldb rfl ag_34_TrG5 rfl (fun _ _ => Ctx.start _ []) (by first | exact at0 | exact at1 | exact at2 | exact at3 | exact at4 | exact at5 | exact at6 | exact at7 | exact at8 | exact at9) rfl ?_ | refine t_ld rfl ag_34_TrG5 rfl (fun _ hx => (by rw [cell_bl hx]; rfl)) ?_
  refine t_move rfl (.int _ _) rfl ?_
  refine t_nil ?_
  skip
  refine op_call rfl ca_33_TrG5 (b7_ok kB _) rfl ?_
  rintro v w9 ⟨b9, c9, rfl, R9, hc9, hb9, hx9⟩
  have s9 := (s8.call (Ext.drew [] w8)).call hx9
  refine op_nil (at_seg (s9.D.dk) ?_)
  refine seg_cons rfl rfl ?_
  refine t_nil ?_
  refine op_call rfl ca_27_TrG5 (s9.cut (by omega) (by omega) hfree4 (Rdx.new R9 s8.D.T.mlt (Nat.le_refl _) hb9) (by decide)) rfl ?_
  rintro v w10 ⟨r10, A10, P10, F10, rfl, s10, af10, hr10, g10⟩
  refine op_nil (at_seg (s10.D.dk) ?_)
  refine seg_cons rfl rfl ?_
  refine t_move rfl (.tuple _) rfl ?_
  refine t_extract rfl rfl rfl ?_
  refine t_extract rfl rfl rfl ?_
  refine t_extract rfl rfl rfl ?_
  refine t_assign rfl (.int _ _) rfl ?_
  refine t_assign rfl (.bool _) rfl ?_
  refine t_nil ?_
  refine op_assign rfl (.int _ _) rfl ?_
  refine op_nil (at_seg (s10.D.dk) ?_)
  refine seg_nil ?_
  obtain rfl : r10 = r4 := hr10 rfl
  rw [show cutP [(kA, vA)] kB = [(kA, vA)] from rfl] at s10
  rw [show (getP [(kA, vA)] kB).isSome = false from rfl]
  obtain ⟨S10, td10, hnd10, hS10⟩ := s10.told (by omega)
  have hset10 := settle_free s10.D.T.pg.ok hnd10 hS10
  rw [free_young (af10.back.trans af4.back) hz0] at hset10
  have hlen10 := td10.len
  have hnum10 := s10.num
  rw [show [(kA, vA)].length = 1 from rfl] at hlen10
  have hfree10 : 24 ≤ freeP P10 := by omega
  have H := Ctx.start w10 []
  refine W_sseqz [([0, 1, 2, 3, 4], 5), ([], 6), ([7, 8, 9, 10, 11, 12], 13)] (fun z => z.heap[bx]? = some (Bl 36 [ptr bd, ptr bp, ptr bt])) [] mixed (by kernel_rfl) (s10.D.dk) ?_
  refine seg_cons rfl rfl ?_
  refine t_move rfl (.pointer _) rfl ?_
  refine t_nilCheck rfl rfl ?_
  refine t_fieldAddr rfl fo_36_2_TrG5 rfl ?_
  first | refine t_ldb rfl ag_34_TrG5 rfl (fun _ _ => Ctx.start _ []) (by first | exact at0 | exact at1 | exact at2 | exact at3 | exact at4 | exact at5 | exact at6 | exact at7 | exact at8 | exact at9) rfl ?_ | refine t_ld rfl ag_34_TrG5 rfl (fun _ hx => (by rw [cell_bl hx]; rfl)) ?_
  refine t_move rfl (.int _ _) rfl ?_
  refine t_nil ?_
  skip
  refine op_call rfl ca_33_TrG5 (b7_ok kA _) rfl ?_
  rintro v w11 ⟨b11, c11, rfl, R11, hc11, hb11, hx11⟩
  have s11 := (s10.call (Ext.drew [] w10)).call hx11
  refine op_nil (at_seg (s11.D.dk) ?_)
  refine seg_cons rfl rfl ?_
  refine t_nil ?_
  refine op_call rfl ca_27_TrG5 (s11.cut (by omega) (by omega) hfree10 (Rdx.new R11 s10.D.T.mlt (Nat.le_refl _) hb11) (by decide)) rfl ?_
  rintro v w12 ⟨r12, A12, P12, F12, rfl, s12, -, -, g12⟩
  refine op_nil (at_seg (s12.D.dk) ?_)
  refine seg_cons rfl rfl ?_
  refine t_move rfl (.tuple _) rfl ?_
  refine t_extract rfl rfl rfl ?_
  refine t_extract rfl rfl rfl ?_
  refine t_extract rfl rfl rfl ?_
  refine t_assign rfl (.int _ _) rfl ?_
  refine t_assign rfl (.bool _) rfl ?_
  refine t_nil ?_
  refine op_assign rfl (.int _ _) rfl ?_
  refine op_nil (at_seg (s12.D.dk) ?_)
  refine seg_nil ?_
  rw [show cutP [(kA, vA)] kA = [] from rfl] at s12
  rw [show (getP [(kA, vA)] kA).isSome = true from rfl]
  obtain ⟨S12, td12, -, -⟩ := s12.told (by omega)
  obtain rfl : r12 = -1 := td12.none.2 rfl
  have X8 := R6.turn (.call0 (((Ext.drew [] w6).trans hx7).trans hx8))
  have X10 := (X8.turn (.call0 ((Ext.drew [] w8).trans hx9))).turn g10
  have X12 := (X10.turn (.call0 ((Ext.drew [] w10).trans hx11))).turn g12
  refine W_rseq ?_
  refine op_move rfl (.int _ _) rfl ?_
  refine op_eql rfl rfl rfl ?_
  refine op_move rfl (.bool _) rfl ?_
  refine op_move rfl (.int _ _) rfl ?_
  refine op_geq rfl rfl rfl ?_
  rw [decide_eq_true hr4]
  refine op_pick1 rfl rfl (.bool _) rfl ?_
  refine op_move rfl (.bool _) rfl ?_
  refine op_move rfl (.slice _ _ _) rfl ?_
  refine op_back (l := vA) rfl el_23 un_5 un_9 rfl X12.1 ?_
  refine op_streq (l := vA) (m := [49]) rfl rfl rfl ?_
  rw [show decide (vA = [49]) = true from rfl]
  refine op_pick1 rfl rfl (.bool _) rfl ?_
  refine op_move rfl (.bool _) rfl ?_
  refine op_move rfl (.bool _) rfl ?_
  refine op_pick1 rfl rfl (.bool _) rfl ?_
  refine op_move rfl (.bool _) rfl ?_
  refine op_move rfl (.int _ _) rfl ?_
  refine op_eql rfl rfl rfl ?_
  refine op_pick1 rfl rfl (.bool _) rfl ?_
  refine op_move rfl (.bool _) rfl ?_
  refine op_move rfl (.bool _) rfl ?_
  refine op_not rfl rfl ?_
  refine op_pick1 rfl rfl (.bool _) rfl ?_
  refine op_move rfl (.bool _) rfl ?_
  refine op_move rfl (.int _ _) rfl ?_
  refine op_eql rfl rfl rfl ?_
  refine op_pick1 rfl rfl (.bool _) rfl ?_
  refine op_move rfl (.bool _) rfl ?_
  refine op_move rfl (.int _ _) rfl ?_
  refine op_move rfl (.int _ _) rfl ?_
  refine op_eql rfl rfl rfl ?_
  rw [show decide (r10 = r10) = true from decide_eq_true rfl]
  refine op_pick1 rfl rfl (.bool _) rfl ?_
  refine op_move rfl (.bool _) rfl ?_
  refine op_move rfl (.bool _) rfl ?_
  refine op_not rfl rfl ?_
  refine op_pick1 rfl rfl (.bool _) rfl ?_
  refine op_move rfl (.bool _) rfl ?_
  refine op_move rfl (.int _ _) rfl ?_
  refine op_eql rfl rfl rfl ?_
  refine op_pick1 rfl rfl (.bool _) rfl ?_
  refine op_move rfl (.bool _) rfl ?_
  refine op_move rfl (.int _ _) rfl ?_
  refine op_eql rfl rfl rfl ?_
  refine op_pick1 rfl rfl (.bool _) rfl ?_
  refine op_move rfl (.bool _) rfl ?_
  refine op_move rfl (.bool _) rfl ?_
  refine op_pick1 rfl rfl (.bool _) rfl ?_
  refine op_move rfl (.bool _) rfl ?_
  refine op_move rfl (.int _ _) rfl ?_
  refine op_eql rfl rfl rfl ?_
  refine op_pick1 rfl rfl (.bool _) rfl ?_
  refine op_assign rfl (.bool _) rfl ?_
  refine op_nil (at_then ?_)
  refine W_ret (leave1 (v := (.bool _)) rfl rfl rfl ?_)
  exact ⟨rfl, s12.hx⟩

end Go.Proofs.YtbkadlngijkmmaaGreatDoor

/- What is done without a tree, and with roots that are none. -/
namespace Go.Proofs.YtbkadlngijkmmaaGreatDoor
open Go.GV
attribute [local irreducible] Wops W Wq Wt

section
variable {w : World} {bt bd bp ba fr : Nat} {A : Dev} {P : List Nat} {F : Mut}
end
end Go.Proofs.YtbkadlngijkmmaaGreatDoor

/- Whatever is put and cut: the walk. -/
namespace Go.Proofs.YtbkadlngijkmmaaGreatDoor
open Go.GV
theorem ag_30_TrG7 : aggB Tryz.prog 30 = some true := by kernel_rfl
theorem ag_33_TrG7 : aggB Tryz.prog 33 = some false := by kernel_rfl
theorem ag_34_TrG7 : aggB Tryz.prog 34 = some false := by kernel_rfl
theorem ca_12_TrG7 : callable Tryz.prog 12 = true := by kernel_rfl
theorem ca_13_TrG7 : callable Tryz.prog 13 = true := by kernel_rfl
theorem ca_14_TrG7 : callable Tryz.prog 14 = true := by kernel_rfl
theorem ca_15_TrG7 : callable Tryz.prog 15 = true := by kernel_rfl
theorem ca_16_TrG7 : callable Tryz.prog 16 = true := by kernel_rfl
theorem ca_17_TrG7 : callable Tryz.prog 17 = true := by kernel_rfl
theorem ca_18_TrG7 : callable Tryz.prog 18 = true := by kernel_rfl
theorem ca_19_TrG7 : callable Tryz.prog 19 = true := by kernel_rfl
theorem ca_20_TrG7 : callable Tryz.prog 20 = true := by kernel_rfl
theorem ca_21_TrG7 : callable Tryz.prog 21 = true := by kernel_rfl
theorem ca_22_TrG7 : callable Tryz.prog 22 = true := by kernel_rfl
theorem ca_23_TrG7 : callable Tryz.prog 23 = true := by kernel_rfl
theorem ca_24_TrG7 : callable Tryz.prog 24 = true := by kernel_rfl
theorem ca_25_TrG7 : callable Tryz.prog 25 = true := by kernel_rfl
theorem el_22_TrG7 : elemT Tryz.prog 22 = some 30 := by kernel_rfl
theorem el_28_TrG7 : elemT Tryz.prog 28 = some 70 := by kernel_rfl
theorem fo_30_1_TrG7 : fieldO Tryz.prog 30 1 = some 1 := by kernel_rfl
theorem fo_30_3_TrG7 : fieldO Tryz.prog 30 3 = some 3 := by kernel_rfl
theorem fo_36_1_TrG7 : fieldO Tryz.prog 36 1 = some 1 := by kernel_rfl
theorem fo_36_2_TrG7 : fieldO Tryz.prog 36 2 = some 2 := by kernel_rfl
theorem sz_30_TrG7 : tsize Tryz.prog 30 = some 4 := by kernel_rfl
theorem un_26_TrG7 : Tryz.prog.underlying 26 = some (.pointer 36) := by kernel_rfl
theorem un_4_TrG7 : Tryz.prog.underlying 4 = some (.bool) := by kernel_rfl
theorem zc_30_TrG7 : zcells Tryz.prog 30 = some ([.bool false, .slice none 0 0, .slice none 0 0, .bool false]) := by kernel_rfl
attribute [local irreducible] Wops W Wq Wt

structure Sv where
  root : Int
  la : Option Addr
  lc : Nat
  L : List Pr
  i : Nat
  A : Dev
  P : List Nat
  F : Mut
/-- A desk that stands between two steps, with room. -/
structure Mid (w0 w : World) (bx bt bd bp ba : Nat) (s : Sv) : Prop where
  std : Std w0 w bx bt bd bp ba 800 s.root s.L s.i s.A s.P s.F
  pl : Prs w (TM s.F ba bt bp []) s.la s.L.length s.lc s.L
  free : 24 ≤ freeP s.P
theorem Mid.of {w0 w : World} {bx bt bd bp ba : Nat} {root : Int} {la : Option Addr} {lc : Nat} {L : List Pr} {i : Nat} {A : Dev} {P : List Nat} {F : Mut} (s : Std w0 w bx bt bd bp ba 800 root L i A P F) (PL : Prs w (TM F ba bt bp []) la L.length lc L) (h : 24 ≤ freeP P) : Mid w0 w bx bt bd bp ba ⟨root, la, lc, L, i, A, P, F⟩ := ⟨s, PL, h⟩
theorem Mid.settle {w0 w w' : World} {bx bt bd bp ba : Nat} {root : Int} {la : Option Addr} {lc : Nat} {L : List Pr} {i : Nat} {A : Dev} {P : List Nat} {F : Mut} (s : Std w0 w bx bt bd bp ba 800 root L i A P F) (PL : Prs w (TM F ba bt bp []) la L.length lc L) (hi : i ≤ 300) (h : PgAt w' bp ba (P.map settleS)) (hx : Ext [ba] w w') :
    Mid w0 w' bx bt bd bp ba ⟨root, la, lc, L, i, A, P.map settleS, F⟩ ∧ Grown (TM F ba bt bp []) (TM F ba bt bp []) w w' := by
  obtain ⟨h1, h2⟩ := s.settle h hx
  refine ⟨⟨h1, PL.turn h2, ?_⟩, h2⟩
  have := s.free (by omega)
  show 24 ≤ freeP (P.map settleS)
  omega

set_option maxRecDepth 20000 in
set_option maxHeartbeats 16000000 in
theorem treePlays_ok (a fa ta : Option Addr) (c fc tc : Nat) (l : List Sm) (kf kt : Byt) (w : World) (R : Rd w a 4 Sm.enc l) (hin : ∀ m ∈ l, m.In w) (Rf : Rd w fa 1 B8 kf) (Rt : Rd w ta 1 B8 kt) :
    Ret Tryz.prog 3 #[.slice a l.length c, .slice fa kf.length fc, .slice ta kt.length tc] w fun v w' => v = .bool true ∧ Ext [] w w' := by
  obtain ⟨w0, rfl⟩ : ∃ w0, w0 = w := ⟨_, rfl⟩
  refine ret_of_W (fn := Tryz.f3) Tryz.func3 rfl [.slice a l.length c, .slice fa kf.length fc, .slice ta kt.length tc] rfl (by kernel_rfl) ?_
  refine W_rseq ?_
  refine op_assign rfl (.bool _) rfl ?_
  refine op_nil (at_then ?_)
  refine W_seq ?_
  refine W_rseq (Wops_join (α := Unit) 17175674880 (fun _ => [(33, .bool (heavy7B l || (decide (200 < kf.length) || decide (200 < kt.length))))]) (fun _ w' => w0 = w') rfl ?_ ?_)
  · refine op_move rfl (.slice _ _ _) rfl ?_
    refine op_call rfl ca_12_TrG7 (heavy7_ok a c l _ R) rfl ?_
    rintro v w ⟨rfl, rfl⟩
    refine op_move rfl (.bool _) rfl ?_
    refine Wops_split 24 rfl ?_ ?_
    · intro h1
      refine op_skip rfl ?_
      refine op_skip rfl ?_
      refine op_skip rfl ?_
      refine op_pick1 rfl rfl (.bool _) rfl ?_
      refine op_move rfl (.bool _) rfl ?_
      refine op_skip rfl ?_
      refine op_skip rfl ?_
      refine op_skip rfl ?_
      refine op_pick1 rfl rfl (.bool _) rfl ?_
      refine op_nil ?_
      exact ⟨rfl, (), rfl, ⟨congrArg Value.bool (by rw [Bool.eq_iff_iff]; simp_all; try omega), trivial⟩, rfl⟩
    · intro h2
      refine op_move rfl (.slice _ _ _) rfl ?_
      refine op_len rfl el_23 rfl ?_
      refine op_gtr rfl rfl rfl ?_
      refine op_pick0 rfl rfl (.bool _) rfl ?_
      refine op_move rfl (.bool _) rfl ?_
      refine Wops_split 29 rfl ?_ ?_
      · intro h3
        replace h3 := dec_t h3
        refine op_skip rfl ?_
        refine op_skip rfl ?_
        refine op_skip rfl ?_
        refine op_pick1 rfl rfl (.bool _) rfl ?_
        refine op_nil ?_
        exact ⟨rfl, (), rfl, ⟨congrArg Value.bool (by rw [Bool.eq_iff_iff]; simp_all; try omega), trivial⟩, rfl⟩
      · intro h4
        replace h4 := dec_f h4
        refine op_move rfl (.slice _ _ _) rfl ?_
        refine op_len rfl el_23 rfl ?_
        refine op_gtr rfl rfl rfl ?_
        refine op_pick0 rfl rfl (.bool _) rfl ?_
        refine op_nil ?_
        exact ⟨rfl, (), rfl, ⟨congrArg Value.bool (by rw [Bool.eq_iff_iff]; simp_all; try omega), trivial⟩, rfl⟩
  rintro - j33 w rfl
  refine W_cond _ rfl ?_ ?_
  · intro hA
    refine W_rseq ?_
    refine op_call rfl ca_13_TrG7 (works7_ok _) rfl ?_
    rintro v w ⟨rfl, hxw⟩
    refine op_assign rfl (.bool _) rfl ?_
    refine op_nil (at_then ?_)
    refine W_ret (ret_then (leave1 (v := (.bool _)) rfl rfl rfl ?_))
    exact ⟨rfl, hxw⟩
  · intro hA
    rw [Bool.or_eq_false_iff] at hA
    obtain ⟨hl3, hsm⟩ := light7 hA.1
    refine W_skip (at_then ?_)
    refine W_rseq ?_
    refine op_call rfl ca_14_TrG7 (opened_ok 800 (by omega) (by omega) _) rfl ?_
    rintro v w1 ⟨bx, bt, bd, bp, ba, F0, rfl, D, hx, hnew, -⟩
    refine op_assign rfl (.pointer _) rfl ?_
    refine op_nil (at_then ?_)
    refine W_seq ?_
    refine W_rseq ?_
    refine op_move rfl (.pointer _) rfl ?_
    refine op_eqlptr rfl un_26_TrG7 rfl ?_
    refine op_nil (at_then ?_)
    refine W_cond0 rfl ?_
    refine W_skip (at_then ?_)
    refine W_rseq ?_
    refine op_assign rfl (.int _ _) rfl ?_
    refine op_nil (at_then ?_)
    refine W_rseq ?_
    refine op_assign rfl (.slice _ _ _) rfl ?_
    refine op_nil (at_then ?_)
    refine W_seq ?_
    refine W_rseq ?_
    refine op_assign rfl (.int _ _) rfl ?_
    refine op_nil (at_then ?_)
    refine W_block ?_
    refine W_loop 696898287454081973172991196019986420203328 (α := Sv) (fun s => [(8, .int .i64 s.root), (9, .slice s.la s.L.length s.lc), (10, .int .i64 (s.i : Int))]) (fun s w' => s.i ≤ l.length ∧ Mid w0 w' bx bt bd bp ba s) (fun s => l.length - s.i) ⟨-1, none, 0, [], 0, newD (10 + 800), List.replicate 800 0, F0⟩ rfl ?_ ?_ ?_
    · exact ⟨rfl, rfl, rfl, trivial⟩
    · exact ⟨Nat.zero_le _, ⟨D, new_tree 800, rfl, rfl, List.length_replicate .., newD_len _, new_few7 _, Nat.le_refl _, hnew, hx⟩, Prs.nil, by show 24 ≤ freeP (List.replicate 800 0); rw [new_free]; omega⟩
    · rintro ⟨root, la, lc, L, i, A, P, F⟩ j w ⟨hi, s, PL, hfree⟩; dsimp only at hi s PL hfree; dsimp only
      have hL := s.li
      refine W_seq ?_
      refine W_rseq ?_
      refine op_move rfl (.int _ _) rfl ?_
      refine op_move rfl (.slice _ _ _) rfl ?_
      refine op_len rfl el_22_TrG7 rfl ?_
      refine op_lss rfl rfl rfl ?_
      refine op_nil (at_then ?_)
      refine W_cond _ rfl ?_ ?_
      · intro h1
        replace h1 := dec_t h1
        obtain ⟨m, hm⟩ := get_some (l := l) (i := i) (by omega)
        have hmm := List.mem_of_getElem? hm
        obtain ⟨hk200, hv500⟩ := hsm m hmm
        have hmi := hin m hmm
        obtain ⟨wa, rfl⟩ : ∃ z, z = w := ⟨_, rfl⟩
        have H := Ctx.start wa []
        refine W_skip (at_then ?_)
        refine W_seq ?_
        refine W_block ?_
        refine W_rseq ?_
        refine op_move rfl (.slice _ _ _) rfl ?_
        refine op_move rfl (.int _ _) rfl ?_
        first | refine op_indexRd R rfl el_22_TrG7 sz_30_TrG7 rfl rfl (by omega) (by omega) (by first | rfl | omega) ?_ | refine op_indexAddr rfl el_22_TrG7 sz_30_TrG7 rfl rfl (by omega) (by omega) ?_
        first | refine op_ldN _ rfl ag_30_TrG7 sz_30_TrG7 rfl rfl ((R.ext0 (s.hx.trans H.ext)).row hm rfl) ?_ | refine op_ldbN rfl ag_30_TrG7 sz_30_TrG7 rfl H (by first | exact at0 | exact at1 | exact at2 | exact at3 | exact at4 | exact at5 | exact at6 | exact at7 | exact at8 | exact at9) rfl ?_
        refine op_alloc rfl zc_30_TrG7 H ?_
        rintro b11 w - H
        refine op_stb0 rfl sz_30_TrG7 rfl rfl rfl (Sm.oneE m) H at0 rfl ?_
        rintro w H
        refine op_nil (at_then ?_)
        refine W_seq ?_
        obtain ⟨wb, rfl⟩ : ∃ z, z = w := ⟨_, rfl⟩
        have hb11 := H.get at0
        have hn11 : ¬ TM F ba bt bp [] b11 := fun h => by
          have h1 := s.D.T.mlt _ h
          have h2 := (H.own _ (List.mem_cons_self ..)).elim (fun h => by cases h) id
          dsimp only at h2; omega
        have s1 := s.call H.ext
        have PL1 := PL.turn (.call0 H.ext)
        have H := Ctx.start wb []
        have hdk1 := s1.D.dk
        refine W_rseq (Wops_join (α := Unit) 287948901175001088 (fun _ => [(57, .bool (false))]) (fun _ w' => ∃ P', Mid w0 w' bx bt bd bp ba ⟨root, la, lc, L, i, A, P', F⟩ ∧ w'.heap[b11]? = some (Bl 30 m.enc)) rfl ?_ ?_)
        · refine op_fieldAddr rfl fo_30_3_TrG7 rfl ?_
          first | refine op_ldb rfl ag_4 rfl H (by first | exact at0 | exact at1 | exact at2 | exact at3 | exact at4 | exact at5 | exact at6 | exact at7 | exact at8 | exact at9) rfl ?_ | refine op_ld rfl ag_4 rfl ((by rw [cell_bl hb11]; rfl)) ?_ | refine op_ld rfl ag_4 rfl ((by rw [cell_bl hdk1]; rfl)) ?_
          refine op_move rfl (.bool _) rfl ?_
          refine Wops_split 50 rfl ?_ ?_
          · intro h5
            refine op_move rfl (.pointer _) rfl ?_
            refine op_nilCheck rfl rfl ?_
            refine op_fieldAddr rfl fo_36_1_TrG7 rfl ?_
            first | refine op_ldb rfl ag_33_TrG7 rfl H (by first | exact at0 | exact at1 | exact at2 | exact at3 | exact at4 | exact at5 | exact at6 | exact at7 | exact at8 | exact at9) rfl ?_ | refine op_ld rfl ag_33_TrG7 rfl ((by rw [cell_bl hb11]; rfl)) ?_ | refine op_ld rfl ag_33_TrG7 rfl ((by rw [cell_bl hdk1]; rfl)) ?_
            refine op_call rfl ca_15_TrG7 (psettle_ok s1.D.T.pg) rfl ?_
            rintro v w2 ⟨rfl, PA2, hx2⟩
            have hms := Mid.settle s1 PL1 (by omega) PA2 hx2
            have hb2 := hms.2.keep hb11 hn11
            refine op_neq rfl rfl rfl ?_
            refine op_pick1 rfl rfl (.bool _) rfl ?_
            refine op_nil ?_
            exact ⟨rfl, (), rfl, ⟨congrArg Value.bool (rfl), trivial⟩, by first | exact ⟨_, hms.1, hb2⟩ | exact ⟨_, Mid.of s1 PL1 hfree, hb11⟩⟩
          · intro h6
            refine op_skip rfl ?_
            refine op_skip rfl ?_
            refine op_skip rfl ?_
            refine op_skip rfl ?_
            refine op_skip rfl ?_
            refine op_skip rfl ?_
            refine op_pick0 rfl rfl (.bool _) rfl ?_
            refine op_nil ?_
            exact ⟨rfl, (), rfl, ⟨congrArg Value.bool (rfl), trivial⟩, by first | exact ⟨_, hms.1, hb2⟩ | exact ⟨_, Mid.of s1 PL1 hfree, hb11⟩⟩
        rintro - j57 w ⟨P2, ⟨s2, PL2, hfree2⟩, hb2⟩
        refine W_cond0 rfl ?_
        refine W_skip (at_then ?_)
        dsimp only at s2 PL2 hfree2
        obtain ⟨w2, rfl⟩ : ∃ z, z = w := ⟨_, rfl⟩
        have H := Ctx.start1 hb2
        refine W_rseq ?_
        refine op_move rfl (.pointer _) rfl ?_
        refine op_move rfl (.int _ _) rfl ?_
        refine op_move rfl (.slice _ _ _) rfl ?_
        first | refine op_ldN _ rfl ag_30_TrG7 sz_30_TrG7 rfl rfl ((R.ext0 (s.hx.trans H.ext)).row hm rfl) ?_ | refine op_ldbN rfl ag_30_TrG7 sz_30_TrG7 rfl H (by first | exact at0 | exact at1 | exact at2 | exact at3 | exact at4 | exact at5 | exact at6 | exact at7 | exact at8 | exact at9) rfl ?_
        refine op_call rfl ca_16_TrG7 (does_ok s2.D s2.T s2.on s2.hl (by rw [s2.num]; omega) s2.left hfree2 s2.few (by omega) PL2 (by omega) m (hmi.ok hk200 hv500 s2.hx s2.new)) rfl ?_
        rintro v w3 h3
        obtain ⟨r3, a3, c3, A3, P3, F3, rfl, s3, PL3, g3, -⟩ := s2.does h3
        have hb3 := g3.keep hb2 hn11
        refine op_move rfl (.tuple _) rfl ?_
        refine op_extract rfl rfl rfl ?_
        refine op_extract rfl rfl rfl ?_
        refine op_extract rfl rfl rfl ?_
        refine op_assign rfl (.int _ _) rfl ?_
        refine op_assign rfl (.slice _ _ _) rfl ?_
        refine op_assign rfl (.bool _) rfl ?_
        refine op_nil (at_then ?_)
        refine W_seq ?_
        refine W_rseq ?_
        refine op_move rfl (.bool _) rfl ?_
        refine op_not rfl rfl ?_
        refine op_nil (at_then ?_)
        refine W_cond0 rfl ?_
        refine W_skip (at_then ?_)
        refine W_rseq ?_
        refine op_move rfl (.int _ _) rfl ?_
        refine op_assign rfl (.int _ _) rfl ?_
        refine op_nil (at_then ?_)
        refine W_rseq ?_
        refine op_move rfl (.slice _ _ _) rfl ?_
        refine op_assign rfl (.slice _ _ _) rfl ?_
        refine op_nil (at_then ?_)
        obtain ⟨L3, hL3⟩ : ∃ L3, L3 = stepL m.s L := ⟨_, rfl⟩
        rw [← hL3] at s3 PL3 ⊢
        have hli3 := s3.li
        have H := Ctx.start w3 []
        refine W_sseqz [([0, 1, 2, 3, 4, 5, 6], 7), ([8, 9, 10, 11, 12, 13], 14)] (fun z => z.heap[bx]? = some (Bl 36 [ptr bd, ptr bp, ptr bt]) ∧ z.heap[b11]? = some (Bl 30 m.enc)) [] mixed (by kernel_rfl) (⟨s3.D.dk, hb3⟩) ?_
        refine seg_cons rfl rfl ?_
        refine t_move rfl (.pointer _) rfl ?_
        refine t_nilCheck rfl rfl ?_
        refine t_fieldAddr rfl fo_36_2_TrG7 rfl ?_
        first | refine t_ldb rfl ag_34_TrG7 rfl (fun _ _ => Ctx.start _ []) (by first | exact at0 | exact at1 | exact at2 | exact at3 | exact at4 | exact at5 | exact at6 | exact at7 | exact at8 | exact at9) rfl ?_ | refine t_ld rfl ag_34_TrG7 rfl (fun _ hx => (by rw [cell_bl hx.1]; rfl)) ?_ | refine t_ld rfl ag_34_TrG7 rfl (fun _ hx => (by rw [cell_bl hx.2]; rfl)) ?_
        refine t_move rfl (.int _ _) rfl ?_
        refine t_fieldAddr rfl fo_30_1_TrG7 rfl ?_
        first | refine t_ldb rfl ag_23 rfl (fun _ _ => Ctx.start _ []) (by first | exact at0 | exact at1 | exact at2 | exact at3 | exact at4 | exact at5 | exact at6 | exact at7 | exact at8 | exact at9) rfl ?_ | refine t_ld rfl ag_23 rfl (fun _ hx => (by rw [cell_bl hx.1]; rfl)) ?_ | refine t_ld rfl ag_23 rfl (fun _ hx => (by rw [cell_bl hx.2]; rfl)) ?_
        refine t_nil ?_
        skip
        refine op_call rfl ca_17_TrG7 ((s3.call (Ext.drew [] w3)).get (by omega) (by omega) (hmi.k.ext0 (s3.call (Ext.drew [] w3)).hx)) rfl ?_
        rintro v w4 ⟨a4, c4, u4, g4, e4, rfl, hx4d, R4, h4⟩
        have hx4 := (Ext.drew [] w3).trans hx4d
        have s4 := s3.call hx4
        have hb4 := (Grown.call0 (F := TM F ba bt bp []) hx4).keep hb3 hn11
        refine op_nil (at_seg (⟨s4.D.dk, hb4⟩) ?_)
        refine seg_cons rfl rfl ?_
        refine t_move rfl (.tuple _) rfl ?_
        refine t_extract rfl rfl rfl ?_
        refine t_extract rfl rfl rfl ?_
        refine t_extract rfl rfl rfl ?_
        refine t_assign rfl (.slice _ _ _) rfl ?_
        refine t_assign rfl (.bool _) rfl ?_
        refine t_nil ?_
        refine op_assign rfl (.int _ _) rfl ?_
        refine op_nil (at_seg (⟨s4.D.dk, hb4⟩) ?_)
        refine seg_nil ?_
        have PL4 := PL3.turn (.call0 hx4)
        have H := Ctx.start w4 []
        refine W_rseq ?_
        refine op_move rfl (.slice _ _ _) rfl ?_
        refine op_fieldAddr rfl fo_30_1_TrG7 rfl ?_
        first | refine op_ldb rfl ag_23 rfl H (by first | exact at0 | exact at1 | exact at2 | exact at3 | exact at4 | exact at5 | exact at6 | exact at7 | exact at8 | exact at9) rfl ?_ | refine op_ld rfl ag_23 rfl ((by rw [cell_bl hb4]; rfl)) ?_
        refine op_call rfl ca_18_TrG7 (rget7_ok (M2 := fun _ => False) PL4 (by omega) (hmi.k.ext0 s4.hx) rfl s4.T.rise) rfl ?_
        rintro v w5 ⟨a5, c5, u5, rfl, hx5, R5, -, hu5⟩
        refine op_move rfl (.tuple _) rfl ?_
        refine op_extract rfl rfl rfl ?_
        refine op_extract rfl rfl rfl ?_
        refine op_assign rfl (.slice _ _ _) rfl ?_
        refine op_assign rfl (.bool _) rfl ?_
        refine op_nil (at_then ?_)
        refine W_seq ?_
        have s5 := s4.call hx5
        have PL5 := PL4.turn (.call0 hx5)
        have hb5 := (Grown.call0 (F := TM F ba bt bp []) hx5).keep hb4 hn11
        have R4' := R4.1.ext0 hx5
        have H := Ctx.start w5 []
        refine W_rseq (Wops_join (α := Unit) 649035869376814168186037142028288 (fun _ => [(108, .bool (false))]) (fun _ w' => w5 = w') rfl ?_ ?_)
        · refine op_fieldAddr rfl fo_30_1_TrG7 rfl ?_
          first | refine op_ldb rfl ag_23 rfl H (by first | exact at0 | exact at1 | exact at2 | exact at3 | exact at4 | exact at5 | exact at6 | exact at7 | exact at8 | exact at9) rfl ?_ | refine op_ld rfl ag_23 rfl ((by rw [cell_bl hb5]; rfl)) ?_
          refine op_call rfl ca_19_TrG7 (mayKey_ok m.ka m.s.key.length m.kc w5) rfl ?_
          rintro v w ⟨rfl, rfl⟩
          rw [← rk_key]
          refine op_move rfl (.bool _) rfl ?_
          refine Wops_split 93 rfl ?_ ?_
          · intro h7
            refine op_move rfl (.int _ _) rfl ?_
            refine op_neq rfl rfl rfl ?_
            refine op_move rfl (.bool _) rfl ?_
            refine Wops_split 96 rfl ?_ ?_
            · intro h8
              replace h8 := ndec_t h8
              refine op_skip rfl ?_
              refine op_skip rfl ?_
              refine op_skip rfl ?_
              refine op_pick1 rfl rfl (.bool _) rfl ?_
              refine op_move rfl (.bool _) rfl ?_
              refine op_skip rfl ?_
              refine op_skip rfl ?_
              refine op_skip rfl ?_
              refine op_skip rfl ?_
              refine op_skip rfl ?_
              refine op_pick1 rfl rfl (.bool _) rfl ?_
              refine op_pick1 rfl rfl (.bool _) rfl ?_
              refine op_nil ?_
              exact ⟨rfl, (), rfl, ⟨congrArg Value.bool (by first | rfl | (have h9 := h4 ‹_›; simp_all)), trivial⟩, rfl⟩
            · intro h9
              replace h9 := ndec_f h9
              refine op_move rfl (.bool _) rfl ?_
              refine op_move rfl (.bool _) rfl ?_
              refine op_neqb un_4_TrG7 rfl rfl rfl ?_
              refine op_pick0 rfl rfl (.bool _) rfl ?_
              refine op_move rfl (.bool _) rfl ?_
              refine Wops_split 101 rfl ?_ ?_
              · intro h10
                refine op_skip rfl ?_
                refine op_skip rfl ?_
                refine op_skip rfl ?_
                refine op_skip rfl ?_
                refine op_skip rfl ?_
                refine op_pick1 rfl rfl (.bool _) rfl ?_
                refine op_pick1 rfl rfl (.bool _) rfl ?_
                refine op_nil ?_
                exact ⟨rfl, (), rfl, ⟨congrArg Value.bool (by first | rfl | (have h9 := h4 ‹_›; simp_all)), trivial⟩, rfl⟩
              · intro h11
                refine op_move rfl (.slice _ _ _) rfl ?_
                refine op_back (l := u4) rfl el_23 un_5 un_9 rfl R4' ?_
                refine op_move rfl (.slice _ _ _) rfl ?_
                refine op_back (l := u5) rfl el_23 un_5 un_9 rfl R5.1 ?_
                refine op_strne (l := u4) (m := u5) rfl rfl rfl ?_
                refine op_pick0 rfl rfl (.bool _) rfl ?_
                refine op_pick1 rfl rfl (.bool _) rfl ?_
                refine op_nil ?_
                exact ⟨rfl, (), rfl, ⟨congrArg Value.bool (by first | rfl | (have h9 := h4 ‹_›; simp_all)), trivial⟩, rfl⟩
          · intro h12
            refine op_skip rfl ?_
            refine op_skip rfl ?_
            refine op_skip rfl ?_
            refine op_skip rfl ?_
            refine op_skip rfl ?_
            refine op_skip rfl ?_
            refine op_skip rfl ?_
            refine op_skip rfl ?_
            refine op_skip rfl ?_
            refine op_skip rfl ?_
            refine op_skip rfl ?_
            refine op_skip rfl ?_
            refine op_skip rfl ?_
            refine op_skip rfl ?_
            refine op_pick0 rfl rfl (.bool _) rfl ?_
            refine op_nil ?_
            exact ⟨rfl, (), rfl, ⟨congrArg Value.bool (by first | rfl | (have h9 := h4 ‹_›; simp_all)), trivial⟩, rfl⟩
        rintro - j108 w rfl
        refine W_cond0 rfl ?_
        refine W_skip (at_then ?_)
        refine W_seq ?_
        obtain ⟨S5, td5, hnd5, hS5⟩ := s5.told (by omega)
        have hlS := td5.len
        have hrm : (i : Int) % 16 = ((i % 16 : Nat) : Int) := by omega
        refine W_rseq (Wops_join (α := Unit) 42534646828009991079468259616929873920 (fun _ => [(124, .bool (false))]) (fun _ w' => Ext [] w5 w') rfl ?_ ?_)
        · refine op_move rfl (.int _ _) rfl ?_
          refine op_rem rfl rfl rfl (by omega) (by omega) ?_
          refine op_eql rfl rfl rfl ?_
          refine op_move rfl (.bool _) rfl ?_
          refine Wops_split 112 rfl ?_ ?_
          · intro h13
            replace h13 := dec_t h13
            refine op_move rfl (.pointer _) rfl ?_
            refine op_move rfl (.int _ _) rfl ?_
            refine op_call rfl ca_20_TrG7 (held_ok s5.D td5 hnd5 hS5 s5.few (by omega) (by omega)) rfl ?_
            rintro v w6 ⟨rfl, hx6⟩
            refine op_not rfl rfl ?_
            refine op_move rfl (.bool _) rfl ?_
            refine op_move rfl (.pointer _) rfl ?_
            refine op_move rfl (.int _ _) rfl ?_
            refine op_move rfl (.slice _ _ _) rfl ?_
            refine op_call rfl ca_21_TrG7 (has_ok (s5.call hx6).D td5 (by omega) (PL5.turn (.call0 hx6)) (by omega) s5.few (by omega) (by omega)) rfl ?_
            rintro v w7 ⟨rfl, hx7⟩
            have hx57 := hx6.trans hx7
            refine op_not rfl rfl ?_
            refine op_pick0 rfl rfl (.bool _) rfl ?_
            refine op_pick1 rfl rfl (.bool _) rfl ?_
            refine op_nil ?_
            exact ⟨rfl, (), rfl, ⟨congrArg Value.bool (by first | rfl | simp), trivial⟩, by first | exact hx57 | exact Ext.refl _ _⟩
          · intro h14
            replace h14 := dec_f h14
            refine op_skip rfl ?_
            refine op_skip rfl ?_
            refine op_skip rfl ?_
            refine op_skip rfl ?_
            refine op_skip rfl ?_
            refine op_skip rfl ?_
            refine op_skip rfl ?_
            refine op_skip rfl ?_
            refine op_skip rfl ?_
            refine op_skip rfl ?_
            refine op_skip rfl ?_
            refine op_pick0 rfl rfl (.bool _) rfl ?_
            refine op_nil ?_
            exact ⟨rfl, (), rfl, ⟨congrArg Value.bool (by first | rfl | simp), trivial⟩, by first | exact hx57 | exact Ext.refl _ _⟩
        rintro - j124 w hx8
        refine W_cond0 rfl ?_
        refine W_skip (at_then ?_)
        obtain ⟨w8, rfl⟩ : ∃ z, z = w := ⟨_, rfl⟩
        have s8 := s5.call hx8
        have PL8 := PL5.turn (.call0 hx8)
        have H := Ctx.start w8 []
        have hdk8 := s8.D.dk
        refine W_rseq (Wops_join (α := Unit) 696855752158216855865058274194332326035456 (fun _ => [(138, .bool (false))]) (fun _ w' => ∃ P', Mid w0 w' bx bt bd bp ba ⟨r3, a3, c3, L3, i + 1, A3, P', F3⟩) rfl ?_ ?_)
        · refine op_move rfl (.pointer _) rfl ?_
          refine op_nilCheck rfl rfl ?_
          refine op_fieldAddr rfl fo_36_1_TrG7 rfl ?_
          first | refine op_ldb rfl ag_33_TrG7 rfl H (by first | exact at0 | exact at1 | exact at2 | exact at3 | exact at4 | exact at5 | exact at6 | exact at7 | exact at8 | exact at9) rfl ?_ | refine op_ld rfl ag_33_TrG7 rfl ((by rw [cell_bl hdk8]; rfl)) ?_
          refine op_call rfl ca_22_TrG7 (pfree_ok s8.D.T.pg) rfl ?_
          rintro v w ⟨rfl, rfl⟩
          refine op_lss rfl rfl rfl ?_
          refine op_move rfl (.bool _) rfl ?_
          refine Wops_split 131 rfl ?_ ?_
          · intro h15
            replace h15 := dec_t h15
            refine op_move rfl (.pointer _) rfl ?_
            refine op_nilCheck rfl rfl ?_
            refine op_fieldAddr rfl fo_36_1_TrG7 rfl ?_
            first | refine op_ldb rfl ag_33_TrG7 rfl H (by first | exact at0 | exact at1 | exact at2 | exact at3 | exact at4 | exact at5 | exact at6 | exact at7 | exact at8 | exact at9) rfl ?_ | refine op_ld rfl ag_33_TrG7 rfl ((by rw [cell_bl hdk8]; rfl)) ?_
            refine op_call rfl ca_15_TrG7 (psettle_ok s8.D.T.pg) rfl ?_
            rintro v w9 ⟨rfl, PA9, hx9⟩
            have hms9 := Mid.settle s8 PL8 (by omega) PA9 hx9
            refine op_neq rfl rfl rfl ?_
            refine op_pick1 rfl rfl (.bool _) rfl ?_
            refine op_nil ?_
            exact ⟨rfl, (), rfl, ⟨congrArg Value.bool (rfl), trivial⟩, by first | exact ⟨_, hms9.1⟩ | exact ⟨_, Mid.of s8 PL8 (by omega)⟩⟩
          · intro h16
            replace h16 := dec_f h16
            refine op_skip rfl ?_
            refine op_skip rfl ?_
            refine op_skip rfl ?_
            refine op_skip rfl ?_
            refine op_skip rfl ?_
            refine op_skip rfl ?_
            refine op_pick0 rfl rfl (.bool _) rfl ?_
            refine op_nil ?_
            exact ⟨rfl, (), rfl, ⟨congrArg Value.bool (rfl), trivial⟩, by first | exact ⟨_, hms9.1⟩ | exact ⟨_, Mid.of s8 PL8 (by omega)⟩⟩
        rintro - j138 w ⟨P9, hM9⟩
        refine W_cond0 rfl ?_
        refine W_skip (at_block (at_then ?_))
        refine W_region ?_
        refine op_move rfl (.int _ _) rfl ?_
        refine op_add_i64 rfl rfl rfl (by omega) (by omega) ?_
        refine op_assign rfl (.int _ _) rfl ?_
        refine op_nil (at_then ?_)
        exact ⟨⟨r3, a3, c3, L3, i + 1, A3, P9, F3⟩, rfl, ⟨rfl, rfl, rfl, trivial⟩, ⟨by dsimp only; omega, hM9⟩, by dsimp only; omega⟩
      · intro h1
        replace h1 := dec_f h1
        refine W_exit (exit_then (exit_then (exit_here (at_then ?_))))
        obtain ⟨wa, rfl⟩ : ∃ z, z = w := ⟨_, rfl⟩
        have H := Ctx.start wa []
        have hdk := s.D.dk
        obtain ⟨S, td, hnd, hS⟩ := s.told (by omega)
        have hlS := td.len
        have hlo := td.rlo; have hhi := td.rhi; have hnum := s.num
        have hsc := td.scan kf kt
        refine W_rseq ?_
        refine op_move rfl (.pointer _) rfl ?_
        refine op_nilCheck rfl rfl ?_
        refine op_fieldAddr rfl fo_36_2_TrG7 rfl ?_
        first | refine op_ldb rfl ag_34_TrG7 rfl H (by first | exact at0 | exact at1 | exact at2 | exact at3 | exact at4 | exact at5 | exact at6 | exact at7 | exact at8 | exact at9) rfl ?_ | refine op_ld rfl ag_34_TrG7 rfl ((by rw [cell_bl hdk8]; rfl)) ?_ | refine op_ld rfl ag_34_TrG7 rfl ((by rw [cell_bl hdk]; rfl)) ?_
        refine op_move rfl (.int _ _) rfl ?_
        refine op_move rfl (.slice _ _ _) rfl ?_
        refine op_move rfl (.slice _ _ _) rfl ?_
        refine op_call rfl ca_23_TrG7 (scan7_ok (by omega) s.D.T root (by omega) (by omega) fa ta fc tc _ _ kf kt (Rf.ext0 s.hx) rfl (Rt.ext0 s.hx) rfl s.few (by omega) (by rw [td.num]; omega)) rfl ?_
        rintro v w2 ⟨a2, c2, rfl, PS2, hx2⟩
        rw [hsc] at PS2
        rw [hsc]
        refine op_move rfl (.tuple _) rfl ?_
        refine op_extract rfl rfl rfl ?_
        refine op_extract rfl rfl rfl ?_
        refine op_assign rfl (.slice _ _ _) rfl ?_
        refine op_assign rfl (.int _ _) rfl ?_
        refine op_nil (at_then ?_)
        dsimp only at PS2
        have s2 := s.call hx2
        have PL2 := PL.turn (.call0 hx2)
        have hfl : (filtP kf kt L).length ≤ L.length := List.length_filter_le ..
        refine W_rseq ?_
        refine op_move rfl (.int _ _) rfl ?_
        refine op_eql rfl rfl rfl ?_
        refine op_move rfl (.bool _) rfl ?_
        refine op_move rfl (.slice _ _ _) rfl ?_
        refine op_move rfl (.slice _ _ _) rfl ?_
        refine op_move rfl (.slice _ _ _) rfl ?_
        refine op_move rfl (.slice _ _ _) rfl ?_
        refine op_call rfl ca_25_TrG7 (rscan7_ok s2.D.T.mlt PL2 (by omega) (Rf.ext0 s2.hx) rfl (Rt.ext0 s2.hx) rfl) rfl ?_
        rintro v w3 ⟨a3, c3, rfl, PS3, hx3⟩
        refine op_call rfl ca_24_TrG7 (same7_ok (PS2.turn (.call0 hx3)) PS3 (by omega) (by omega)) rfl ?_
        rintro v w4 ⟨rfl, hx4⟩
        rw [decide_eq_true (show filtP kf kt L = filtP kf kt L from rfl)]
        have s4 := (s2.call hx3).call hx4
        have PL4 := (PL2.turn (.call0 hx3)).turn (.call0 hx4)
        refine op_pick1 rfl rfl (.bool _) rfl ?_
        refine op_move rfl (.bool _) rfl ?_
        refine op_move rfl (.pointer _) rfl ?_
        refine op_move rfl (.int _ _) rfl ?_
        refine op_call rfl ca_20_TrG7 (held_ok s4.D td hnd hS s4.few (by omega) (by omega)) rfl ?_
        rintro v w6 ⟨rfl, hx6⟩
        refine op_pick1 rfl rfl (.bool _) rfl ?_
        refine op_move rfl (.bool _) rfl ?_
        refine op_move rfl (.pointer _) rfl ?_
        refine op_move rfl (.int _ _) rfl ?_
        refine op_move rfl (.slice _ _ _) rfl ?_
        refine op_call rfl ca_21_TrG7 (has_ok (s4.call hx6).D td (by omega) (PL4.turn (.call0 hx6)) (by omega) s4.few (by omega) (by omega)) rfl ?_
        rintro v w7 ⟨rfl, hx7⟩
        rw [decide_eq_true (show L = L from rfl)]
        refine op_pick1 rfl rfl (.bool _) rfl ?_
        refine op_move rfl (.bool _) rfl ?_
        refine op_move rfl (.slice _ _ _) rfl ?_
        refine op_len rfl el_28_TrG7 rfl ?_
        refine op_eql rfl rfl rfl ?_
        refine op_move rfl (.int _ _) rfl ?_
        refine op_eql rfl rfl rfl ?_
        refine op_eqlb un_4_TrG7 rfl rfl rfl ?_
        rw [show (decide ((L.length : Int) = 0) == decide (root = -1)) = true from (by rw [beq_iff_eq, Bool.eq_iff_iff, decide_eq_true_eq, decide_eq_true_eq, td.none]; cases L <;> simp <;> omega)]
        refine op_pick1 rfl rfl (.bool _) rfl ?_
        refine op_move rfl (.bool _) rfl ?_
        refine op_call rfl ca_13_TrG7 (works7_ok _) rfl ?_
        rintro v w9 ⟨rfl, hx9⟩
        refine op_pick1 rfl rfl (.bool _) rfl ?_
        refine op_assign rfl (.bool _) rfl ?_
        refine op_nil (at_then ?_)
        refine W_ret (leave1 (v := (.bool _)) rfl rfl rfl ?_)
        exact ⟨rfl, ((s4.call hx6).call hx7).hx.trans hx9⟩

end Go.Proofs.YtbkadlngijkmmaaGreatDoor

/- From the form's readings of arguments to ours, and the post of a law that answers true and turns nothing. It holds for every program. -/
namespace Go.GV
open Go Go.ChangeShapes Go.WideShapes Go.RowKit

theorem Ext.below {w w' : World} (h : Ext [] w w') : Below w.heap.size w w' := ⟨h.os, h.tape, h.output, h.size, fun k hk => h.block k hk (by simp)⟩

section
variable {H : Type} {enc : TypeId × Value → H} {P : Program} {w : World} {base : Nat} {spare : Nat → Bool} {held : Bool}

theorem trodAll_length : ∀ {ts : List TypeId} {vs : List Value} {ds : List (DataW H)} {ps : List MemPlace}, DataW.TrodAll enc P w base spare held ts vs ds ps → ds.length = ts.length
  | [], vs, ds, ps, h => by obtain ⟨_, rfl, _⟩ := trodAll_nil h; rfl
  | t :: ts, vs, ds, ps, h => by
    obtain ⟨v, vs', d, ds', p, q, rfl, rfl, rfl, _, hr⟩ := trodAll_cons h
    simp [trodAll_length hr]

theorem trodAll_stays {W W' : World} {sp' : Nat → Bool} (hl : laidOutB P = true) (hsp : ∀ b, b < W.heap.size → sp' b = true) (hb : Below W.heap.size W W') :
    ∀ {ts : List TypeId} {vs : List Value} {ds : List (DataW H)} {ps : List MemPlace}, (∀ t ∈ ts, P.readableRec t = true ∧ t < P.types.size) → (∀ x ∈ ps, x.block < W.heap.size) →
      DataW.TrodAll enc P W 0 (fun _ => true) true ts vs ds ps → DataW.TrodAll enc P W' 0 sp' true ts vs ds ps
  | [], vs, ds, ps, _, _, h => by obtain ⟨rfl, rfl, rfl⟩ := trodAll_nil h; rfl
  | t :: ts, vs, ds, ps, hr, hp, h => by
    obtain ⟨v, vs', d, ds', p, q, rfl, rfl, rfl, h0, h1⟩ := trodAll_cons h
    refine ⟨p, q, WideElems.Trod_stays hl (hr t (by simp)).1 (hr t (by simp)).2 h0 (fun x hx => hb.same (hp x (by simp [hx]))) (fun x hx => hsp _ (hp x (by simp [hx]))), ?_, rfl⟩
    exact trodAll_stays hl hsp hb (fun t ht => hr t (by simp [ht])) (fun x hx => hp x (by simp [hx])) h1

/-- The post of a law. -/
theorem law_post {f : Func} {s : ChangeSpec} {W W' : World} {args : Array Value} {ds gs : List (DataW H)} {before : List MemPlace} {tb : TypeId} (hl : laidOutB P = true) (hv : s.vars = [])
    (hr : (f.params.toList.all fun t => P.readableRec t && decide (t < P.types.size)) = true) (hres : f.resultTypes = #[tb]) (htb : P.underlying tb = some .bool)
    (hs : ∀ ds : List (DataW H), ds.length = f.params.size → s.fn H ds = { results := [.lit (.bool true)], args := ds })
    (hW : DataW.Whole enc P f.params.toList s.vars false W args.toList ds gs before) (hx : Ext [] W W') : s.post enc P f false true false false W args (.bool true) W' := by
  have hW' := hW
  obtain ⟨p, q, hA, hV, rfl, _, _⟩ := hW
  rw [hv] at hV
  obtain ⟨rfl, rfl⟩ := trodVars_none hV
  have hlen : ds.length = f.params.size := by rw [trodAll_length hA]; simp
  refine ⟨ds, [], p ++ [], [], p, [], hW', ?_, ?_, ?_, hx.below.frame _, fun h => by cases h⟩
  · rw [List.append_nil, hs ds hlen, hres]
    exact trodAll_mk1 ⟨1, by simp [DataW.trod, Value.cells, htb]⟩
  · rw [List.append_nil, hs ds hlen]
    refine trodAll_stays hl (fun b hb => by simpa using hb) hx.below (fun t ht => ?_) (fun x hxp => ?_) hA
    · have := List.all_eq_true.1 hr t ht
      simpa using this
    · exact hW'.lt x (by simp [hxp])
  · rw [hv, List.append_nil, hs ds hlen]
    rfl

theorem wf_bounds {k : IntKind} {n : Int} (h : (Lit.int k n).wf = true) : k.min ≤ n ∧ n ≤ k.max := by
  simpa [Lit.wf] using h

/-! ### Decoding -/

/-- What a piece of a struct reads as. -/
theorem trod_fld {fuel : Nat} {t : TypeId} {cs : List Value} {x : DataW H × List MemPlace} {fs : Array Field} (ht : P.underlying t = some (.struct fs)) (h : DataW.trod enc P w base spare held fuel t cs = some x) (i : Nat) (f : Field) (hf : fs[i]? = some f) :
    ∃ n y, DataW.trod enc P w base spare held n f.type ((cs.drop f.offset).take (P.cellsOf f.type)) = some y := by
  obtain ⟨xs, n, _, _, _, hl, hx⟩ := DataW.trod_struct ht h
  have h1 := hx i f hf
  have hi : i < xs.length := by rw [hl]; exact (Array.getElem?_eq_some_iff.1 hf).1
  rw [List.getElem?_eq_getElem hi] at h1
  exact ⟨n, _, h1⟩
theorem trod_slen {fuel : Nat} {t : TypeId} {cs : List Value} {x : DataW H × List MemPlace} {fs : Array Field} (ht : P.underlying t = some (.struct fs)) (h : DataW.trod enc P w base spare held fuel t cs = some x) : cs.length = P.cellsOf t := by
  obtain ⟨xs, n, _, _, hl, _, _⟩ := DataW.trod_struct ht h
  exact hl

theorem take_one {l : List Value} {o m : Nat} {v : Value} (h : (l.drop o).take m = [v]) : l[o]? = some v := by
  have h1 : ((l.drop o).take m)[0]? = some v := by rw [h]; rfl
  rw [List.getElem?_take] at h1
  split at h1
  · rw [List.getElem?_drop] at h1; simpa using h1
  · cases h1

theorem fld_bool {fuel : Nat} {t u : TypeId} {cs : List Value} {x : DataW H × List MemPlace} {fs : Array Field} (ht : P.underlying t = some (.struct fs)) (h : DataW.trod enc P w base spare held fuel t cs = some x) (i o : Nat)
    (hf : (fs[i]?.map fun f => (f.type, f.offset)) = some (u, o)) (hu : P.underlying u = some .bool) : ∃ b, cs[o]? = some (.bool b) := by
  cases he : fs[i]? with
  | none => rw [he] at hf; cases hf
  | some f =>
    rw [he] at hf
    simp only [Option.map_some, Option.some.injEq, Prod.mk.injEq] at hf
    obtain ⟨rfl, rfl⟩ := hf
    obtain ⟨n, y, hy⟩ := trod_fld ht h i f he
    obtain ⟨b, h1, _⟩ := DataW.trod_bool hu hy
    exact ⟨b, take_one h1⟩
theorem cells_at {a : Addr} {n : Nat} {cs : List Value} (h : w.cells? base a n = some cs) : cs.length = n ∧ ∀ j v, cs[j]? = some v → w.cell? (a.add j) = some v := by
  unfold World.cells? at h
  split at h
  · have h1 : ∀ (l : List Nat) (cs : List Value), l.mapM (fun i => w.cell? (a.add i)) = some cs → cs.length = l.length ∧ ∀ (j i : Nat) (v : Value), l[j]? = some i → cs[j]? = some v → w.cell? (a.add i) = some v := by
      intro l
      induction l with
      | nil => intro cs h; simp at h; subst h; exact ⟨rfl, fun j i v h => by simp at h⟩
      | cons k l ih =>
        intro cs h
        rw [List.mapM_cons] at h
        obtain ⟨v, hv, h⟩ := Option.bind_eq_some_iff.1 h
        obtain ⟨cs', hcs, h⟩ := Option.bind_eq_some_iff.1 h
        simp only [Option.pure_def, Option.some.injEq] at h
        subst h
        obtain ⟨h1, h2⟩ := ih cs' hcs
        refine ⟨by simp [h1], fun j i u hi hu => ?_⟩
        cases j with
        | zero => simp at hi hu; subst hi hu; exact hv
        | succ j => exact h2 j i u (by simpa using hi) (by simpa using hu)
    obtain ⟨h2, h3⟩ := h1 _ _ h
    refine ⟨by simpa using h2, fun j v hv => h3 j j v ?_ hv⟩
    have : j < cs.length := (List.getElem?_eq_some_iff.1 hv).1
    rw [List.getElem?_range (by rw [h2] at this; simpa using this)]
  · cases h

theorem cell_none {a : Addr} {v : Value} (h : w.cell? a = some v) : a = ⟨a.block, a.off, none⟩ := by
  unfold World.cell? at h
  split at h
  · split at h
    · cases h
    · rename_i hs
      obtain ⟨b, o, s⟩ := a
      cases s with
      | none => rfl
      | some x => simp at hs
  · cases h

theorem dec_int {e : TypeId} {k : IntKind} (he : P.underlying e = some (.int k)) : ∀ n cs y, DataW.trod enc P w base spare held n e cs = some y → ∃ d : Int, cs = [Value.int k d] ∧ (k.min ≤ d ∧ d ≤ k.max) := by
  intro n cs y h
  obtain ⟨m, h1, _, h2⟩ := DataW.trod_int he h
  exact ⟨m, h1, wf_bounds h2⟩
end
end Go.GV

/- The rows of this seat: the world of the witnesses, in which the laid tables lie. -/
namespace Go.Proofs.YtbkadlngijkmmaaGreatDoor
open Go.GV Go.ChangeShapes Go.WideShapes Go.ChangeAt Go.RowKit

theorem own : ownKnob Tryz.prog.godebug = none := by kernel_rfl
theorem laidOut : laidOutB Tryz.prog = true := by kernel_rfl

def rangeZ : List Nat := [128, 191, 160, 191, 128, 159, 144, 191, 128, 143] ++ List.replicate 22 0
def layO (l : List Nat) : Obj → Obj
  | .cells _ t frozen => .cells (l.map fun (n : Nat) => Value.int .u8 (n : Int)).toArray t frozen
  | o => o
/-- A world in which the tables lie (blocks 1 and 2). -/
noncomputable def laidWorld (os : Os) : World :=
  { World.holding Tryz.prog os ⟨#[], #[], []⟩ with heap := ((World.holding Tryz.prog os ⟨#[], #[], []⟩).heap.modify 1 (layO Go.Pinned.utf8FirstZ)).modify 2 (layO rangeZ) }

theorem dec_byte {H : Type} {enc : TypeId × Value → H} {w : World} {base : Nat} {spare : Nat → Bool} {held : Bool} : ∀ n cs y, DataW.trod enc Tryz.prog w base spare held n 5 cs = some y → ∃ b : UInt8, cs = B8 b ∧ True := by
  intro n cs y h
  obtain ⟨d, rfl, h1, h2⟩ := dec_int Tryz.underlying5 n cs y h
  have h1 : (0 : Int) ≤ d := h1
  have h2 : d ≤ 255 := h2
  refine ⟨UInt8.ofNat d.toNat, ?_, trivial⟩
  have : (UInt8.ofNat d.toNat).toNat = d.toNat := by simp [UInt8.toNat_ofNat']; omega
  rw [B8, bv, this, Int.toNat_of_nonneg h1]
theorem byteCells : Tryz.prog.cellsOf 5 = 1 := by kernel_rfl

end Go.Proofs.YtbkadlngijkmmaaGreatDoor

/- Arguments that are read, with their weights: slices of structs that hold slices. It holds for every program. -/
namespace Go.GV
open Go Go.ChangeShapes Go.WideShapes

section
variable {P : Program} {H : Type} {enc : TypeId × Value → H} {w : World} {base : Nat} {spare : Nat → Bool} {held : Bool}

/-- No part of it is of more bytes than any machine has. -/
def Light (P : Program) (t : TypeId) (d : DataW H) : Prop := ∀ x ∈ d.weights P t, x ≤ reachBytes

theorem weightsAll_mem {e : TypeId} {l : List (DataW H)} {d : DataW H} (h : d ∈ l) : ∀ x ∈ d.weights P e, x ∈ DataW.weightsAll P e l := by
  induction l with
  | nil => cases h
  | cons y l ih =>
    intro x hx
    unfold DataW.weightsAll
    rcases List.mem_cons.1 h with rfl | h
    · exact List.mem_append_left _ hx
    · exact List.mem_append_right _ (ih h x hx)
theorem weightsEach_mem : ∀ {ts : List TypeId} {l : List (DataW H)} {i : Nat} {t : TypeId} {d : DataW H}, ts[i]? = some t → l[i]? = some d → ∀ x ∈ d.weights P t, x ∈ DataW.weightsEach P ts l
  | [], _, i, _, _, h, _ => by simp at h
  | _ :: _, [], i, _, _, _, h => by simp at h
  | t :: ts, d :: l, 0, _, _, h1, h2 => by
    simp only [List.getElem?_cons_zero, Option.some.injEq] at h1 h2
    subst h1 h2
    intro x hx
    unfold DataW.weightsEach
    exact List.mem_append_left _ hx
  | t :: ts, d :: l, i + 1, _, _, h1, h2 => by
    intro x hx
    unfold DataW.weightsEach
    exact List.mem_append_right _ (weightsEach_mem (by simpa using h1) (by simpa using h2) x hx)
theorem Light.elems {t e : TypeId} {es sp : List (DataW H)} (ht : P.underlying t = some (.slice e)) (h : Light P t (.slice es sp)) : es.length * P.bytesOf e ≤ reachBytes ∧ ∀ d ∈ es, Light P e d := by
  unfold Light at h
  unfold DataW.weights at h
  rw [ht] at h
  refine ⟨?_, fun d hd x hx => h x (List.mem_cons_of_mem _ (List.mem_append_left _ (weightsAll_mem hd x hx)))⟩
  have h1 := h _ (List.mem_cons_self ..)
  rw [Nat.add_mul] at h1
  omega
theorem Light.part {t : TypeId} {fs : Array Field} {ps : List (DataW H)} (ht : P.underlying t = some (.struct fs)) (h : Light P t (.agg ps)) {i : Nat} {f : Field} {d : DataW H} (hf : fs[i]? = some f) (hd : ps[i]? = some d) : Light P f.type d := by
  intro x hx
  refine h x ?_
  unfold DataW.weights
  rw [ht]
  exact weightsEach_mem (ts := fs.toList.map (·.type)) (i := i) (by rw [List.getElem?_map, Array.getElem?_toList, hf]; rfl) hd x hx

theorem light_of {ts : List TypeId} {ds : List (DataW H)} (h : ((DataW.weightsEach P ts ds).all fun x => decide (x ≤ reachBytes)) = true) {i : Nat} {t : TypeId} {d : DataW H} (ht : ts[i]? = some t) (hd : ds[i]? = some d) : Light P t d :=
  fun x hx => of_decide_eq_true (List.all_eq_true.1 h x (weightsEach_mem ht hd x hx))
theorem rdw_of {α : Type} {t e : TypeId} {s fuel : Nat} {cs : List Value} {x : DataW H × List MemPlace} {encd : α → List Value} {Good : α → Prop} (ht : P.underlying t = some (.slice e)) (hs : P.cellsOf e = s) (h0 : 0 < s)
    (dec : ∀ n cs y, DataW.trod enc P w base spare held n e cs = some y → Light P e y.1 → ∃ d, cs = encd d ∧ Good d) (h : DataW.trod enc P w base spare held fuel t cs = some x) (hL : Light P t x.1) :
    ∃ (a : Option Addr) (c : Nat) (l : List α), cs = [.slice a l.length c] ∧ Rd w a s encd l ∧ l.length ≤ c ∧ c ≤ maxLen ∧ l.length * P.bytesOf e ≤ reachBytes ∧ (∀ d ∈ l, Good d) := by
  rcases Go.Deep.open_slice ht h with ⟨hc, hx⟩ | ⟨a, len, cap, m, n, D, Pl, hc, _, hl, hm, hmm, rfl, hx⟩
  · exact ⟨none, 0, [], hc, Rd.nil, Nat.le_refl _, Nat.zero_le _, by simp, by simp⟩
  · have hle : len ≤ m := by rw [hmm]; split <;> omega
    obtain ⟨hb, hLe⟩ := hL.elems ht
    rw [List.length_map, List.length_range] at hb
    have hd : ∀ i, i < len → ∃ d : α, (w.cells? base (a.add (i * s)) s = some (encd d)) ∧ Good d := fun i hi => by
      obtain ⟨cs', h1, h2⟩ := hx i (by omega)
      obtain ⟨d, rfl, hg⟩ := dec _ _ _ h2 (hLe _ (List.mem_map.2 ⟨i, List.mem_range.2 hi, rfl⟩))
      exact ⟨d, by rw [← hs]; exact h1, hg⟩
    have hlist : ∀ k, k ≤ len → ∃ l : List α, l.length = k ∧ ∀ i d, l[i]? = some d → w.cells? base (a.add (i * s)) s = some (encd d) ∧ Good d := by
      intro k
      induction k with
      | zero => intro _; exact ⟨[], rfl, fun i d h => by simp at h⟩
      | succ k ih =>
        intro hk
        obtain ⟨l, h1, h2⟩ := ih (by omega)
        obtain ⟨d, hd1, hd2⟩ := hd k (by omega)
        refine ⟨l ++ [d], by simp [h1], fun i d' hi => ?_⟩
        rw [List.getElem?_append] at hi
        split at hi
        · exact h2 i d' hi
        · rename_i hlt
          have : i = k := by
            have := (List.getElem?_eq_some_iff.1 hi).1
            simp at this; omega
          subst this
          rw [h1, Nat.sub_self] at hi
          simp at hi; subst hi
          exact ⟨hd1, hd2⟩
    obtain ⟨l, h1, h2⟩ := hlist len (Nat.le_refl _)
    subst h1
    refine ⟨some a, cap, l, hc, ⟨fun hne => ?_, fun i d hi j u hu hj => ?_⟩, hl, hm, hb, fun d hd => ?_⟩
    · cases l with
      | nil => exact absurd rfl hne
      | cons d l =>
        obtain ⟨h3, _⟩ := h2 0 d rfl
        obtain ⟨h4, h5⟩ := cells_at h3
        obtain ⟨u, hu⟩ := get_some (l := encd d) (i := 0) (by omega)
        have h6 := h5 0 u hu
        rw [Nat.zero_mul] at h6
        have h7 : (a.add 0).add 0 = a := by simp [Addr.add]
        rw [h7] at h6
        exact ⟨a.block, a.off, by rw [← cell_none h6]⟩
    · obtain ⟨h3, _⟩ := h2 i d hi
      have h5 := (cells_at h3).2 j u hu
      rw [Go.Deep.add_add] at h5
      have h6 := cell_none h5
      rw [h6] at h5
      have hblk : ∀ q, (a.add q).block = a.block ∧ (a.add q).off = a.off + q := by
        intro q; unfold Addr.add
        by_cases hq : q = 0 <;> simp [hq]
      rw [(hblk _).1, (hblk _).2, ← Nat.add_assoc] at h5
      obtain ⟨b, o, sp⟩ := a
      exact h5
    · obtain ⟨i, hi⟩ := List.getElem?_of_mem hd
      exact (h2 i d hi).2
theorem rdw_of_T {α : Type} {t e : TypeId} {s : Nat} {v : Value} {d : DataW H} {ps : List MemPlace} {encd : α → List Value} {Good : α → Prop} (ht : P.underlying t = some (.slice e)) (hs : P.cellsOf e = s) (h0 : 0 < s)
    (dec : ∀ n cs y, DataW.trod enc P w base spare held n e cs = some y → Light P e y.1 → ∃ d, cs = encd d ∧ Good d) (hv : ∃ a n c, v = .slice a n c) (h : DataW.Trod enc P w base spare held t v d ps) (hL : Light P t d) :
    ∃ (a : Option Addr) (c : Nat) (l : List α), v = .slice a l.length c ∧ Rd w a s encd l ∧ l.length ≤ c ∧ c ≤ maxLen ∧ l.length * P.bytesOf e ≤ reachBytes ∧ (∀ d ∈ l, Good d) := by
  obtain ⟨fuel, hf⟩ := h
  obtain ⟨a, n, c, rfl⟩ := hv
  obtain ⟨a', c', l, h1, h2⟩ := rdw_of ht hs h0 dec (x := (d, ps)) (by simpa [Value.cells] using hf) hL
  simp only [List.cons.injEq, and_true] at h1
  exact ⟨a', c', l, h1, h2⟩
/-- A field that is a slice. -/
theorem fld_slice {α : Type} {fuel : Nat} {t u e : TypeId} {s : Nat} {cs : List Value} {x : DataW H × List MemPlace} {fs : Array Field} {encd : α → List Value} {Good : α → Prop} (ht : P.underlying t = some (.struct fs)) (h : DataW.trod enc P w base spare held fuel t cs = some x) (hL : Light P t x.1) (i o : Nat)
    (hf : (fs[i]?.map fun f => (f.type, f.offset)) = some (u, o)) (hu : P.underlying u = some (.slice e)) (hc : P.cellsOf u = 1) (hs : P.cellsOf e = s) (h0 : 0 < s)
    (dec : ∀ n cs y, DataW.trod enc P w base spare held n e cs = some y → Light P e y.1 → ∃ d, cs = encd d ∧ Good d) :
    ∃ (a : Option Addr) (c : Nat) (l : List α), cs[o]? = some (.slice a l.length c) ∧ Rd w a s encd l ∧ l.length ≤ c ∧ c ≤ maxLen ∧ l.length * P.bytesOf e ≤ reachBytes ∧ (∀ d ∈ l, Good d) := by
  cases he : fs[i]? with
  | none => rw [he] at hf; cases hf
  | some f =>
    rw [he] at hf
    simp only [Option.map_some, Option.some.injEq, Prod.mk.injEq] at hf
    obtain ⟨rfl, rfl⟩ := hf
    obtain ⟨xs, n, _, hx, _, hl, hxs⟩ := DataW.trod_struct ht h
    have h1 := hxs i f he
    have hi : i < xs.length := by rw [hl]; exact (Array.getElem?_eq_some_iff.1 he).1
    rw [List.getElem?_eq_getElem hi] at h1
    rw [hx] at hL
    have hL' : Light P f.type xs[i].1 := hL.part ht he (by rw [List.getElem?_map, List.getElem?_eq_getElem hi]; rfl)
    obtain ⟨a, c, l, h2, h3⟩ := rdw_of hu hs h0 dec h1 hL'
    rw [hc] at h2
    exact ⟨a, c, l, take_one h2, h3⟩
end
end Go.GV

/- What the form reads of the steps of the laws of trees. -/
namespace Go.Proofs.YtbkadlngijkmmaaGreatDoor
open Go.GV Go.ChangeShapes Go.WideShapes Go.ChangeAt Go.RowKit

theorem step7Struct : ∃ fs, Tryz.prog.underlying 30 = some (.struct fs) ∧ (List.range 4).map (fun i => fs[i]?.map fun f => (f.type, f.offset)) = [some (4, 0), some (23, 1), some (23, 2), some (4, 3)] := ⟨_, Tryz.underlying30, by kernel_rfl⟩
theorem step7Cells : Tryz.prog.cellsOf 30 = 4 := by kernel_rfl
theorem bytesCells : Tryz.prog.cellsOf 23 = 1 := by kernel_rfl
theorem byteBytes : Tryz.prog.bytesOf 5 = 1 := by kernel_rfl

set_option maxRecDepth 100000 in
theorem dec_step7 {H : Type} {enc : TypeId × Value → H} {w : World} {base : Nat} {spare : Nat → Bool} {held : Bool} : ∀ n cs y, DataW.trod enc Tryz.prog w base spare held n 30 cs = some y → Light Tryz.prog 30 y.1 → ∃ d : Sm, cs = d.enc ∧ d.In w := by
  intro n cs y h hL
  obtain ⟨fs, ht, hf⟩ := step7Struct
  have hl := trod_slen ht h
  rw [step7Cells] at hl
  simp only [List.range, List.range.loop, List.map_cons, List.map_nil, List.cons.injEq, and_true] at hf
  obtain ⟨f0, f1, f2, f3⟩ := hf
  obtain ⟨a, ha⟩ := fld_bool ht h 0 0 f0 Tryz.underlying4
  obtain ⟨ca, cc, cl, hc, cR, cle, _, cw, _⟩ := fld_slice ht h hL 1 1 f1 Tryz.underlying23 bytesCells byteCells (by decide) (fun n cs y h _ => dec_byte n cs y h)
  obtain ⟨ga, gc, gl, hg, gR, gle, _, gw, _⟩ := fld_slice ht h hL 2 2 f2 Tryz.underlying23 bytesCells byteCells (by decide) (fun n cs y h _ => dec_byte n cs y h)
  obtain ⟨e, he⟩ := fld_bool ht h 3 3 f3 Tryz.underlying4
  refine ⟨⟨ca, cc, ga, gc, ⟨a, cl, gl, e⟩⟩, ?_, ⟨cR, gR, cle, gle⟩⟩
  match cs, hl with
  | [_, _, _, _], _ =>
    simp at ha hc hg he
    simp [Sm.enc, ha, hc, hg, he]

end Go.Proofs.YtbkadlngijkmmaaGreatDoor

/- TreePlays: for every input the law answers true, and turns nothing. The tables that its row lists are premises, and tied to the text by its card. -/
namespace Go.Proofs.YtbkadlngijkmmaaGreatDoor.treePlays
open Go.GV Go.ChangeShapes Go.WideShapes Go.ChangeAt Go.RowKit

theorem laid_met (os : Os) : laidMet Tryz.prog Rows.treePlaysRow.laid ((laidWorld os).forCall (fun _ _ => 0) ⟨#[], #[.slice none 0 0, .slice none 0 0, .slice none 0 0], []⟩).memory :=
  laidMet_of_run' 8 (by kernel_rfl) (by kernel_rfl)
theorem reads (os : Os) {H : Type} (enc : TypeId × Value → H) : ∃ ds places, DataW.whole enc Tryz.prog ((laidWorld os).forCall (fun _ _ => 0) ⟨#[], #[.slice none 0 0, .slice none 0 0, .slice none 0 0], []⟩).memory Tryz.f3.params.toList Rows.treePlaysSpec.vars false (#[.slice none 0 0, .slice none 0 0, .slice none 0 0] : Array Value).toList 8 = some (ds, [], places) :=
  ⟨[.nil, .nil, .nil], [], by kernel_rfl⟩

set_option maxRecDepth 100000 in
theorem lifted (os : Os) (started : os.Started) (H : Type) (enc : TypeId × Value → H) (F : Stop.Interp) :
    ReturnsInHanded {} Tryz.checked os 3 .any ((OpenSpec.ofChange Rows.treePlaysSpec).preRow enc Tryz.prog Tryz.f3 Rows.treePlaysRow.domain false Rows.treePlaysRow.laid) (((OpenSpec.ofChange Rows.treePlaysSpec).at F).post enc Tryz.prog Tryz.f3 false true false false) := by
  obtain ⟨ds, places, hx⟩ := reads os enc
  refine returnsInHanded_of_row (C := Tryz.checked) (s := OpenSpec.ofChange Rows.treePlaysSpec) own started (by kernel_rfl) Tryz.func3
    (witness_row_at (enc := enc) (C := Tryz.checked) false (laidWorld os) #[.slice none 0 0, .slice none 0 0, .slice none 0 0] rfl (by kernel_rfl) (by kernel_rfl) (by kernel_rfl)
      (OpenSpec.preRow_of_cond 8 hx (by kernel_rfl) (fun k hk => by cases hk) (by kernel_rfl) (laid_met os))) ?_
  intro W base args ds gs before hval0 hW _ _ hLt _ _ _
  have hval : ∀ (j : Nat) t v, Tryz.f3.params[j]? = some t → args[j]? = some v → Value.okWide Tryz.prog W .any base t v := hval0
  have hW' := hW
  obtain ⟨p, q, hA0, hV, rfl, hfz, hnd⟩ := hW
  have hA : DataW.TrodAll enc Tryz.prog W 0 (fun _ => true) true Tryz.f3.params.toList args.toList ds p := hA0
  rw [Tryz.params3] at hA hval
  obtain ⟨v0, vs0, d0, ds0, p0, q0, hargs, rfl, rfl, h0, r0⟩ := trodAll_cons hA
  obtain ⟨v1, vs1, d1, ds1, p1, q1, rfl, rfl, rfl, h1, r1⟩ := trodAll_cons r0
  obtain ⟨v2, vs2, d2, ds2, p2, q2, rfl, rfl, rfl, h2, r2⟩ := trodAll_cons r1
  obtain ⟨rfl, rfl, rfl⟩ := trodAll_nil r2
  obtain rfl : args = #[v0, v1, v2] := by cases args; simp_all
  have hL0 : Light Tryz.prog 22 d0 := light_of hLt (i := 0) rfl rfl
  obtain ⟨a0, c0, l0, rfl, R0, hc0, hm0, hw0, H0⟩ := rdw_of_T Tryz.underlying22 step7Cells (by decide) dec_step7 (okWide_slice Tryz.underlying22 (hval 0 _ v0 rfl rfl)) h0 hL0
  unfold maxLen at hm0
  have hL1 : Light Tryz.prog 23 d1 := light_of hLt (i := 1) rfl rfl
  obtain ⟨a1, c1, l1, rfl, R1, hc1, _, hw1, _⟩ := rdw_of_T Tryz.underlying23 byteCells (by decide) (fun n cs y h _ => dec_byte n cs y h) (okWide_slice Tryz.underlying23 (hval 1 _ v1 rfl rfl)) h1 hL1
  rw [byteBytes] at hw1
  unfold reachBytes at hw1
  have hL2 : Light Tryz.prog 23 d2 := light_of hLt (i := 2) rfl rfl
  obtain ⟨a2, c2, l2, rfl, R2, hc2, _, hw2, _⟩ := rdw_of_T Tryz.underlying23 byteCells (by decide) (fun n cs y h _ => dec_byte n cs y h) (okWide_slice Tryz.underlying23 (hval 2 _ v2 rfl rfl)) h2 hL2
  rw [byteBytes] at hw2
  unfold reachBytes at hw2
  refine (treePlays_ok a0 a1 a2 c0 c1 c2 l0 l1 l2 W R0 H0 R1 R2).calls.mono ?_
  rintro e W' ⟨v, rfl, rfl, hx⟩
  exact ⟨_, rfl, law_post laidOut rfl (by kernel_rfl) rfl Tryz.underlying4 (fun ds h => match ds, h with | [_, _, _], _ => rfl) hW' hx⟩

theorem said : Rows.TreePlaysSaid :=
  OpenClaim.holds_of_cond 3 Tryz.f3 rfl rfl rfl rfl rfl rfl rfl ⟨rfl, rfl, rfl, rfl, rfl⟩ rfl rfl rfl rfl rfl (by kernel_rfl) Tryz.func3 (by kernel_rfl)
    (of_decide_eq_true (by kernel_rfl)) (by unfold Func.isWrapper; first | (rw [if_pos (by decide +kernel)]; kernel_rfl) | (rw [if_neg (by decide +kernel)]; exact ⟨rfl, rfl⟩))
    (fun os started H enc _ F => by rw [OpenClaim.pre_eq_preRow]; exact lifted os started H enc F)

theorem plain (f : FuncId) (fn : Func) (hf : Tryz.pinned.checked.prog.funcNamed "gablet/gabletlaw07.TreePlays" = some f) (hfn : Tryz.pinned.checked.prog.funcs[f]? = some fn) :
    false = Tryz.pinned.checked.prog.looks [] ∧ ∀ (j : Nat) t, fn.params[j]? = some t → Tryz.pinned.checked.prog.wantsStandIn t = false := by
  obtain rfl : f = 3 := Option.some.inj ((show Tryz.prog.funcNamed "gablet/gabletlaw07.TreePlays" = some 3 by kernel_rfl).symm.trans hf) |>.symm
  obtain rfl : fn = Tryz.f3 := (Option.some.inj (Tryz.func3.symm.trans hfn)).symm
  refine ⟨by kernel_rfl, fun j t ht => ?_⟩
  rw [Tryz.params3] at ht
  have hm := Array.mem_of_getElem? ht
  exact List.all_eq_true.1 (show (Tryz.f3.params.toList.all fun t => !Tryz.prog.wantsStandIn t) = true by kernel_rfl) t (by rw [Tryz.params3]; simpa using hm) |> fun h => (Bool.not_eq_true' _).mp h

theorem card : Rows.TreePlaysCardSaid :=
  Claim7.holds_tied_plain_at .later [] _ _ _ _ said (fun _ h => by cases h) (by kernel_rfl) (fun _ h => by cases h) treePlays_row_tie rfl ⟨rfl, rfl⟩ (by kernel_rfl) rfl plain (by kernel_rfl)
end Go.Proofs.YtbkadlngijkmmaaGreatDoor.treePlays
namespace Go.Proofs.YtbkadlngijkmmaaGreatDoor
theorem treePlays_holds : Rows.TreePlaysCardSaid := treePlays.card
#print axioms treePlays_holds
end Go.Proofs.YtbkadlngijkmmaaGreatDoor
