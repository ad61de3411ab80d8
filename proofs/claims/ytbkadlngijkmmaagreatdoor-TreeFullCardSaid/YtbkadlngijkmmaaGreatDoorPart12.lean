/- Part 12 of the proof. -/
import Derived.Test.YtbkadlngijkmmaaGreatDoorPart11
import Derived.Test.YtbkadlngijkmmaaGreatDoorPart5
import Derived.Test.YtbkadlngijkmmaaGreatDoorPart2
import Derived.ProofKit
import Derived.Deep.Slices
import Derived.OpenShut
import Derived.Test.YtbkadlngijkmmaaGreatDoorPart10
import Derived.Test.YtbkadlngijkmmaaGreatDoorPart3
import Derived.Test.YtbkadlngijkmmaaGreatDoorCards
import Derived.Test.YtbkadlngijkmmaaGreatDoorTie
import Derived.WalkKit
import Derived.Deep.DeepHandedRow
/- Plain law of the tree: put and cut of a root that stands; free pages. -/
namespace Go.Proofs.YtbkadlngijkmmaaGreatDoor
open Go.GV

theorem TreeAt.told {fr : Nat} {A : Dev} {P : List Nat} {root : Int} {L : List Pr} (T : TreeAt fr A P root L) (hon : A.on = true) (hl : fr + P.length ≤ A.B.length) (hP : P.length ≤ 2000) : ∃ S, Told fr A P root L S ∧ S.Nodup ∧ (∀ x : Nat, x ∈ S ↔ P[x]? = some 1 ∨ P[x]? = some 2) := by
  obtain ⟨S, hR, hnd, hS⟩ := T.lies
  exact ⟨S, Go.Proofs.YtbkadlngijkmmaaGreatDoor.told hR hon hl hP hnd (fun x hx => ((hS x).1 hx).elim (fun h => (List.getElem?_eq_some_iff.1 h).1) fun h => (List.getElem?_eq_some_iff.1 h).1) T.rise, hnd, hS⟩
theorem topC_few {fr : Nat} {c : Ch} {i : Bool} {M : List It} {m : Nat} (h : Few c.A m) : Few (topC fr c i M).2.1.A (m + 3) := by
  obtain ⟨-, -, q3, -⟩ := putS_bnd (fr := fr) (c := c) (i := i) (M := M) (m := m)
  have q3 := q3 h
  unfold topC
  split
  · exact h.mono (by omega)
  · split
    · exact q3.mono (by omega)
    · split
      · exact q3.mono (by omega)
      · split
        · exact (wrC_few q3).mono (by omega)
        · exact q3.mono (by omega)
theorem turnC_few {fr : Nat} {A : Dev} {P : List Nat} {root : Int} {key : Byt} {G : List It → List It} {m : Nat} (h : Few A m) : Few (turnC fr A P root key G).2.2.A (m + 40) := by
  obtain ⟨ed, hed⟩ : ∃ ed, ed = (if root = -1 then (0, ⟨A, P, [], []⟩, false, G []) else editC fr G key 18 ⟨A, P, [], []⟩ root.toNat 0 : Int × Ch × Bool × List It) := ⟨_, rfl⟩
  have hb : Few ed.2.1.A (m + 36) := by
    rw [hed]
    split
    · exact h.mono (by omega)
    · obtain ⟨x1, x2, x3⟩ := editC_bnd (fr := fr) (G := G) (key := key) (m := m) (n := 18) (c := ⟨A, P, [], []⟩) (p := root.toNat) (d := 0)
      exact x3 h
  have hturn : turnC fr A P root key G = if ed.1 ≠ 0 then (ed.1, root, overC ed.2.1 ed.1) else if (topC fr ed.2.1 ed.2.2.1 ed.2.2.2).1 ≠ 0 then ((topC fr ed.2.1 ed.2.2.1 ed.2.2.2).1, root, overC (topC fr ed.2.1 ed.2.2.1 ed.2.2.2).2.1 (topC fr ed.2.1 ed.2.2.1 ed.2.2.2).1) else (0, (topC fr ed.2.1 ed.2.2.1 ed.2.2.2).2.2, overC (topC fr ed.2.1 ed.2.2.1 ed.2.2.2).2.1 0) := by
    unfold turnC; rw [hed]
  rw [hturn]
  have ht := topC_few (fr := fr) (i := ed.2.2.1) (M := ed.2.2.2) hb
  split
  · exact hb.mono (by omega)
  · split
    · exact ht.mono (by omega)
    · exact ht.mono (by omega)
theorem hm24 {P : List Nat} (hP : P.length ≤ 2000) : ∀ h, h = 0 ∨ 2 ^ (h + 1) ≤ P.length + 1 → 2 * h + 3 ≤ 24 := fun h hh => by
  rcases hh with rfl | hh
  · omega
  · rcases Nat.lt_or_ge h 10 with h3 | h3
    · omega
    · have : 2 ^ 11 ≤ 2 ^ (h + 1) := Nat.pow_le_pow_right (by omega) (by omega)
      omega
/-- What a step of a tree that stands leaves. -/
structure Stepped (fr : Nat) (A : Dev) (P : List Nat) (root' : Int) (L' : List Pr) (A' : Dev) (P' : List Nat) (mx : Nat) : Prop where
  tree : TreeAt fr A' P' root' L'
  aft : After fr A P A' P'
  on : A'.on = true
  few : Few A' mx
theorem After.refl (fr : Nat) (A : Dev) (P : List Nat) : After fr A P A P := ⟨fun _ _ => rfl, rfl, fun h => h, rfl, rfl⟩
theorem turn_good {fr : Nat} {A : Dev} {P : List Nat} {root : Int} {L : List Pr} {key : Byt} {G : List It → List It} {g : List Pr → List Pr} (act : Acts key G g) (hr : ∀ L, Rising L → Rising (g L)) (T : TreeAt fr A P root L) (hon : A.on = true) (hl : fr + P.length ≤ A.B.length) (hP : P.length ≤ 2000) (hleft : A.left = -1) (hfree : 24 ≤ freeP P) {mx : Nat} (hfew : Few A mx) :
    (turnC fr A P root key G).1 = 0 ∧ Stepped fr A P (turnC fr A P root key G).2.1 (g L) (turnC fr A P root key G).2.2.A (turnC fr A P root key G).2.2.P (mx + 40) := by
  obtain ⟨h1, h2⟩ := turn_spec act hr T hon hl hP (hm24 hP)
  rcases h2 with ⟨h3, h4, h5⟩ | ⟨_, _, h3⟩
  · exact ⟨h3, h5, h1, h4, turnC_few hfew⟩
  · rcases h3 with ⟨_, h3⟩ | ⟨_, h3⟩
    · exact absurd hleft h3
    · omega
theorem put_good {fr : Nat} {A : Dev} {P : List Nat} {root : Int} {L : List Pr} {key val : Byt} (T : TreeAt fr A P root L) (hon : A.on = true) (hl : fr + P.length ≤ A.B.length) (hP : P.length ≤ 2000) (hleft : A.left = -1) (hfree : 24 ≤ freeP P) {mx : Nat} (hfew : Few A mx) :
    (rightK key.length val.length = false ∧ putT fr A P root key val = (1, root, A, P)) ∨ (rightK key.length val.length = true ∧ (putT fr A P root key val).1 = 0 ∧ Stepped fr A P (putT fr A P root key val).2.1 (putP L key val) (putT fr A P root key val).2.2.1 (putT fr A P root key val).2.2.2 (mx + 40)) := by
  obtain ⟨S, td, -, -⟩ := T.told hon hl hP
  unfold putT
  rw [if_neg (by rw [td.may]; simp)]
  by_cases hk : rightK key.length val.length = true
  · right
    rw [if_pos hk]
    have hk2 := hk
    unfold rightK at hk2
    simp only [Bool.and_eq_true, decide_eq_true_eq] at hk2
    obtain ⟨h1, h2⟩ := turn_good (acts_put hk2.1 hk2.2.1 hk2.2.2) (fun L h => putP_rising h key val) T hon hl hP hleft hfree hfew
    exact ⟨hk, h1, h2⟩
  · left
    rw [if_neg hk]
    exact ⟨by simpa using hk, rfl⟩
theorem cut_good {fr : Nat} {A : Dev} {P : List Nat} {root : Int} {L : List Pr} {key : Byt} (T : TreeAt fr A P root L) (hon : A.on = true) (hl : fr + P.length ≤ A.B.length) (hP : P.length ≤ 2000) (hleft : A.left = -1) (hfree : 24 ≤ freeP P) {mx : Nat} (hfew : Few A mx) :
    (rightK key.length 0 = false ∧ cutT fr A P root key = (1, root, false, A, P)) ∨ (rightK key.length 0 = true ∧ (cutT fr A P root key).1 = 0 ∧ (cutT fr A P root key).2.2.1 = (getP L key).isSome ∧ ((getP L key).isSome = false → (cutT fr A P root key).2.1 = root) ∧
      Stepped fr A P (cutT fr A P root key).2.1 (cutP L key) (cutT fr A P root key).2.2.2.1 (cutT fr A P root key).2.2.2.2 (mx + 40)) := by
  obtain ⟨S, td, -, -⟩ := T.told hon hl hP
  have hget : getT A fr P.length root key = if rightK key.length 0 = true then (0, getP L key) else (1, none) := by
    unfold getT
    rw [if_neg (by rw [td.may]; simp), td.get]
  unfold cutT
  rw [hget]
  by_cases hk : rightK key.length 0 = true
  · right
    rw [if_pos hk, if_neg (by simp)]
    cases hg : getP L key with
    | none =>
      rw [if_pos (show ((0, (none : Option Byt)) : Int × Option Byt).2.isSome = false from rfl), cutP_none hg]
      exact ⟨hk, rfl, rfl, fun _ => rfl, T, After.refl _ _ _, hon, hfew.mono (by omega)⟩
    | some u =>
      rw [if_neg (by simp)]
      obtain ⟨h1, h2⟩ := turn_good (acts_cut key) (fun L h => cutP_rising h key) T hon hl hP hleft hfree hfew
      exact ⟨hk, h1, by dsimp only; rw [decide_eq_true h1]; rfl, (fun h => by cases h), h2⟩
  · left
    rw [if_neg hk, if_pos (by simp)]
    exact ⟨by simpa using hk, rfl⟩
theorem get_good {fr : Nat} {A : Dev} {P : List Nat} {root : Int} {L : List Pr} {key : Byt} (T : TreeAt fr A P root L) (hon : A.on = true) (hl : fr + P.length ≤ A.B.length) (hP : P.length ≤ 2000) : getT A fr P.length root key = if rightK key.length 0 = true then (0, getP L key) else (1, none) := by
  obtain ⟨S, td, -, -⟩ := T.told hon hl hP
  unfold getT
  rw [if_neg (by rw [td.may]; simp), td.get]

end Go.Proofs.YtbkadlngijkmmaaGreatDoor

/- What a desk has, what it holds: the walks. -/
namespace Go.Proofs.YtbkadlngijkmmaaGreatDoor
open Go.GV
theorem ag_33_TrG2 : aggB Tryz.prog 33 = some false := by kernel_rfl
theorem ag_34_TrG2 : aggB Tryz.prog 34 = some false := by kernel_rfl
theorem ca_23_TrG2 : callable Tryz.prog 23 = true := by kernel_rfl
theorem ca_24_TrG2 : callable Tryz.prog 24 = true := by kernel_rfl
theorem ca_28_TrG2 : callable Tryz.prog 28 = true := by kernel_rfl
theorem ca_39_TrG2 : callable Tryz.prog 39 = true := by kernel_rfl
theorem ca_69_TrG2 : callable Tryz.prog 69 = true := by kernel_rfl
theorem fo_36_1_TrG2 : fieldO Tryz.prog 36 1 = some 1 := by kernel_rfl
theorem fo_36_2_TrG2 : fieldO Tryz.prog 36 2 = some 2 := by kernel_rfl
theorem un_4_TrG2 : Tryz.prog.underlying 4 = some (.bool) := by kernel_rfl
attribute [local irreducible] Wops W Wq Wt

set_option maxRecDepth 20000 in
set_option maxHeartbeats 4000000 in
theorem has_ok {w : World} {bx bt bd bp ba : Nat} {A : Dev} {P : List Nat} {F M : Mut} (D : Dk w bx bt bd bp ba A P F) {root : Int} {L K : List Pr} {S : List Nat} (td : Told 10 A P root L S) (hnl : L.length ≤ 100000) {la : Option Addr} {ln lc : Nat} (PK : Prs w M la ln lc K) (hln : ln ≤ 100000000) {mx : Nat} (hfew : Few A mx) (hmx : mx ≤ 1000000000) (hS : S.length ≤ 100000) :
    Ret Tryz.prog 21 #[ptr bx, .int .i64 root, .slice la ln lc] w fun v w' => v = .bool (decide (L = K)) ∧ Ext [] w w' := by
  obtain ⟨w0, rfl⟩ : ∃ w0, w0 = w := ⟨_, rfl⟩
  have hlo := td.rlo; have hhi := td.rhi; have hpl := D.T.pg.len
  have hsc := td.scan [] []
  rw [filtP_nil] at hsc
  refine ret_of_W (fn := Tryz.f21) Tryz.func21 rfl [.pointer (some ⟨bx, 0, none⟩), .int .i64 root, .slice la ln lc] rfl (by kernel_rfl) ?_
  have H := Ctx.start w0 []
  refine W_rseq ?_
  refine op_assign rfl (.bool _) rfl ?_
  refine op_nil (at_then ?_)
  refine W_rseq ?_
  refine op_move rfl (.pointer _) rfl ?_
  refine op_nilCheck rfl rfl ?_
  refine op_fieldAddr rfl fo_36_2_TrG2 rfl ?_
  first | refine op_ldb rfl ag_34_TrG2 rfl H (by first | exact at0 | exact at1 | exact at2 | exact at3 | exact at4 | exact at5 | exact at6 | exact at7 | exact at8 | exact at9) rfl ?_ | refine op_ld rfl ag_34_TrG2 rfl ((by rw [cell_bl D.dk]; rfl)) ?_
  refine op_move rfl (.int _ _) rfl ?_
  refine op_call rfl ca_23_TrG2 (scan7_ok (by omega) D.T root (by omega) (by omega) none none 0 0 0 0 [] [] Rd.nil rfl Rd.nil rfl hfew hmx (by rw [td.num]; exact hS)) rfl ?_
  rintro v w2 ⟨a, c, rfl, PS, hx⟩
  rw [hsc] at PS
  rw [hsc]
  refine op_move rfl (.tuple _) rfl ?_
  refine op_extract rfl rfl rfl ?_
  refine op_extract rfl rfl rfl ?_
  refine op_assign rfl (.slice _ _ _) rfl ?_
  refine op_assign rfl (.int _ _) rfl ?_
  refine op_nil (at_then ?_)
  refine W_rseq ?_
  refine op_move rfl (.int _ _) rfl ?_
  refine op_eql rfl rfl rfl ?_
  refine op_move rfl (.bool _) rfl ?_
  refine op_move rfl (.slice _ _ _) rfl ?_
  refine op_move rfl (.slice _ _ _) rfl ?_
  refine op_call rfl ca_24_TrG2 (same7_ok PS (PK.turn (.call0 hx)) (by dsimp only; omega) hln) rfl ?_
  rintro v w3 ⟨rfl, hx3⟩
  refine op_pick1 rfl rfl (.bool _) rfl ?_
  refine op_assign rfl (.bool _) rfl ?_
  refine op_nil (at_then ?_)
  refine W_ret (leave1 (v := (.bool _)) rfl rfl rfl ?_)
  exact ⟨rfl, hx.trans hx3⟩

/-! ### What is held -/
def heldB (P : List Nat) (k : Nat) : Bool := decide (P[k]? = some 1) || decide (P[k]? = some 2)
def heldL (P : List Nat) (k : Nat) : List Nat := (List.range k).filter (heldB P)
theorem heldL_succ (P : List Nat) (k : Nat) : heldL P (k + 1) = heldL P k ++ if heldB P k = true then [k] else [] := by
  unfold heldL
  rw [List.range_succ, List.filter_append]
  congr 1
  by_cases h : heldB P k = true
  · rw [if_pos h, List.filter_cons, h]; rfl
  · rw [if_neg h, List.filter_cons, show heldB P k = false by simpa using h]; rfl
theorem heldL_pre (P : List Nat) : ∀ (d k : Nat), ∃ M, heldL P (k + d) = heldL P k ++ M ∧ ∀ x ∈ M, k ≤ x
  | 0, k => ⟨[], by simp, fun x h => by cases h⟩
  | d + 1, k => by
    obtain ⟨M, h1, h2⟩ := heldL_pre P d k
    refine ⟨M ++ if heldB P (k + d) = true then [k + d] else [], ?_, fun x hx => ?_⟩
    · rw [← Nat.add_assoc, heldL_succ, h1, List.append_assoc]
    · rcases List.mem_append.1 hx with hx | hx
      · exact h2 x hx
      · split at hx
        · rw [List.mem_singleton.1 hx]; omega
        · cases hx
/-- The list at the place of what is below k. -/
theorem held_at (P : List Nat) {k n : Nat} (hk : k < n) : (heldL P n)[(heldL P k).length]? = some k ↔ heldB P k = true := by
  obtain ⟨M, h1, h2⟩ := heldL_pre P (n - (k + 1)) (k + 1)
  rw [show k + 1 + (n - (k + 1)) = n by omega, heldL_succ, List.append_assoc] at h1
  rw [h1, List.getElem?_append_right (Nat.le_refl _), Nat.sub_self]
  by_cases hb : heldB P k = true
  · rw [if_pos hb]; exact ⟨fun _ => hb, fun _ => rfl⟩
  · rw [if_neg hb, List.nil_append]
    refine ⟨fun h => ?_, fun h => absurd h hb⟩
    have := h2 k (List.mem_of_getElem? h)
    omega
theorem held_sorted {P S : List Nat} (hnd : S.Nodup) (hS : ∀ x : Nat, x ∈ S ↔ P[x]? = some 1 ∨ P[x]? = some 2) : sortZ (S.map fun x : Nat => (x : Int)) = (heldL P P.length).map fun x : Nat => (x : Int) := by
  have hperm : S.Perm (heldL P P.length) := by
    refine (List.perm_ext_iff_of_nodup hnd (List.nodup_range.filter _)).2 fun x => ?_
    rw [List.mem_filter, List.mem_range, hS]
    unfold heldB
    rw [Bool.or_eq_true, decide_eq_true_eq, decide_eq_true_eq]
    refine ⟨fun h => ⟨h.elim (fun h => (List.getElem?_eq_some_iff.1 h).1) fun h => (List.getElem?_eq_some_iff.1 h).1, h⟩, And.right⟩
  have h1 : (S.map fun x : Nat => (x : Int)).Perm ((heldL P P.length).map fun x : Nat => (x : Int)) := hperm.map _
  have h2 : ((heldL P P.length).map fun x : Nat => (x : Int)).Pairwise fun x y => decide (x ≤ y) = true := by
    refine List.pairwise_map.2 (List.Pairwise.imp (R := fun x y : Nat => x < y) (fun {a b} h => decide_eq_true (by omega)) ?_)
    exact List.Pairwise.sublist List.filter_sublist (List.pairwise_lt_range)
  rw [sortZ, mergeSort_of_perm_i h1]
  exact List.mergeSort_of_pairwise h2

set_option maxRecDepth 20000 in
set_option maxHeartbeats 4000000 in
theorem held_ok {w : World} {bx bt bd bp ba : Nat} {A : Dev} {P : List Nat} {F : Mut} (D : Dk w bx bt bd bp ba A P F) {root : Int} {L : List Pr} {S : List Nat} (td : Told 10 A P root L S) (hnd : S.Nodup) (hS : ∀ x : Nat, x ∈ S ↔ P[x]? = some 1 ∨ P[x]? = some 2) {mx : Nat} (hfew : Few A mx) (hmx : mx ≤ 1000000000) (hSl : S.length ≤ 100000) :
    Ret Tryz.prog 20 #[ptr bx, .int .i64 root] w fun v w' => v = .bool true ∧ Ext [] w w' := by
  obtain ⟨w0, rfl⟩ : ∃ w0, w0 = w := ⟨_, rfl⟩
  have hlo := td.rlo; have hhi := td.rhi; have hpl := D.T.pg.len
  have hwk := td.walk
  obtain ⟨n, hn⟩ : ∃ n, n = P.length := ⟨_, rfl⟩
  rw [held_sorted hnd hS, ← hn] at hwk
  obtain ⟨lz, hlz⟩ : ∃ lz, lz = (heldL P n).map fun x : Nat => (x : Int) := ⟨_, rfl⟩
  have hlzn : lz.length = (heldL P n).length := by rw [hlz, List.length_map]
  rw [← hlz] at hwk
  have hpair : (((0 : Int), lz).2).length = lz.length := rfl
  refine ret_of_W (fn := Tryz.f20) Tryz.func20 rfl [.pointer (some ⟨bx, 0, none⟩), .int .i64 root] rfl (by kernel_rfl) ?_
  have H := Ctx.start w0 []
  refine W_rseq ?_
  refine op_assign rfl (.bool _) rfl ?_
  refine op_nil (at_then ?_)
  refine W_rseq ?_
  refine op_move rfl (.pointer _) rfl ?_
  refine op_nilCheck rfl rfl ?_
  refine op_fieldAddr rfl fo_36_2_TrG2 rfl ?_
  first | refine op_ldb rfl ag_34_TrG2 rfl H (by first | exact at0 | exact at1 | exact at2 | exact at3 | exact at4 | exact at5 | exact at6 | exact at7 | exact at8 | exact at9) rfl ?_ | refine op_ld rfl ag_34_TrG2 rfl ((by rw [cell_bl D.dk]; rfl)) ?_
  refine op_move rfl (.int _ _) rfl ?_
  refine op_call rfl ca_28_TrG2 (walk7_ok (by omega) D.T root (by omega) (by omega) hfew hmx (by rw [td.num]; exact hSl)) rfl ?_
  rintro v w2 ⟨a, c, rfl, RW, -, -, hx⟩
  rw [← hn, hwk] at RW
  rw [← hn, hwk]
  replace RW : Rd w2 a 1 (fun x : Int => [.int .i64 x]) lz := RW
  refine op_move rfl (.tuple _) rfl ?_
  refine op_extract rfl rfl rfl ?_
  refine op_extract rfl rfl rfl ?_
  refine op_assign rfl (.slice _ _ _) rfl ?_
  refine op_assign rfl (.int _ _) rfl ?_
  refine op_nil (at_then ?_)
  refine W_seq ?_
  refine W_rseq ?_
  refine op_move rfl (.int _ _) rfl ?_
  refine op_neq rfl rfl rfl ?_
  refine op_nil (at_then ?_)
  refine W_cond0 rfl ?_
  refine W_skip (at_then ?_)
  refine W_rseq ?_
  refine op_assign rfl (.int _ _) rfl ?_
  refine op_nil (at_then ?_)
  refine W_seq ?_
  refine W_rseq ?_
  refine op_assign rfl (.int _ _) rfl ?_
  refine op_nil (at_then ?_)
  refine W_block ?_
  have hdk : w2.heap[bx]? = some (Bl 36 [ptr bd, ptr bp, ptr bt]) := by rw [hx.block bx (heap_lt D.dk) (by simp)]; exact D.dk
  have hP2 := (D.T.call hx).pg
  refine W_loop 1152921504602654608 (α := Nat) (fun k => [(8, .int .i64 (k : Int)), (7, .int .i64 ((heldL P k).length : Int))]) (fun k w' => k ≤ n ∧ w2 = w') (fun k => n - k) 0 rfl ?_ ?_ ?_
  · exact ⟨rfl, rfl, trivial⟩
  · exact ⟨Nat.zero_le _, rfl⟩
  · rintro k j w ⟨hk, rfl⟩
    obtain ⟨w2', rfl⟩ : ∃ z, z = w2 := ⟨_, rfl⟩
    have H := Ctx.start w2' []
    refine W_seq ?_
    refine W_rseq ?_
    refine op_move rfl (.int _ _) rfl ?_
    refine op_move rfl (.pointer _) rfl ?_
    refine op_nilCheck rfl rfl ?_
    refine op_fieldAddr rfl fo_36_1_TrG2 rfl ?_
    first | refine op_ldb rfl ag_33_TrG2 rfl H (by first | exact at0 | exact at1 | exact at2 | exact at3 | exact at4 | exact at5 | exact at6 | exact at7 | exact at8 | exact at9) rfl ?_ | refine op_ld rfl ag_33_TrG2 rfl ((by rw [cell_bl hdk]; rfl)) ?_
    refine op_call rfl ca_69_TrG2 (psize_ok hP2) rfl ?_
    rintro v w5 ⟨rfl, rfl⟩
    rw [← hn]
    refine op_lss rfl rfl rfl ?_
    refine op_nil (at_then ?_)
    refine W_cond _ rfl ?_ ?_
    · intro hB
      replace hB := dec_t hB
      have hkn : k < n := by omega
      obtain ⟨s, hs⟩ := get_some (l := P) (i := k) (by omega)
      have hs3 := D.T.pg.ok s (List.mem_of_getElem? hs)
      have hsu := heldL_succ P k
      have hat := held_at P hkn
      have hcl : (heldL P k).length ≤ n := by
        have := List.length_filter_le (heldB P) (List.range k)
        rw [List.length_range] at this
        exact Nat.le_trans this (by omega)
      have hatz : ∀ h : (heldL P k).length < lz.length, decide (lz[(heldL P k).length] = (k : Int)) = heldB P k := fun h => by
        have h1 : (heldL P n)[(heldL P k).length]? = some ((heldL P n)[(heldL P k).length]'(by omega)) := List.getElem?_eq_getElem _
        have h2 : lz[(heldL P k).length] = (((heldL P n)[(heldL P k).length]'(by omega) : Nat) : Int) := by simp only [hlz, List.getElem_map]
        rw [h2, Bool.eq_iff_iff, decide_eq_true_eq, ← hat, h1]
        simp only [Option.some.injEq]
        omega
      have hatn : ¬ (heldL P k).length < lz.length → heldB P k = false := fun h => by
        cases hb : heldB P k with
        | false => rfl
        | true =>
          have h1 := (List.getElem?_eq_some_iff.1 (hat.2 hb)).1
          omega
      have hs2 : decide ((s : Int) = 2) = decide (s = 2) := by rw [Bool.eq_iff_iff]; simp; omega
      have hsb : heldB P k = (decide (s = 1) || decide (s = 2)) := by unfold heldB; rw [hs]; simp
      refine W_skip (at_then ?_)
      refine W_seq ?_
      refine W_block ?_
      refine W_rseq ?_
      refine op_move rfl (.pointer _) rfl ?_
      refine op_nilCheck rfl rfl ?_
      refine op_fieldAddr rfl fo_36_1_TrG2 rfl ?_
      first | refine op_ldb rfl ag_33_TrG2 rfl H (by first | exact at0 | exact at1 | exact at2 | exact at3 | exact at4 | exact at5 | exact at6 | exact at7 | exact at8 | exact at9) rfl ?_ | refine op_ld rfl ag_33_TrG2 rfl ((by rw [cell_bl hdk]; rfl)) ?_ | refine op_ld rfl ag_33_TrG2 rfl ((RW.fld (List.getElem?_eq_getElem (show (heldL P k).length < lz.length by omega)) rfl (j := 0) rfl)) ?_
      refine op_move rfl (.int _ _) rfl ?_
      refine op_call rfl ca_39_TrG2 (pstate_ok hP2 k hs) rfl ?_
      rintro v w5 ⟨rfl, rfl⟩
      refine op_assign rfl (.int _ _) rfl ?_
      refine op_nil (at_then ?_)
      refine W_rseq (Wops_join (α := Unit) 562812514468864 (fun _ => [(10, .bool (heldB P k))]) (fun _ w' => w2' = w') rfl ?_ ?_)
      · refine op_move rfl (.int _ _) rfl ?_
        refine op_move rfl (.slice _ _ _) rfl ?_
        refine op_len rfl el_57 rfl ?_
        refine op_lss rfl rfl rfl ?_
        refine op_move rfl (.bool _) rfl ?_
        refine Wops_split 41 rfl ?_ ?_
        · intro h1
          replace h1 := dec_t h1
          refine op_move rfl (.slice _ _ _) rfl ?_
          refine op_move rfl (.int _ _) rfl ?_
          first | refine op_indexRd RW rfl el_57 sz_3 rfl rfl (by omega) (by omega) (by first | rfl | omega) ?_ | refine op_indexAddr rfl el_57 sz_3 rfl rfl (by omega) (by omega) ?_
          first | refine op_ldb rfl ag_3 rfl H (by first | exact at0 | exact at1 | exact at2 | exact at3 | exact at4 | exact at5 | exact at6 | exact at7 | exact at8 | exact at9) rfl ?_ | refine op_ld rfl ag_3 rfl ((by rw [cell_bl hdk]; rfl)) ?_ | refine op_ld rfl ag_3 rfl ((RW.fld (List.getElem?_eq_getElem (show (heldL P k).length < lz.length by omega)) rfl (j := 0) rfl)) ?_
          refine op_move rfl (.int _ _) rfl ?_
          refine op_eql rfl rfl rfl ?_
          refine op_pick1 rfl rfl (.bool _) rfl ?_
          refine op_assign rfl (.bool _) rfl ?_
          refine op_nil ?_
          exact ⟨rfl, (), rfl, ⟨congrArg Value.bool (by first | exact hatz (by omega) | exact (hatn (by omega)).symm), trivial⟩, rfl⟩
        · intro h2
          replace h2 := dec_f h2
          refine op_skip rfl ?_
          refine op_skip rfl ?_
          refine op_skip rfl ?_
          refine op_skip rfl ?_
          refine op_skip rfl ?_
          refine op_skip rfl ?_
          refine op_pick0 rfl rfl (.bool _) rfl ?_
          refine op_assign rfl (.bool _) rfl ?_
          refine op_nil ?_
          exact ⟨rfl, (), rfl, ⟨congrArg Value.bool (by first | exact hatz (by omega) | exact (hatn (by omega)).symm), trivial⟩, rfl⟩
      rintro - j10 w rfl
      refine W_seq ?_
      refine W_rseq ?_
      refine op_move rfl (.bool _) rfl ?_
      refine op_nil (at_then ?_)
      refine W_joinK 3377699720528000 (α := Unit) (fun _ => [(7, .int .i64 ((heldL P (k + 1)).length : Int))]) (fun _ w' => w2' = w') rfl ?_ ?_
      · skip
        refine W_cond _ rfl ?_ ?_
        · intro hC
          rw [if_pos hC] at hsu
          refine W_region ?_
          refine op_move rfl (.int _ _) rfl ?_
          refine op_add_i64 rfl rfl rfl (by omega) (by omega) ?_
          refine op_assign rfl (.int _ _) rfl ?_
          refine op_nil (at_then ?_)
          exact ⟨(), rfl, ⟨congrArg (Value.int .i64) (by rw [hsu, List.length_append]; rfl), trivial⟩, rfl⟩
        · intro hC
          rw [if_neg (by rw [hC]; simp), List.append_nil] at hsu
          refine W_skip (at_then ?_)
          exact ⟨(), rfl, ⟨congrArg (Value.int .i64) (by rw [hsu]), trivial⟩, rfl⟩
      · rintro - j7 w5 rfl
        refine W_rseq (Wops_join (α := Unit) 1148417904979476480 (fun _ => [(59, .bool (false))]) (fun _ w' => w2' = w') rfl ?_ ?_)
        · refine op_move rfl (.bool _) rfl ?_
          refine op_move rfl (.int _ _) rfl ?_
          refine op_eql rfl rfl rfl ?_
          refine op_move rfl (.bool _) rfl ?_
          refine Wops_split 55 rfl ?_ ?_
          · intro h3
            replace h3 := dec_t h3
            refine op_skip rfl ?_
            refine op_skip rfl ?_
            refine op_pick1 rfl rfl (.bool _) rfl ?_
            refine op_neqb un_4_TrG2 rfl rfl rfl ?_
            refine op_nil ?_
            exact ⟨rfl, (), rfl, ⟨congrArg Value.bool (by rw [hsb]; (first | rw [decide_eq_true (show s = 1 by omega)] | rw [decide_eq_false (show ¬ s = 1 by omega)]); (try rw [hs2]); cases decide (s = 2) <;> rfl), trivial⟩, rfl⟩
          · intro h4
            replace h4 := dec_f h4
            refine op_move rfl (.int _ _) rfl ?_
            refine op_eql rfl rfl rfl ?_
            refine op_pick0 rfl rfl (.bool _) rfl ?_
            refine op_neqb un_4_TrG2 rfl rfl rfl ?_
            refine op_nil ?_
            exact ⟨rfl, (), rfl, ⟨congrArg Value.bool (by rw [hsb]; (first | rw [decide_eq_true (show s = 1 by omega)] | rw [decide_eq_false (show ¬ s = 1 by omega)]); (try rw [hs2]); cases decide (s = 2) <;> rfl), trivial⟩, rfl⟩
        rintro - j59 w rfl
        refine W_cond0 rfl ?_
        refine W_skip (at_block (at_then ?_))
        refine W_region ?_
        refine op_move rfl (.int _ _) rfl ?_
        refine op_add_i64 rfl rfl rfl (by omega) (by omega) ?_
        refine op_assign rfl (.int _ _) rfl ?_
        refine op_nil (at_then ?_)
        exact ⟨k + 1, rfl, ⟨rfl, rfl, trivial⟩, ⟨by omega, rfl⟩, by omega⟩
    · intro hB
      replace hB := dec_f hB
      have hkk : k = n := by omega
      refine W_exit (exit_then (exit_then (exit_here (at_then ?_))))
      refine W_rseq ?_
      refine op_move rfl (.int _ _) rfl ?_
      refine op_move rfl (.slice _ _ _) rfl ?_
      refine op_len rfl el_57 rfl ?_
      refine op_eql rfl rfl rfl ?_
      refine op_assign rfl (.bool _) rfl ?_
      refine op_nil (at_then ?_)
      refine W_ret (leave1 (v := (.bool _)) rfl rfl rfl ?_)
      exact ⟨congrArg Value.bool (decide_eq_true (by rw [hlzn, hkk])), hx⟩

end Go.Proofs.YtbkadlngijkmmaaGreatDoor

/- A desk does a step: the walk. -/
namespace Go.Proofs.YtbkadlngijkmmaaGreatDoor
open Go.GV
theorem ag_34_TrG3 : aggB Tryz.prog 34 = some false := by kernel_rfl
theorem ca_18_TrG3 : callable Tryz.prog 18 = true := by kernel_rfl
theorem ca_19_TrG3 : callable Tryz.prog 19 = true := by kernel_rfl
theorem ca_26_TrG3 : callable Tryz.prog 26 = true := by kernel_rfl
theorem ca_27_TrG3 : callable Tryz.prog 27 = true := by kernel_rfl
theorem ca_37_TrG3 : callable Tryz.prog 37 = true := by kernel_rfl
theorem ca_40_TrG3 : callable Tryz.prog 40 = true := by kernel_rfl
theorem ca_41_TrG3 : callable Tryz.prog 41 = true := by kernel_rfl
theorem fo_30_0_TrG3 : fieldO Tryz.prog 30 0 = some 0 := by kernel_rfl
theorem fo_30_1_TrG3 : fieldO Tryz.prog 30 1 = some 1 := by kernel_rfl
theorem fo_30_2_TrG3 : fieldO Tryz.prog 30 2 = some 2 := by kernel_rfl
theorem fo_36_2_TrG3 : fieldO Tryz.prog 36 2 = some 2 := by kernel_rfl
theorem un_4_TrG3 : Tryz.prog.underlying 4 = some (.bool) := by kernel_rfl
attribute [local irreducible] Wops W Wq Wt

section
variable {ops rest : List Oper} {Q : Exit → Env → World → Prop} {e : Env} {w : World} {dst : Option Tmp} {ty : TypeId} {pos : String} {af : Array Edge} {g : Option (Nat × Bool)} {r : Option Nat}
theorem op_new8 (hg : wants ⟨dst, .buildSlice 23 0 #[], ty, pos, af, g⟩ ops e = true)
    (h : ∀ b w', Ext [] w w' → w.heap.size ≤ b → w'.heap[b]? = some (Bl 5 []) → Wops Tryz.prog r ops Q rest (put e dst (.slice (some ⟨b, 0, none⟩) 0 0)) w') : Wops Tryz.prog r ops Q (⟨dst, .buildSlice 23 0 #[], ty, pos, af, g⟩ :: rest) e w :=
  op_build0 hg el_23 sz_5 (Ctx.start w []) fun b w' H _ => h b w' H.ext ((H.own (b, Bl 5 []) (List.mem_append_right _ (List.mem_singleton.2 rfl))).elim (fun h => by cases h) id) (H.blk (b, Bl 5 []) (List.mem_append_right _ (List.mem_singleton.2 rfl)))
theorem op_app8 {x y : Operand} {b c2 : Nat} {a2 : Option Addr} {l : Byt} (hg : wants ⟨dst, .call ⟨.builtin .append, #[x, y], #[23, 23]⟩, ty, pos, af, g⟩ ops e = true) (hx : ev e x = .slice (some ⟨b, 0, none⟩) 0 0) (hy : ev e y = .slice a2 l.length c2)
    (hb : w.heap[b]? = some (Bl 5 [])) (R : Rd w a2 1 B8 l) (hl : l.length ≤ 1000000)
    (h : ∀ a' c' w', Ext [b] w w' → Rd w' a' 1 B8 l → l.length ≤ c' → (l = [] ∨ (adr a').block = b ∨ w.heap.size ≤ (adr a').block) → Wops Tryz.prog r ops Q rest (put e dst (.slice a' l.length c')) w') :
    Wops Tryz.prog r ops Q (⟨dst, .call ⟨.builtin .append, #[x, y], #[23, 23]⟩, ty, pos, af, g⟩ :: rest) e w := by
  refine op_append (L := []) (a := some ⟨b, 0, none⟩) (n := 0) (c := 0) (full := []) (l := []) hg el_23 el_23 sz_5 by_5 zc_5 rfl (by decide) (l.map bv) hx hy (Ctx.start1 hb) ⟨(fun p hp => by injection hp with hp; subst hp; rfl), (fun hp => by cases hp), by simp, Nat.le_refl _, by simp⟩ (by simp) (bv_one l) (Rd.appB R) (by omega) fun a' c' full' w' H' O' => ?_
  rw [Nat.zero_add] at O' ⊢
  refine h a' c' w' H'.ext (OS.rdB (by simpa using O') fun y hy => H'.blk y hy) O'.le ?_
  cases ha : a' with
  | none =>
    left
    have h8 := O'.none' ha; have h9 := O'.le
    exact List.eq_nil_of_length_eq_zero (by omega)
  | some q =>
    have h8 := H'.own (q.block, Bl 5 full') (by rw [ha]; exact List.mem_singleton.2 rfl)
    obtain ⟨qb, qo, qs⟩ := q
    exact .inr (h8.imp (fun h => List.mem_singleton.1 h) id)
end

theorem app_fresh {w2 w : World} {l : Byt} {b : Nat} {a : Option Addr} (h : l = [] ∨ (adr a).block = b ∨ w.heap.size ≤ (adr a).block) (hb : w2.heap.size ≤ b) (hs : w2.heap.size ≤ w.heap.size) : l = [] ∨ w2.heap.size ≤ (adr a).block := by
  rcases h with h | h | h
  · exact .inl h
  · exact .inr (by omega)
  · exact .inr (by omega)
theorem app_keep {w w' : World} {l : Byt} {b : Nat} {a : Option Addr} (R : Rd w a 1 B8 l) (h : l = [] ∨ (adr a).block ≠ b) (hx : Ext [b] w w') : Rd w' a 1 B8 l := by
  rcases h with rfl | h
  · exact Rd.nil
  · exact R.ext hx (by simpa using h)
theorem app_ne {w : World} {l : Byt} {b2 : Nat} {a : Option Addr} (R : Rd w a 1 B8 l) (h : w.heap.size ≤ b2) : l = [] ∨ (adr a).block ≠ b2 := by
  rcases rd_ltN R (by decide) (fun _ _ => rfl) with h1 | h1
  · exact .inl h1
  · exact .inr (by omega)

structure St7 where
  cut : Bool
  key : Byt
  val : Byt
  settle : Bool
/-- A step in memory. -/
structure Sm where
  ka : Option Addr
  kc : Nat
  va : Option Addr
  vc : Nat
  s : St7
def Sm.enc (m : Sm) : List Value := [.bool m.s.cut, .slice m.ka m.s.key.length m.kc, .slice m.va m.s.val.length m.vc, .bool m.s.settle]
theorem Sm.oneE (m : Sm) : ∀ v ∈ m.enc, oneCell v = true := fun v hv => by
  simp only [Sm.enc, List.mem_cons, List.not_mem_nil, or_false] at hv
  rcases hv with rfl | rfl | rfl | rfl <;> rfl
structure Sm.Ok (w : World) (M : Mut) (m : Sm) : Prop where
  k : Rdx w M m.ka m.s.key
  v : Rdx w M m.va m.s.val
  kc : m.s.key.length ≤ m.kc
  vc : m.s.val.length ≤ m.vc
  kl : m.s.key.length ≤ 200
  vl : m.s.val.length ≤ 500
def stepL (s : St7) (L : List Pr) : List Pr :=
  if s.cut = true then (if rightK s.key.length 0 = true then cutP L s.key else L) else if rightK s.key.length s.val.length = true then putP L s.key s.val else L
/-- What a step of a desk leaves. -/
structure Does (w0 : World) (bx bt bd bp ba : Nat) (A : Dev) (P : List Nat) (F : Mut) (L' : List Pr) (mx : Nat) (v : Value) (w' : World) : Prop where
  ex : ∃ (root' : Int) (a' : Option Addr) (c' : Nat) (A' : Dev) (P' : List Nat) (F' : Mut), v = .tuple #[.int .i64 root', .slice a' L'.length c', .bool true] ∧ Dk w' bx bt bd bp ba A' P' F' ∧ Grown (TM F ba bt bp []) (TM F' ba bt bp []) w0 w' ∧ Stepped 10 A P root' L' A' P' (mx + 40) ∧ Prs w' (TM F' ba bt bp []) a' L'.length c' L'
theorem Dk.step {w w' : World} {bx bt bd bp ba : Nat} {A A' : Dev} {P P' : List Nat} {F F' : Mut} (D : Dk w bx bt bd bp ba A P F) (T : Tx w' bt bd bp ba 10 A' P' F' []) (t : Grown (TM F ba bt bp []) (TM F' ba bt bp []) w w') : Dk w' bx bt bd bp ba A' P' F' :=
  ⟨t.keep D.dk D.nx, T, fun h => (t.2 bx h).elim D.nx fun h => by have := heap_lt D.dk; omega⟩
theorem Dk.call {w w' : World} {bx bt bd bp ba : Nat} {A : Dev} {P : List Nat} {F : Mut} (D : Dk w bx bt bd bp ba A P F) (hx : Ext [] w w') : Dk w' bx bt bd bp ba A P F := D.step (D.T.call hx) (.call0 hx)

theorem rk_key (k : Nat) : rightK k 0 = (decide (1 ≤ k) && decide (k ≤ 32)) := by unfold rightK; simp
theorem rk_f {k v : Nat} (hk : rightK k v = false) (h : (decide (1 ≤ k) && decide (k ≤ 32)) = true) : (!decide (v ≤ 128)) = true := by
  unfold rightK at hk
  rw [← Bool.and_assoc, h, Bool.true_and] at hk
  rw [hk]; rfl
theorem rk_t {k v : Nat} (hk : rightK k v = true) : (decide (1 ≤ k) && decide (k ≤ 32)) = true ∧ (!decide (v ≤ 128)) = false := by
  unfold rightK at hk
  rw [← Bool.and_assoc, Bool.and_eq_true] at hk
  rw [hk.2]; exact ⟨hk.1, rfl⟩

set_option maxRecDepth 20000 in
set_option maxHeartbeats 8000000 in
theorem does_ok {w : World} {bx bt bd bp ba : Nat} {A : Dev} {P : List Nat} {F : Mut} (D : Dk w bx bt bd bp ba A P F) {root : Int} {L : List Pr} (T : TreeAt 10 A P root L) (hon : A.on = true) (hl : 10 + P.length ≤ A.B.length) (hP : P.length ≤ 2000) (hleft : A.left = -1) (hfree : 24 ≤ freeP P) {mx : Nat} (hfew : Few A mx) (hmx : mx ≤ 700000000)
    {la : Option Addr} {lc : Nat} (PL : Prs w (TM F ba bt bp []) la L.length lc L) (hL : L.length ≤ 1000000) (m : Sm) (hm : m.Ok w (TM F ba bt bp [])) :
    Ret Tryz.prog 16 #[ptr bx, .int .i64 root, .slice la L.length lc, .agg m.enc.toArray] w fun v w' => Does w bx bt bd bp ba A P F (stepL m.s L) mx v w' := by
  obtain ⟨w0, rfl⟩ : ∃ w0, w0 = w := ⟨_, rfl⟩
  have hmlt := D.T.mlt
  obtain ⟨S, td, -, -⟩ := T.told hon hl hP
  have hlo := td.rlo; have hhi := td.rhi
  have H := Ctx.start w0 []
  refine ret_of_W (fn := Tryz.f16) Tryz.func16 rfl [.pointer (some ⟨bx, 0, none⟩), .int .i64 root, .slice la L.length lc, .agg m.enc.toArray] rfl (by kernel_rfl) ?_
  refine W_rseq ?_
  refine op_box rfl m.enc (.agg _) rfl rfl H ?_
  rintro b7 w - H
  refine op_assign rfl (.int _ _) rfl ?_
  refine op_assign rfl (.slice _ _ _) rfl ?_
  refine op_assign rfl (.bool _) rfl ?_
  refine op_nil (at_then ?_)
  refine W_seq ?_
  refine W_rseq ?_
  refine op_fieldAddr rfl fo_30_0_TrG3 rfl ?_
  refine op_ldb rfl ag_4 rfl H (by first | exact at0 | exact at1 | exact at2 | exact at3 | exact at4 | exact at5 | exact at6 | exact at7 | exact at8 | exact at9) rfl ?_
  refine op_nil (at_then ?_)
  refine W_cond _ rfl ?_ ?_
  · intro hA
    obtain ⟨w1, rfl⟩ : ∃ z, z = w := ⟨_, rfl⟩
    have hx1 := H.ext
    have D1 := D.call hx1
    have hb7 := H.get at0
    have hn7 : ¬ TM F ba bt bp [] b7 := fun h => by
      have h1 := hmlt _ h
      have h2 := (H.own _ (List.mem_cons_self ..)).elim (fun h => by cases h) id
      dsimp only at h2; omega
    have hdr := Grown.call0 (F := TM F ba bt bp []) (Ext.drew [] w1)
    have hkd : Rdx w1.drew (TM F ba bt bp []) m.ka m.s.key := (hm.k.call hx1).turn hdr
    obtain ⟨ct, hct⟩ : ∃ ct, ct = cutT 10 A P root m.s.key := ⟨_, rfl⟩
    have hgood := cut_good (key := m.s.key) T hon hl hP hleft hfree hfew
    rw [← hct] at hgood
    have hok99 : (cutT 10 A P root m.s.key).1 ≠ 99 := by
      rw [← hct]
      rcases hgood with ⟨_, h⟩ | ⟨_, h, _⟩
      · rw [h]; simp
      · rw [h]; decide
    refine W_sseqz [([0, 1, 2, 3, 4, 5, 6], 7), ([8, 9, 10, 11, 12, 13], 14)] (fun z => z.heap[bx]? = some (Bl 36 [ptr bd, ptr bp, ptr bt]) ∧ z.heap[b7]? = some (Bl 30 m.enc)) [] mixed (by kernel_rfl) (⟨D1.dk, hb7⟩) ?_
    refine seg_cons rfl rfl ?_
    refine t_move rfl (.pointer _) rfl ?_
    refine t_nilCheck rfl rfl ?_
    refine t_fieldAddr rfl fo_36_2_TrG3 rfl ?_
    first | refine t_ldb rfl ag_34_TrG3 rfl (fun _ _ => Ctx.start _ []) (by first | exact at0 | exact at1 | exact at2 | exact at3 | exact at4 | exact at5 | exact at6 | exact at7 | exact at8 | exact at9) rfl ?_ | refine t_ld rfl ag_34_TrG3 rfl (fun _ hx => (by rw [cell_bl hx.1]; rfl)) ?_ | refine t_ld rfl ag_34_TrG3 rfl (fun _ hx => (by rw [cell_bl hx.2]; rfl)) ?_
    refine t_move rfl (.int _ _) rfl ?_
    refine t_fieldAddr rfl fo_30_1_TrG3 rfl ?_
    first | refine t_ldb rfl ag_23 rfl (fun _ _ => Ctx.start _ []) (by first | exact at0 | exact at1 | exact at2 | exact at3 | exact at4 | exact at5 | exact at6 | exact at7 | exact at8 | exact at9) rfl ?_ | refine t_ld rfl ag_23 rfl (fun _ hx => (by rw [cell_bl hx.1]; rfl)) ?_ | refine t_ld rfl ag_23 rfl (fun _ hx => (by rw [cell_bl hx.2]; rfl)) ?_
    refine t_nil ?_
    skip
    refine op_call rfl ca_27_TrG3 (cut8_ok (by omega) (D1.call (Ext.drew [] w1)).T root (by omega) (by omega) m.ka m.kc _ m.s.key hkd rfl (by have := hm.kl; omega) hfew (by omega) hok99) rfl ?_
    rintro v w2 ⟨F2, rfl, T2, g2⟩
    rw [← hct] at T2
    rw [← hct]
    have g12 := hdr.trans g2
    have D2 := D1.step T2 g12
    have hb72 := g12.keep hb7 hn7
    refine op_nil (at_seg (⟨D2.dk, hb72⟩) ?_)
    refine seg_cons rfl rfl ?_
    refine t_move rfl (.tuple _) rfl ?_
    refine t_extract rfl rfl rfl ?_
    refine t_extract rfl rfl rfl ?_
    refine t_extract rfl rfl rfl ?_
    refine t_assign rfl (.int _ _) rfl ?_
    refine t_assign rfl (.bool _) rfl ?_
    refine t_nil ?_
    refine op_assign rfl (.int _ _) rfl ?_
    refine op_nil (at_seg (⟨D2.dk, hb72⟩) ?_)
    refine seg_nil ?_
    have g02 := (Grown.call0 (F := TM F ba bt bp []) hx1).trans g12
    have PL2 := PL.turn g02
    have hm2k := hm.k.turn g02
    have H := Ctx.start w2 []
    refine W_rseq ?_
    refine op_move rfl (.slice _ _ _) rfl ?_
    refine op_fieldAddr rfl fo_30_1_TrG3 rfl ?_
    first | refine op_ldb rfl ag_23 rfl H (by first | exact at0 | exact at1 | exact at2 | exact at3 | exact at4 | exact at5 | exact at6 | exact at7 | exact at8 | exact at9) rfl ?_ | refine op_ld rfl ag_23 rfl ((by rw [cell_bl hb72]; rfl)) ?_
    refine op_call rfl ca_18_TrG3 (rget7_ok (M2 := fun _ => False) PL2 (by omega) hm2k.1 rfl T.rise) rfl ?_
    rintro v w3 ⟨va, vc, u, rfl, hx3, -, -, -⟩
    refine op_move rfl (.tuple _) rfl ?_
    refine op_extract rfl rfl rfl ?_
    refine op_extract rfl rfl rfl ?_
    refine op_assign rfl (.slice _ _ _) rfl ?_
    refine op_assign rfl (.bool _) rfl ?_
    refine op_nil (at_then ?_)
    refine W_seq ?_
    have hb73 : w3.heap[b7]? = some (Bl 30 m.enc) := by rw [hx3.block b7 (heap_lt hb72) (by simp)]; exact hb72
    have D3 := D2.call hx3
    have g03 := g02.trans (.call0 hx3)
    have PL3 := PL.turn g03
    have H := Ctx.start w3 []
    rcases hgood with ⟨hk, hc⟩ | ⟨hk, h1, h2, h3, h4⟩
    · skip
      have hst : stepL m.s L = L := by unfold stepL; rw [if_pos hA, if_neg (by rw [hk]; simp)]
      rw [hst]
      rw [hc] at T2 D3
      rw [hc]
      refine W_rseq ?_
      refine op_fieldAddr rfl fo_30_1_TrG3 rfl ?_
      first | refine op_ldb rfl ag_23 rfl H (by first | exact at0 | exact at1 | exact at2 | exact at3 | exact at4 | exact at5 | exact at6 | exact at7 | exact at8 | exact at9) rfl ?_ | refine op_ld rfl ag_23 rfl ((by rw [cell_bl hb73]; rfl)) ?_
      refine op_call rfl ca_19_TrG3 (mayKey_ok m.ka m.s.key.length m.kc w3) rfl ?_
      rintro v w5 ⟨rfl, rfl⟩
      rw [← rk_key, hk]
      refine op_not rfl rfl ?_
      refine op_nil (at_then ?_)
      refine W_cond1 rfl ?_
      refine W_rseq ?_
      refine op_move rfl (.int _ _) rfl ?_
      refine op_move rfl (.slice _ _ _) rfl ?_
      refine op_move rfl (.int _ _) rfl ?_
      refine op_eql rfl rfl rfl ?_
      refine op_move rfl (.bool _) rfl ?_
      refine op_move rfl (.bool _) rfl ?_
      refine op_not rfl rfl ?_
      refine op_pick1 rfl rfl (.bool _) rfl ?_
      refine op_assign rfl (.int _ _) rfl ?_
      refine op_assign rfl (.slice _ _ _) rfl ?_
      refine op_assign rfl (.bool _) rfl ?_
      refine op_nil (at_then ?_)
      refine W_ret (ret_then (ret_then (leave3 (v1 := (.int _ _)) (v2 := (.slice _ _ _)) (v3 := (.bool _)) rfl rfl rfl rfl rfl ?_)))
      exact ⟨root, la, lc, A, P, F2, rfl, D3, g03, ⟨T, After.refl _ _ _, hon, hfew.mono (by omega)⟩, PL3⟩
    · skip
      have hst : stepL m.s L = cutP L m.s.key := by unfold stepL; rw [if_pos hA, if_pos hk]
      rw [hst, h1, h2]
      refine W_rseq ?_
      refine op_fieldAddr rfl fo_30_1_TrG3 rfl ?_
      first | refine op_ldb rfl ag_23 rfl H (by first | exact at0 | exact at1 | exact at2 | exact at3 | exact at4 | exact at5 | exact at6 | exact at7 | exact at8 | exact at9) rfl ?_ | refine op_ld rfl ag_23 rfl ((by rw [cell_bl hb73]; rfl)) ?_
      refine op_call rfl ca_19_TrG3 (mayKey_ok m.ka m.s.key.length m.kc w3) rfl ?_
      rintro v w5 ⟨rfl, rfl⟩
      rw [← rk_key, hk]
      refine op_not rfl rfl ?_
      refine op_nil (at_then ?_)
      refine W_cond0 rfl ?_
      refine W_skip (at_then ?_)
      refine W_seq ?_
      cases hg : (getP L m.s.key).isSome
      · rw [h3 hg]
        refine W_rseq ?_
        refine op_move rfl (.int _ _) rfl ?_
        refine op_neq rfl rfl rfl ?_
        refine op_move rfl (.bool _) rfl ?_
        refine op_move rfl (.bool _) rfl ?_
        refine op_move rfl (.bool _) rfl ?_
        refine op_neqb un_4_TrG3 rfl rfl rfl ?_
        refine op_pick0 rfl rfl (.bool _) rfl ?_
        refine op_move rfl (.bool _) rfl ?_
        refine op_move rfl (.bool _) rfl ?_
        refine op_not rfl rfl ?_
        refine op_move rfl (.bool _) rfl ?_
        refine op_move rfl (.int _ _) rfl ?_
        refine op_move rfl (.int _ _) rfl ?_
        refine op_neq rfl rfl rfl ?_
        rw [show (!decide (root = root)) = false from by simp]
        refine op_pick1 rfl rfl (.bool _) rfl ?_
        refine op_pick0 rfl rfl (.bool _) rfl ?_
        refine op_nil (at_then ?_)
        refine W_cond0 rfl ?_
        refine W_skip (at_then ?_)
        refine W_rseq ?_
        refine op_move rfl (.int _ _) rfl ?_
        refine op_move rfl (.slice _ _ _) rfl ?_
        refine op_fieldAddr rfl fo_30_1_TrG3 rfl ?_
        first | refine op_ldb rfl ag_23 rfl H (by first | exact at0 | exact at1 | exact at2 | exact at3 | exact at4 | exact at5 | exact at6 | exact at7 | exact at8 | exact at9) rfl ?_ | refine op_ld rfl ag_23 rfl ((by rw [cell_bl hb73]; rfl)) ?_
        refine op_call rfl ca_40_TrG3 (rcut7_ok D3.T.mlt PL3 (by omega) (hm.k.turn g03).1 rfl) rfl ?_
        rintro v w6 ⟨a6, c6, rfl, P6, hx6⟩
        refine op_assign rfl (.int _ _) rfl ?_
        refine op_assign rfl (.slice _ _ _) rfl ?_
        refine op_assign rfl (.bool _) rfl ?_
        refine op_nil (at_then ?_)
        refine W_ret (ret_then (leave3 (v1 := (.int _ _)) (v2 := (.slice _ _ _)) (v3 := (.bool _)) rfl rfl rfl rfl rfl ?_))
        rw [h3 hg] at h4
        exact ⟨root, a6, c6, ct.2.2.2.1, ct.2.2.2.2, F2, rfl, D3.call hx6, g03.trans (.call0 hx6), h4, P6⟩
      · skip
        refine W_rseq ?_
        refine op_move rfl (.int _ _) rfl ?_
        refine op_neq rfl rfl rfl ?_
        refine op_move rfl (.bool _) rfl ?_
        refine op_move rfl (.bool _) rfl ?_
        refine op_move rfl (.bool _) rfl ?_
        refine op_neqb un_4_TrG3 rfl rfl rfl ?_
        refine op_pick0 rfl rfl (.bool _) rfl ?_
        refine op_move rfl (.bool _) rfl ?_
        refine op_move rfl (.bool _) rfl ?_
        refine op_not rfl rfl ?_
        refine op_move rfl (.bool _) rfl ?_
        refine op_skip rfl ?_
        refine op_skip rfl ?_
        refine op_skip rfl ?_
        refine op_pick0 rfl rfl (.bool _) rfl ?_
        refine op_pick0 rfl rfl (.bool _) rfl ?_
        refine op_nil (at_then ?_)
        refine W_cond0 rfl ?_
        refine W_skip (at_then ?_)
        refine W_rseq ?_
        refine op_move rfl (.int _ _) rfl ?_
        refine op_move rfl (.slice _ _ _) rfl ?_
        refine op_fieldAddr rfl fo_30_1_TrG3 rfl ?_
        first | refine op_ldb rfl ag_23 rfl H (by first | exact at0 | exact at1 | exact at2 | exact at3 | exact at4 | exact at5 | exact at6 | exact at7 | exact at8 | exact at9) rfl ?_ | refine op_ld rfl ag_23 rfl ((by rw [cell_bl hb73]; rfl)) ?_
        refine op_call rfl ca_40_TrG3 (rcut7_ok D3.T.mlt PL3 (by omega) (hm.k.turn g03).1 rfl) rfl ?_
        rintro v w6 ⟨a6, c6, rfl, P6, hx6⟩
        refine op_assign rfl (.int _ _) rfl ?_
        refine op_assign rfl (.slice _ _ _) rfl ?_
        refine op_assign rfl (.bool _) rfl ?_
        refine op_nil (at_then ?_)
        refine W_ret (ret_then (leave3 (v1 := (.int _ _)) (v2 := (.slice _ _ _)) (v3 := (.bool _)) rfl rfl rfl rfl rfl ?_))
        exact ⟨ct.2.1, a6, c6, ct.2.2.2.1, ct.2.2.2.2, F2, rfl, D3.call hx6, g03.trans (.call0 hx6), h4, P6⟩
  · intro hA
    obtain ⟨w1, rfl⟩ : ∃ z, z = w := ⟨_, rfl⟩
    have hx1 := H.ext
    have D1 := D.call hx1
    have hb7 := H.get at0
    have hn7 : ¬ TM F ba bt bp [] b7 := fun h => by
      have h1 := hmlt _ h
      have h2 := (H.own _ (List.mem_cons_self ..)).elim (fun h => by cases h) id
      dsimp only at h2; omega
    have hdr := Grown.call0 (F := TM F ba bt bp []) (Ext.drew [] w1)
    have hkd : Rdx w1.drew (TM F ba bt bp []) m.ka m.s.key := (hm.k.call hx1).turn hdr
    have hvd : Rdx w1.drew (TM F ba bt bp []) m.va m.s.val := (hm.v.call hx1).turn hdr
    obtain ⟨ct, hct⟩ : ∃ ct, ct = putT 10 A P root m.s.key m.s.val := ⟨_, rfl⟩
    have hgood := put_good (key := m.s.key) (val := m.s.val) T hon hl hP hleft hfree hfew
    rw [← hct] at hgood
    have hok99 : (putT 10 A P root m.s.key m.s.val).1 ≠ 99 := by
      rw [← hct]
      rcases hgood with ⟨_, h⟩ | ⟨_, h, _⟩
      · rw [h]; simp
      · rw [h]; decide
    refine W_skip (at_then ?_)
    refine W_sseqz [([0, 1, 2, 3, 4, 5, 6, 7, 8], 9), ([10, 11, 12, 13], 14)] (fun z => z.heap[bx]? = some (Bl 36 [ptr bd, ptr bp, ptr bt]) ∧ z.heap[b7]? = some (Bl 30 m.enc)) [] mixed (by kernel_rfl) (⟨D1.dk, hb7⟩) ?_
    refine seg_cons rfl rfl ?_
    refine t_move rfl (.pointer _) rfl ?_
    refine t_nilCheck rfl rfl ?_
    refine t_fieldAddr rfl fo_36_2_TrG3 rfl ?_
    first | refine t_ldb rfl ag_34_TrG3 rfl (fun _ _ => Ctx.start _ []) (by first | exact at0 | exact at1 | exact at2 | exact at3 | exact at4 | exact at5 | exact at6 | exact at7 | exact at8 | exact at9) rfl ?_ | refine t_ld rfl ag_34_TrG3 rfl (fun _ hx => (by rw [cell_bl hx.1]; rfl)) ?_ | refine t_ld rfl ag_34_TrG3 rfl (fun _ hx => (by rw [cell_bl hx.2]; rfl)) ?_
    refine t_move rfl (.int _ _) rfl ?_
    refine t_fieldAddr rfl fo_30_1_TrG3 rfl ?_
    first | refine t_ldb rfl ag_23 rfl (fun _ _ => Ctx.start _ []) (by first | exact at0 | exact at1 | exact at2 | exact at3 | exact at4 | exact at5 | exact at6 | exact at7 | exact at8 | exact at9) rfl ?_ | refine t_ld rfl ag_23 rfl (fun _ hx => (by rw [cell_bl hx.1]; rfl)) ?_ | refine t_ld rfl ag_23 rfl (fun _ hx => (by rw [cell_bl hx.2]; rfl)) ?_
    refine t_fieldAddr rfl fo_30_2_TrG3 rfl ?_
    first | refine t_ldb rfl ag_23 rfl (fun _ _ => Ctx.start _ []) (by first | exact at0 | exact at1 | exact at2 | exact at3 | exact at4 | exact at5 | exact at6 | exact at7 | exact at8 | exact at9) rfl ?_ | refine t_ld rfl ag_23 rfl (fun _ hx => (by rw [cell_bl hx.1]; rfl)) ?_ | refine t_ld rfl ag_23 rfl (fun _ hx => (by rw [cell_bl hx.2]; rfl)) ?_
    refine t_nil ?_
    skip
    refine op_call rfl ca_26_TrG3 (put8_ok (by omega) (D1.call (Ext.drew [] w1)).T root (by omega) (by omega) m.ka m.va m.kc m.vc _ _ m.s.key m.s.val hkd hvd rfl rfl hm.kc hm.vc (by have := hm.kl; omega) hfew (by omega) hok99) rfl ?_
    rintro v w2 ⟨F2, rfl, T2, g2⟩
    rw [← hct] at T2
    rw [← hct]
    have g12 := hdr.trans g2
    have D2 := D1.step T2 g12
    have hb72 := g12.keep hb7 hn7
    refine op_nil (at_seg (⟨D2.dk, hb72⟩) ?_)
    refine seg_cons rfl rfl ?_
    refine t_move rfl (.tuple _) rfl ?_
    refine t_extract rfl rfl rfl ?_
    refine t_extract rfl rfl rfl ?_
    refine t_assign rfl (.int _ _) rfl ?_
    refine t_nil ?_
    refine op_assign rfl (.int _ _) rfl ?_
    refine op_nil (at_seg (⟨D2.dk, hb72⟩) ?_)
    refine seg_nil ?_
    refine W_seq ?_
    have g02 := (Grown.call0 (F := TM F ba bt bp []) hx1).trans g12
    have PL2 := PL.turn g02
    have H := Ctx.start w2 []
    rcases hgood with ⟨hk, hc⟩ | ⟨hk, h1, h4⟩
    · skip
      have hst : stepL m.s L = L := by unfold stepL; rw [if_neg (by rw [hA]; simp), if_neg (by rw [hk]; simp)]
      rw [hst]
      rw [hc] at T2 D2
      rw [hc]
      refine W_rseq (Wops_join (α := Unit) 158301582523618002652725510144 (fun _ => [(96, .bool (true))]) (fun _ w' => w2 = w') rfl ?_ ?_)
      · refine op_fieldAddr rfl fo_30_1_TrG3 rfl ?_
        first | refine op_ldb rfl ag_23 rfl H (by first | exact at0 | exact at1 | exact at2 | exact at3 | exact at4 | exact at5 | exact at6 | exact at7 | exact at8 | exact at9) rfl ?_ | refine op_ld rfl ag_23 rfl ((by rw [cell_bl hb72]; rfl)) ?_
        refine op_call rfl ca_19_TrG3 (mayKey_ok m.ka m.s.key.length m.kc w2) rfl ?_
        rintro v w5 ⟨rfl, rfl⟩
        refine op_not rfl rfl ?_
        refine op_move rfl (.bool _) rfl ?_
        refine Wops_split 91 rfl ?_ ?_
        · intro h1
          replace h1 := nvar_t h1
          refine op_skip rfl ?_
          refine op_skip rfl ?_
          refine op_skip rfl ?_
          refine op_skip rfl ?_
          refine op_pick1 rfl rfl (.bool _) rfl ?_
          refine op_nil ?_
          exact ⟨rfl, (), rfl, ⟨congrArg Value.bool (by first | rfl | exact rk_f hk h2), trivial⟩, rfl⟩
        · intro h2
          replace h2 := nvar_f h2
          refine op_fieldAddr rfl fo_30_2_TrG3 rfl ?_
          first | refine op_ldb rfl ag_23 rfl H (by first | exact at0 | exact at1 | exact at2 | exact at3 | exact at4 | exact at5 | exact at6 | exact at7 | exact at8 | exact at9) rfl ?_ | refine op_ld rfl ag_23 rfl ((by rw [cell_bl hb72]; rfl)) ?_
          refine op_call rfl ca_37_TrG3 (mayVal_ok m.va m.s.val.length m.vc w2) rfl ?_
          rintro v w5 ⟨rfl, rfl⟩
          refine op_not rfl rfl ?_
          refine op_pick0 rfl rfl (.bool _) rfl ?_
          refine op_nil ?_
          exact ⟨rfl, (), rfl, ⟨congrArg Value.bool (by first | rfl | exact rk_f hk h2), trivial⟩, rfl⟩
      rintro - j96 w rfl
      refine W_cond1 rfl ?_
      refine W_rseq ?_
      refine op_move rfl (.int _ _) rfl ?_
      refine op_move rfl (.slice _ _ _) rfl ?_
      refine op_move rfl (.int _ _) rfl ?_
      refine op_eql rfl rfl rfl ?_
      refine op_assign rfl (.int _ _) rfl ?_
      refine op_assign rfl (.slice _ _ _) rfl ?_
      refine op_assign rfl (.bool _) rfl ?_
      refine op_nil (at_then ?_)
      refine W_ret (ret_then (leave3 (v1 := (.int _ _)) (v2 := (.slice _ _ _)) (v3 := (.bool _)) rfl rfl rfl rfl rfl ?_))
      exact ⟨root, la, lc, A, P, F2, rfl, D2, g02, ⟨T, After.refl _ _ _, hon, hfew.mono (by omega)⟩, PL2⟩
    · skip
      have hst : stepL m.s L = putP L m.s.key m.s.val := by unfold stepL; rw [if_neg (by rw [hA]; simp), if_pos hk]
      rw [hst, h1]
      refine W_rseq (Wops_join (α := Unit) 158301582523618002652725510144 (fun _ => [(96, .bool (false))]) (fun _ w' => w2 = w') rfl ?_ ?_)
      · refine op_fieldAddr rfl fo_30_1_TrG3 rfl ?_
        first | refine op_ldb rfl ag_23 rfl H (by first | exact at0 | exact at1 | exact at2 | exact at3 | exact at4 | exact at5 | exact at6 | exact at7 | exact at8 | exact at9) rfl ?_ | refine op_ld rfl ag_23 rfl ((by rw [cell_bl hb72]; rfl)) ?_
        refine op_call rfl ca_19_TrG3 (mayKey_ok m.ka m.s.key.length m.kc w2) rfl ?_
        rintro v w5 ⟨rfl, rfl⟩
        refine op_not rfl rfl ?_
        refine op_move rfl (.bool _) rfl ?_
        refine Wops_split 91 rfl ?_ ?_
        · intro h3
          replace h3 := nvar_t h3
          refine op_skip rfl ?_
          refine op_skip rfl ?_
          refine op_skip rfl ?_
          refine op_skip rfl ?_
          refine op_pick1 rfl rfl (.bool _) rfl ?_
          refine op_nil ?_
          exact ⟨rfl, (), rfl, ⟨congrArg Value.bool (by first | exact (rk_t hk).2 | exact absurd ((rk_t hk).1.symm.trans h3) (by decide)), trivial⟩, rfl⟩
        · intro h4
          replace h4 := nvar_f h4
          refine op_fieldAddr rfl fo_30_2_TrG3 rfl ?_
          first | refine op_ldb rfl ag_23 rfl H (by first | exact at0 | exact at1 | exact at2 | exact at3 | exact at4 | exact at5 | exact at6 | exact at7 | exact at8 | exact at9) rfl ?_ | refine op_ld rfl ag_23 rfl ((by rw [cell_bl hb72]; rfl)) ?_
          refine op_call rfl ca_37_TrG3 (mayVal_ok m.va m.s.val.length m.vc w2) rfl ?_
          rintro v w5 ⟨rfl, rfl⟩
          refine op_not rfl rfl ?_
          refine op_pick0 rfl rfl (.bool _) rfl ?_
          refine op_nil ?_
          exact ⟨rfl, (), rfl, ⟨congrArg Value.bool (by first | exact (rk_t hk).2 | exact absurd ((rk_t hk).1.symm.trans h3) (by decide)), trivial⟩, rfl⟩
      rintro - j96 w rfl
      refine W_cond0 rfl ?_
      refine W_skip (at_then ?_)
      refine W_seq ?_
      refine W_rseq ?_
      refine op_move rfl (.int _ _) rfl ?_
      refine op_neq rfl rfl rfl ?_
      refine op_nil (at_then ?_)
      refine W_cond0 rfl ?_
      refine W_skip (at_then ?_)
      have hm2k := hm.k.turn g02
      have hm2v := hm.v.turn g02
      have hM2 := D2.T.mlt
      have fin : ∀ (z : World) (a1 : Option Addr) (c1 : Nat) (a2 : Option Addr) (c2 : Nat), Ext [] w2 z → Rdx z (TM F2 ba bt bp []) a1 m.s.key → m.s.key.length ≤ c1 → Rdx z (TM F2 ba bt bp []) a2 m.s.val → m.s.val.length ≤ c2 →
          Ret Tryz.prog 41 #[.slice la L.length lc, .slice a1 m.s.key.length c1, .slice a2 m.s.val.length c2] z fun v w' => ∃ a' c', v = .slice a' (putP L m.s.key m.s.val).length c' ∧ Prs w' (TM F2 ba bt bp []) a' (putP L m.s.key m.s.val).length c' (putP L m.s.key m.s.val) ∧ Ext [] z w' := fun z a1 c1 a2 c2 hz X1 h1 X2 h2 => rput7_ok (fun x h => Nat.lt_of_lt_of_le (hM2 x h) hz.size) (PL2.turn (.call0 hz)) (by omega) X1 rfl h1 X2 rfl h2 T.rise
      refine W_strz (.two [0, 1, 3, 4, 7, 8] 2 (.two [] 5 (.one [] 6 (.one [] 9 (.one [] 10 (.one [] 11 (.one [] 12 (.one [] 13 .stop)))))) 6 (.one [] 5 (.one [] 9 (.one [] 10 (.one [] 11 (.one [] 12 (.one [] 13 .stop))))))) 6 (.one [] 2 (.one [] 5 (.one [] 9 (.one [] 10 (.one [] 11 (.one [] 12 (.one [] 13 .stop)))))))) (fun z => Ext [] w2 z) mixed (by kernel_rfl) (Ext.drew [] w2) ?_
      refine tr_two rfl rfl rfl ?_
      refine t_move rfl (.int _ _) rfl ?_
      refine t_move rfl (.slice _ _ _) rfl ?_
      refine t_fieldAddr rfl fo_30_1_TrG3 rfl ?_
      first | refine t_ldb rfl ag_23 rfl (fun _ _ => Ctx.start _ []) (by first | exact at0 | exact at1 | exact at2 | exact at3 | exact at4 | exact at5 | exact at6 | exact at7 | exact at8 | exact at9) rfl ?_ | refine t_ld rfl ag_23 rfl (fun _ hx => (by rw [cell_bl (show _ = some (Bl 30 m.enc) from by rw [hx.block b7 (heap_lt hb72) (by simp)]; exact hb72)]; rfl)) ?_
      refine t_fieldAddr rfl fo_30_2_TrG3 rfl ?_
      first | refine t_ldb rfl ag_23 rfl (fun _ _ => Ctx.start _ []) (by first | exact at0 | exact at1 | exact at2 | exact at3 | exact at4 | exact at5 | exact at6 | exact at7 | exact at8 | exact at9) rfl ?_ | refine t_ld rfl ag_23 rfl (fun _ hx => (by rw [cell_bl (show _ = some (Bl 30 m.enc) from by rw [hx.block b7 (heap_lt hb72) (by simp)]; exact hb72)]; rfl)) ?_
      refine t_nil ?_
      have E := Ext.drew [] w2
      refine ⟨?_, ?_⟩
      · skip
        refine op_new8 rfl ?_
        rintro b1 wa Ea hn1 hb1
        have hs1a := E.size
        replace E := E.trans Ea
        refine op_nil (at_tr (E) ?_)
        refine tr_two rfl rfl rfl ?_
        refine t_nil ?_
        refine ⟨?_, ?_⟩
        · skip
          refine op_app8 rfl rfl rfl hb1 (hm2k.1.ext0 E) (by have := hm.kl; omega) ?_
          rintro a1 c1 wc Ec R1 hc1 hs1
          have hs3 := E.size
          have hf1 := app_fresh (w2 := w2) hs1 (by omega) hs3
          have hE1 := E
          replace E := E.then Ec (fun x h => .inr (by rw [List.mem_singleton.1 h]; omega))
          refine op_nil (at_tr (E) ?_)
          refine tr_one rfl rfl ?_
          refine t_nil ?_
          refine op_new8 rfl ?_
          rintro b2 wb Eb hn2 hb2
          have hs2a := E.size
          replace E := E.trans Eb
          have hne := app_ne R1 hn2
          replace R1 := R1.ext0 Eb
          refine op_nil (at_tr (E) ?_)
          refine tr_one rfl rfl ?_
          refine t_nil ?_
          refine op_app8 rfl rfl rfl hb2 (hm2v.1.ext0 E) (by have := hm.vl; omega) ?_
          rintro a2 c2 wd Ed R2 hc2 hs2
          have hs4 := E.size
          have hf2 := app_fresh (w2 := w2) hs2 (by omega) hs4
          replace R1 := app_keep R1 hne Ed
          replace E := E.then Ed (fun x h => .inr (by rw [List.mem_singleton.1 h]; omega))
          refine op_nil (at_tr (E) ?_)
          refine tr_one rfl rfl ?_
          refine t_nil ?_
          refine op_call rfl ca_41_TrG3 (fin _ _ _ _ _ E ⟨R1, hf1.imp id fun h hT => by have := hM2 _ hT; omega⟩ hc1 ⟨R2, hf2.imp id fun h hT => by have := hM2 _ hT; omega⟩ hc2) rfl ?_
          rintro v w6 ⟨a6, c6, rfl, P6, hx6⟩
          replace E := E.trans hx6
          refine op_nil (at_tr (E) ?_)
          refine tr_one rfl rfl ?_
          refine t_nil ?_
          refine op_assign rfl (.int _ _) rfl ?_
          refine op_nil (at_tr (E) ?_)
          refine tr_one rfl rfl ?_
          refine t_nil ?_
          refine op_assign rfl (.slice _ _ _) rfl ?_
          refine op_nil (at_tr (E) ?_)
          refine tr_one rfl rfl ?_
          refine t_nil ?_
          refine op_assign rfl (.bool _) rfl ?_
          refine op_nil (at_tr (E) ?_)
          refine tr_stop ?_
          refine W_ret (leave3 (v1 := (.int _ _)) (v2 := (.slice _ _ _)) (v3 := (.bool _)) rfl rfl rfl rfl rfl ?_)
          exact ⟨ct.2.1, a6, c6, ct.2.2.1, ct.2.2.2, F2, rfl, D2.call E, g02.trans (.call0 E), h4, P6⟩
        · skip
          refine op_new8 rfl ?_
          rintro b2 wb Eb hn2 hb2
          have hs2a := E.size
          replace E := E.trans Eb
          have h12 : b1 ≠ b2 := (by have := heap_lt hb1; omega)
          replace hb1 : wb.heap[b1]? = some (Bl 5 []) := (by rw [Eb.block b1 (heap_lt hb1) (by simp)]; exact hb1)
          refine op_nil (at_tr (E) ?_)
          refine tr_one rfl rfl ?_
          refine t_nil ?_
          refine op_app8 rfl rfl rfl hb1 (hm2k.1.ext0 E) (by have := hm.kl; omega) ?_
          rintro a1 c1 wc Ec R1 hc1 hs1
          have hs3 := E.size
          have hf1 := app_fresh (w2 := w2) hs1 (by omega) hs3
          have hE1 := E
          replace E := E.then Ec (fun x h => .inr (by rw [List.mem_singleton.1 h]; omega))
          have hne : m.s.key = [] ∨ (adr a1).block ≠ b2 := hs1.imp id (fun h => h.elim (fun h => by omega) fun h => by have := heap_lt hb2; omega)
          replace hb2 : wc.heap[b2]? = some (Bl 5 []) := (by rw [Ec.block b2 (heap_lt hb2) (by simpa using Ne.symm h12)]; exact hb2)
          refine op_nil (at_tr (E) ?_)
          refine tr_one rfl rfl ?_
          refine t_nil ?_
          refine op_app8 rfl rfl rfl hb2 (hm2v.1.ext0 E) (by have := hm.vl; omega) ?_
          rintro a2 c2 wd Ed R2 hc2 hs2
          have hs4 := E.size
          have hf2 := app_fresh (w2 := w2) hs2 (by omega) hs4
          replace R1 := app_keep R1 hne Ed
          replace E := E.then Ed (fun x h => .inr (by rw [List.mem_singleton.1 h]; omega))
          refine op_nil (at_tr (E) ?_)
          refine tr_one rfl rfl ?_
          refine t_nil ?_
          refine op_call rfl ca_41_TrG3 (fin _ _ _ _ _ E ⟨R1, hf1.imp id fun h hT => by have := hM2 _ hT; omega⟩ hc1 ⟨R2, hf2.imp id fun h hT => by have := hM2 _ hT; omega⟩ hc2) rfl ?_
          rintro v w6 ⟨a6, c6, rfl, P6, hx6⟩
          replace E := E.trans hx6
          refine op_nil (at_tr (E) ?_)
          refine tr_one rfl rfl ?_
          refine t_nil ?_
          refine op_assign rfl (.int _ _) rfl ?_
          refine op_nil (at_tr (E) ?_)
          refine tr_one rfl rfl ?_
          refine t_nil ?_
          refine op_assign rfl (.slice _ _ _) rfl ?_
          refine op_nil (at_tr (E) ?_)
          refine tr_one rfl rfl ?_
          refine t_nil ?_
          refine op_assign rfl (.bool _) rfl ?_
          refine op_nil (at_tr (E) ?_)
          refine tr_stop ?_
          refine W_ret (leave3 (v1 := (.int _ _)) (v2 := (.slice _ _ _)) (v3 := (.bool _)) rfl rfl rfl rfl rfl ?_)
          exact ⟨ct.2.1, a6, c6, ct.2.2.1, ct.2.2.2, F2, rfl, D2.call E, g02.trans (.call0 E), h4, P6⟩
      · skip
        refine op_new8 rfl ?_
        rintro b2 wb Eb hn2 hb2
        have hs2a := E.size
        replace E := E.trans Eb
        refine op_nil (at_tr (E) ?_)
        refine tr_one rfl rfl ?_
        refine t_nil ?_
        refine op_new8 rfl ?_
        rintro b1 wa Ea hn1 hb1
        have hs1a := E.size
        replace E := E.trans Ea
        have h12 : b1 ≠ b2 := (by have := heap_lt hb2; omega)
        replace hb2 : wa.heap[b2]? = some (Bl 5 []) := (by rw [Ea.block b2 (heap_lt hb2) (by simp)]; exact hb2)
        refine op_nil (at_tr (E) ?_)
        refine tr_one rfl rfl ?_
        refine t_nil ?_
        refine op_app8 rfl rfl rfl hb1 (hm2k.1.ext0 E) (by have := hm.kl; omega) ?_
        rintro a1 c1 wc Ec R1 hc1 hs1
        have hs3 := E.size
        have hf1 := app_fresh (w2 := w2) hs1 (by omega) hs3
        have hE1 := E
        replace E := E.then Ec (fun x h => .inr (by rw [List.mem_singleton.1 h]; omega))
        have hne : m.s.key = [] ∨ (adr a1).block ≠ b2 := hs1.imp id (fun h => h.elim (fun h => by omega) fun h => by have := heap_lt hb2; omega)
        replace hb2 : wc.heap[b2]? = some (Bl 5 []) := (by rw [Ec.block b2 (heap_lt hb2) (by simpa using Ne.symm h12)]; exact hb2)
        refine op_nil (at_tr (E) ?_)
        refine tr_one rfl rfl ?_
        refine t_nil ?_
        refine op_app8 rfl rfl rfl hb2 (hm2v.1.ext0 E) (by have := hm.vl; omega) ?_
        rintro a2 c2 wd Ed R2 hc2 hs2
        have hs4 := E.size
        have hf2 := app_fresh (w2 := w2) hs2 (by omega) hs4
        replace R1 := app_keep R1 hne Ed
        replace E := E.then Ed (fun x h => .inr (by rw [List.mem_singleton.1 h]; omega))
        refine op_nil (at_tr (E) ?_)
        refine tr_one rfl rfl ?_
        refine t_nil ?_
        refine op_call rfl ca_41_TrG3 (fin _ _ _ _ _ E ⟨R1, hf1.imp id fun h hT => by have := hM2 _ hT; omega⟩ hc1 ⟨R2, hf2.imp id fun h hT => by have := hM2 _ hT; omega⟩ hc2) rfl ?_
        rintro v w6 ⟨a6, c6, rfl, P6, hx6⟩
        replace E := E.trans hx6
        refine op_nil (at_tr (E) ?_)
        refine tr_one rfl rfl ?_
        refine t_nil ?_
        refine op_assign rfl (.int _ _) rfl ?_
        refine op_nil (at_tr (E) ?_)
        refine tr_one rfl rfl ?_
        refine t_nil ?_
        refine op_assign rfl (.slice _ _ _) rfl ?_
        refine op_nil (at_tr (E) ?_)
        refine tr_one rfl rfl ?_
        refine t_nil ?_
        refine op_assign rfl (.bool _) rfl ?_
        refine op_nil (at_tr (E) ?_)
        refine tr_stop ?_
        refine W_ret (leave3 (v1 := (.int _ _)) (v2 := (.slice _ _ _)) (v3 := (.bool _)) rfl rfl rfl rfl rfl ?_)
        exact ⟨ct.2.1, a6, c6, ct.2.2.1, ct.2.2.2, F2, rfl, D2.call E, g02.trans (.call0 E), h4, P6⟩

end Go.Proofs.YtbkadlngijkmmaaGreatDoor

/- Pages settle; a desk stands; whether there is too much of the steps. -/
namespace Go.Proofs.YtbkadlngijkmmaaGreatDoor
open Go.GV
theorem el_22_TrG4 : elemT Tryz.prog 22 = some 30 := by kernel_rfl
theorem fo_30_1_TrG4 : fieldO Tryz.prog 30 1 = some 1 := by kernel_rfl
theorem fo_30_2_TrG4 : fieldO Tryz.prog 30 2 = some 2 := by kernel_rfl
theorem sz_30_TrG4 : tsize Tryz.prog 30 = some 4 := by kernel_rfl
attribute [local irreducible] Wops W Wq Wt

/-! ### Settling -/
theorem settle_held (P : List Nat) (x : Nat) : ((P.map settleS)[x]? = some 1 ∨ (P.map settleS)[x]? = some 2) ↔ (P[x]? = some 1 ∨ P[x]? = some 2) := by
  rw [List.getElem?_map]
  cases P[x]? with
  | none => simp
  | some s =>
    simp only [Option.map_some, Option.some.injEq]
    unfold settleS
    split
    · omega
    · split
      · omega
      · exact Iff.rfl
theorem TreeAt.settle {fr : Nat} {A : Dev} {P : List Nat} {root : Int} {L : List Pr} (T : TreeAt fr A P root L) : TreeAt fr A (P.map settleS) root L := by
  obtain ⟨S, h1, h2, h3⟩ := T.lies
  exact ⟨⟨S, h1, h2, fun x => (h3 x).trans (settle_held P x).symm⟩, T.rise, T.ok⟩
theorem settle_count {P : List Nat} (hok : ∀ s ∈ P, s ≤ 3) : ∀ k, k ≤ P.length → (heldL P k).length + freeP ((P.map settleS).take k) = k
  | 0, _ => rfl
  | k + 1, hk => by
    have ih := settle_count hok k (by omega)
    obtain ⟨s, hs⟩ := get_some (l := P) (i := k) (by omega)
    have hs3 := hok s (List.mem_of_getElem? hs)
    have hq : (P.map settleS)[k]? = some (settleS s) := by rw [List.getElem?_map, hs]; rfl
    rw [heldL_succ, List.length_append, countP_snoc hq]
    have hb : heldB P k = (decide (s = 1) || decide (s = 2)) := by unfold heldB; rw [hs]; simp
    rw [hb]
    have h4 : s = 0 ∨ s = 1 ∨ s = 2 ∨ s = 3 := by omega
    rcases h4 with rfl | rfl | rfl | rfl
    · rw [if_neg (by decide), if_pos (by decide)]; simp only [List.length_nil]; omega
    · rw [if_pos (by decide), if_neg (by decide)]; simp only [List.length_cons, List.length_nil]; omega
    · rw [if_pos (by decide), if_neg (by decide)]; simp only [List.length_cons, List.length_nil]; omega
    · rw [if_neg (by decide), if_pos (by decide)]; simp only [List.length_nil]; omega
theorem settle_free {P S : List Nat} (hok : ∀ s ∈ P, s ≤ 3) (hnd : S.Nodup) (hS : ∀ x : Nat, x ∈ S ↔ P[x]? = some 1 ∨ P[x]? = some 2) : S.length + freeP (P.map settleS) = P.length := by
  have h1 := settle_count hok P.length (Nat.le_refl _)
  rw [List.take_of_length_le (by rw [List.length_map]; omega)] at h1
  have hperm : S.Perm (heldL P P.length) := by
    refine (List.perm_ext_iff_of_nodup hnd (List.nodup_range.filter _)).2 fun x => ?_
    rw [List.mem_filter, List.mem_range, hS]
    unfold heldB
    rw [Bool.or_eq_true, decide_eq_true_eq, decide_eq_true_eq]
    refine ⟨fun h => ⟨h.elim (fun h => (List.getElem?_eq_some_iff.1 h).1) fun h => (List.getElem?_eq_some_iff.1 h).1, h⟩, And.right⟩
  have h2 := hperm.length_eq
  omega
theorem rep0 {n x s : Nat} (h : (List.replicate n 0)[x]? = some s) : s = 0 := List.eq_of_mem_replicate (List.mem_of_getElem? h)
theorem new_tree (n : Nat) : TreeAt 10 (newD (10 + n)) (List.replicate n 0) (-1) [] := by
  refine ⟨⟨[], .inl ⟨rfl, rfl, rfl⟩, List.nodup_nil, fun x => ⟨(fun h => by cases h), fun h => ?_⟩⟩, List.Pairwise.nil, (fun p h => by cases h)⟩
  exfalso
  rcases h with h | h
  · have := rep0 h; omega
  · have := rep0 h; omega
theorem new_few7 (n : Nat) : Few (newD n) 0 := fun p h => by
  have h := List.eq_of_mem_replicate (show p ∈ List.replicate n (zeros, []) from h)
  rw [h]; exact Nat.le_refl _
theorem new_free (n : Nat) : freeP (List.replicate n 0) = n := by
  unfold freeP
  rw [List.countP_replicate]
  exact if_pos (by decide)
theorem stepL_len {s : St7} {L : List Pr} (h : Rising L) : (stepL s L).length ≤ L.length + 1 := by
  unfold stepL
  split
  · split
    · exact Nat.le_succ_of_le (cutP_len _ _)
    · omega
  · split
    · exact putP_len _ _ _ h
    · omega

/-! ### A desk that stands -/
structure Std (w0 w : World) (bx bt bd bp ba n : Nat) (root : Int) (L : List Pr) (i : Nat) (A : Dev) (P : List Nat) (F : Mut) : Prop where
  D : Dk w bx bt bd bp ba A P F
  T : TreeAt 10 A P root L
  on : A.on = true
  left : A.left = -1
  num : P.length = n
  blen : A.B.length = 10 + n
  few : Few A (40 * i)
  li : L.length ≤ i
  new : ∀ x, TM F ba bt bp [] x → w0.heap.size ≤ x
  hx : Ext [] w0 w
section
variable {w0 w w' : World} {bx bt bd bp ba n : Nat} {root : Int} {L : List Pr} {i : Nat} {A : Dev} {P : List Nat} {F : Mut}
theorem Std.call (s : Std w0 w bx bt bd bp ba n root L i A P F) (hx : Ext [] w w') : Std w0 w' bx bt bd bp ba n root L i A P F :=
  ⟨s.D.call hx, s.T, s.on, s.left, s.num, s.blen, s.few, s.li, s.new, s.hx.trans hx⟩
theorem Std.hl (s : Std w0 w bx bt bd bp ba n root L i A P F) : 10 + P.length ≤ A.B.length := by rw [s.num, s.blen]; exact Nat.le_refl _
theorem Std.settle (s : Std w0 w bx bt bd bp ba n root L i A P F) (h : PgAt w' bp ba (P.map settleS)) (hx : Ext [ba] w w') : Std w0 w' bx bt bd bp ba n root L i A (P.map settleS) F ∧ Grown (TM F ba bt bp []) (TM F ba bt bp []) w w' := by
  obtain ⟨h1, h2⟩ := s.D.T.page h hx
  exact ⟨⟨s.D.step h1 h2, s.T.settle, s.on, s.left, by rw [List.length_map]; exact s.num, s.blen, s.few, s.li, s.new, h2.1.new s.hx s.new⟩, h2⟩
theorem Std.told (s : Std w0 w bx bt bd bp ba n root L i A P F) (hn : n ≤ 2000) : ∃ S, Told 10 A P root L S ∧ S.Nodup ∧ (∀ x : Nat, x ∈ S ↔ P[x]? = some 1 ∨ P[x]? = some 2) := s.T.told s.on s.hl (by rw [s.num]; exact hn)
theorem Std.free (s : Std w0 w bx bt bd bp ba n root L i A P F) (hn : n ≤ 2000) : n ≤ freeP (P.map settleS) + 2 * i := by
  obtain ⟨S, td, hnd, hS⟩ := s.told hn
  have h1 := settle_free s.D.T.pg.ok hnd hS
  have h2 := td.len
  have h3 := s.li
  have h4 := s.num
  omega
theorem Std.step {root' : Int} {L' : List Pr} {A' : Dev} {P' : List Nat} {F' : Mut} (s : Std w0 w bx bt bd bp ba n root L i A P F) (D' : Dk w' bx bt bd bp ba A' P' F') (g : Grown (TM F ba bt bp []) (TM F' ba bt bp []) w w') (h : Stepped 10 A P root' L' A' P' (40 * i + 40)) (hl : L'.length ≤ L.length + 1) :
    Std w0 w' bx bt bd bp ba n root' L' (i + 1) A' P' F' := by
  obtain ⟨T', af, on', few'⟩ := h
  refine ⟨D', T', on', af.left s.left, af.len.trans s.num, af.blen.trans s.blen, few'.mono (by omega), ?_, fun x hx => ?_, g.1.new s.hx s.new⟩
  · have := s.li; omega
  · exact (g.2 x hx).elim (s.new x) fun h => Nat.le_trans s.hx.size h
theorem Std.does {t : St7} {v : Value} (s : Std w0 w bx bt bd bp ba n root L i A P F) (h : Does w bx bt bd bp ba A P F (stepL t L) (40 * i) v w') :
    ∃ root' a' c' A' P' F', v = .tuple #[.int .i64 root', .slice a' (stepL t L).length c', .bool true] ∧ Std w0 w' bx bt bd bp ba n root' (stepL t L) (i + 1) A' P' F' ∧ Prs w' (TM F' ba bt bp []) a' (stepL t L).length c' (stepL t L) ∧ Grown (TM F ba bt bp []) (TM F' ba bt bp []) w w' ∧ After 10 A P A' P' := by
  obtain ⟨root', a', c', A', P', F', hv, D', g, st, PL'⟩ := h.ex
  exact ⟨root', a', c', A', P', F', hv, s.step D' g st (stepL_len s.T.rise), PL', g, st.aft⟩
/-- What is put. -/
theorem Std.put (s : Std w0 w bx bt bd bp ba n root L i A P F) (hn : n ≤ 2000) (hi : i ≤ 1000) (hfree : 24 ≤ freeP P) {ka va : Option Addr} {kc vc : Nat} {key val : Byt} (Rk : Rdx w (TM F ba bt bp []) ka key) (Rv : Rdx w (TM F ba bt bp []) va val) (hkc : key.length ≤ kc) (hvc : val.length ≤ vc) (hk : rightK key.length val.length = true) :
    Ret Tryz.prog 26 #[ptr bt, .int .i64 root, .slice ka key.length kc, .slice va val.length vc] w fun v w' => ∃ root' A' P' F', v = .tuple #[.int .i64 root', .int .i64 0] ∧ Std w0 w' bx bt bd bp ba n root' (putP L key val) (i + 1) A' P' F' ∧ After 10 A P A' P' ∧ Grown (TM F ba bt bp []) (TM F' ba bt bp []) w w' := by
  obtain ⟨S, td, -, -⟩ := s.told hn
  have hlo := td.rlo; have hhi := td.rhi; have hnum := s.num
  have hkl : key.length ≤ 32 := by unfold rightK at hk; simp only [Bool.and_eq_true, decide_eq_true_eq] at hk; omega
  have hgood := put_good (key := key) (val := val) s.T s.on s.hl (by omega) s.left hfree s.few
  rcases hgood with ⟨h, _⟩ | ⟨_, h1, h4⟩
  · rw [hk] at h; cases h
  · refine (put8_ok (by omega) s.D.T root (by omega) (by omega) ka va kc vc _ _ key val Rk Rv rfl rfl hkc hvc (by omega) s.few (by omega) (by rw [h1]; decide)).mono fun v w' ⟨F', hv, T', g⟩ => ?_
    rw [h1] at hv
    exact ⟨_, _, _, F', hv, s.step (s.D.step T' g) g h4 (putP_len _ _ _ s.T.rise), h4.aft, g⟩
/-- What is cut. -/
theorem Std.cut (s : Std w0 w bx bt bd bp ba n root L i A P F) (hn : n ≤ 2000) (hi : i ≤ 1000) (hfree : 24 ≤ freeP P) {ka : Option Addr} {kc : Nat} {key : Byt} (Rk : Rdx w (TM F ba bt bp []) ka key) (hk : rightK key.length 0 = true) :
    Ret Tryz.prog 27 #[ptr bt, .int .i64 root, .slice ka key.length kc] w fun v w' => ∃ root' A' P' F', v = .tuple #[.int .i64 root', .bool (getP L key).isSome, .int .i64 0] ∧ Std w0 w' bx bt bd bp ba n root' (cutP L key) (i + 1) A' P' F' ∧ After 10 A P A' P' ∧ ((getP L key).isSome = false → root' = root) ∧ Grown (TM F ba bt bp []) (TM F' ba bt bp []) w w' := by
  obtain ⟨S, td, -, -⟩ := s.told hn
  have hlo := td.rlo; have hhi := td.rhi; have hnum := s.num
  have hkl : key.length ≤ 32 := by unfold rightK at hk; simp only [Bool.and_eq_true, decide_eq_true_eq] at hk; omega
  have hgood := cut_good (key := key) s.T s.on s.hl (by omega) s.left hfree s.few
  rcases hgood with ⟨h, _⟩ | ⟨_, h1, h2, h3, h4⟩
  · rw [hk] at h; cases h
  · refine (cut8_ok (by omega) s.D.T root (by omega) (by omega) ka kc _ key Rk rfl (by omega) s.few (by omega) (by rw [h1]; decide)).mono fun v w' ⟨F', hv, T', g⟩ => ?_
    rw [h1, h2] at hv
    exact ⟨_, _, _, F', hv, s.step (s.D.step T' g) g h4 (Nat.le_succ_of_le (cutP_len _ _)), h4.aft, h3, g⟩
/-- What is there. -/
theorem Std.get (s : Std w0 w bx bt bd bp ba n root L i A P F) (hn : n ≤ 2000) (hi : i ≤ 1000) {ka : Option Addr} {kc : Nat} {key : Byt} (Rk : Rd w ka 1 B8 key) :
    Ret Tryz.prog 17 #[ptr bt, .int .i64 root, .slice ka key.length kc] w fun v w' => ∃ va vc u b e, v = .tuple #[.slice va (List.length u) vc, .bool b, .int .i64 e] ∧ Ext [] w w' ∧ Rdx w' (TM F ba bt bp []) va u ∧ (rightK key.length 0 = true → e = 0 ∧ b = (getP L key).isSome ∧ u = (getP L key).getD []) := by
  obtain ⟨S, td, -, -⟩ := s.told hn
  have hlo := td.rlo; have hhi := td.rhi; have hnum := s.num
  have hg := get_good (key := key) s.T s.on s.hl (by omega)
  refine (get7_ok s.D.T (by omega) root ⟨by omega, by omega⟩ ka kc _ key Rk rfl s.few (by omega)).mono fun v w' ⟨va, vc, u, hv, hx, X, hc, hu⟩ => ?_
  refine ⟨va, vc, u, _, _, hv, hx, ⟨X.1, X.2.imp id fun h hm => h (s.D.T.mlt _ hm)⟩, fun hk => ?_⟩
  rw [hu, hg, if_pos hk]
  exact ⟨rfl, rfl, rfl⟩
end
/-- As long as none is settled, none is dropped. -/
theorem free_young {P P' : List Nat} (h : P'.map backS = P.map backS) (h0 : ∀ s ∈ P, s = 0) : freeP (P'.map settleS) = freeP P' := by
  have h1 : ∀ s ∈ P', backS s = 0 := fun s hs => by
    have h2 : backS s ∈ P'.map backS := List.mem_map_of_mem hs
    rw [h] at h2
    obtain ⟨t, ht, he⟩ := List.mem_map.1 h2
    rw [← he, h0 t ht]; rfl
  unfold freeP
  rw [List.countP_map]
  refine List.countP_congr fun s hs => ?_
  have h3 := h1 s hs
  unfold backS at h3
  simp only [Function.comp_apply, decide_eq_true_eq]
  unfold settleS
  split at h3
  · rename_i h4; subst h4; decide
  · split at h3
    · cases h3
    · subst h3; decide

/-! ### Steps that are given -/
structure Sm.In (w : World) (m : Sm) : Prop where
  k : Rd w m.ka 1 B8 m.s.key
  v : Rd w m.va 1 B8 m.s.val
  kc : m.s.key.length ≤ m.kc
  vc : m.s.val.length ≤ m.vc
theorem Rdx.of0 {w0 w : World} {M : Mut} {a : Option Addr} {l : Byt} (R : Rd w0 a 1 B8 l) (hx : Ext [] w0 w) (hM : ∀ x, M x → w0.heap.size ≤ x) : Rdx w M a l := by
  refine ⟨R.ext0 hx, ?_⟩
  rcases rd_ltN R (by decide) (fun _ _ => rfl) with h | h
  · exact .inl h
  · exact .inr fun hm => by have := hM _ hm; omega
theorem Sm.In.ok {w0 w : World} {M : Mut} {m : Sm} (h : m.In w0) (hk : m.s.key.length ≤ 200) (hv : m.s.val.length ≤ 500) (hx : Ext [] w0 w) (hM : ∀ x, M x → w0.heap.size ≤ x) : m.Ok w M :=
  ⟨.of0 h.k hx hM, .of0 h.v hx hM, h.kc, h.vc, hk, hv⟩
def smallS (m : Sm) : Prop := m.s.key.length ≤ 200 ∧ m.s.val.length ≤ 500
def bigS (m : Sm) : Bool := decide (200 < m.s.key.length) || decide (500 < m.s.val.length)
def heavy7B (l : List Sm) : Bool := (l.take 500).any bigS || decide (300 < l.length)
theorem bigS_small {m : Sm} (h : bigS m = false) : smallS m := by
  unfold bigS at h
  simp only [Bool.or_eq_false_iff, decide_eq_false_iff_not] at h
  exact ⟨by omega, by omega⟩
theorem light7 {l : List Sm} (h : heavy7B l = false) : l.length ≤ 300 ∧ ∀ m ∈ l, smallS m := by
  unfold heavy7B at h
  rw [Bool.or_eq_false_iff] at h
  have hl : l.length ≤ 300 := by have := of_decide_eq_false h.2; omega
  rw [List.take_of_length_le (by omega), List.any_eq_false] at h
  exact ⟨hl, fun m hm => bigS_small (by simpa using h.1 m hm)⟩
theorem heavy7_ok (a : Option Addr) (c : Nat) (l : List Sm) (w : World) (R : Rd w a 4 Sm.enc l) : Ret Tryz.prog 12 #[.slice a l.length c] w fun v w' => v = .bool (heavy7B l) ∧ w = w' := by
  obtain ⟨w0, rfl⟩ : ∃ w0, w0 = w := ⟨_, rfl⟩
  refine ret_of_W (fn := Tryz.f12) Tryz.func12 rfl [.slice a l.length c] rfl (by kernel_rfl) ?_
  refine W_rseq ?_
  refine op_assign rfl (.bool _) rfl ?_
  refine op_nil (at_then ?_)
  refine W_seq ?_
  refine W_rseq ?_
  refine op_assign rfl (.int _ _) rfl ?_
  refine op_nil (at_then ?_)
  refine W_block ?_
  refine W_loop 1073741820 (α := Nat) (fun i => [(3, .int .i64 (i : Int))]) (fun i w' => i ≤ l.length ∧ i ≤ 500 ∧ w0 = w' ∧ ∀ j m, j < i → l[j]? = some m → bigS m = false) (fun i => 500 - i) 0 rfl ?_ ?_ ?_
  · exact ⟨rfl, trivial⟩
  · exact ⟨Nat.zero_le _, Nat.zero_le _, rfl, fun j m h => absurd h (Nat.not_lt_zero _)⟩
  · rintro i j w ⟨hi, hi5, rfl, hs⟩
    refine W_seq ?_
    refine W_rseq (Wops_join (α := Unit) 4080 (fun _ => [(11, .bool (decide (i < l.length) && decide (i < 500)))]) (fun _ w' => w0 = w') rfl ?_ ?_)
    · refine op_move rfl (.int _ _) rfl ?_
      refine op_move rfl (.slice _ _ _) rfl ?_
      refine op_len rfl el_22_TrG4 rfl ?_
      refine op_lss rfl rfl rfl ?_
      refine op_move rfl (.bool _) rfl ?_
      refine Wops_split 8 rfl ?_ ?_
      · intro h1
        replace h1 := dec_t h1
        refine op_move rfl (.int _ _) rfl ?_
        refine op_lss rfl rfl rfl ?_
        refine op_pick1 rfl rfl (.bool _) rfl ?_
        refine op_nil ?_
        exact ⟨rfl, (), rfl, ⟨congrArg Value.bool (by rw [Bool.eq_iff_iff]; simp_all; try omega), trivial⟩, rfl⟩
      · intro h2
        replace h2 := dec_f h2
        refine op_skip rfl ?_
        refine op_skip rfl ?_
        refine op_pick0 rfl rfl (.bool _) rfl ?_
        refine op_nil ?_
        exact ⟨rfl, (), rfl, ⟨congrArg Value.bool (by rw [Bool.eq_iff_iff]; simp_all; try omega), trivial⟩, rfl⟩
    rintro - j11 w rfl
    refine W_cond _ rfl ?_ ?_
    · intro h1
      simp only [Bool.and_eq_true, decide_eq_true_eq] at h1
      obtain ⟨m, hm⟩ := get_some (l := l) (i := i) (by omega)
      refine W_skip (at_then ?_)
      refine W_seq ?_
      refine W_block ?_
      refine W_rseq (Wops_join (α := Unit) 1073725440 (fun _ => [(29, .bool (bigS m))]) (fun _ w' => w0 = w') rfl ?_ ?_)
      · refine op_move rfl (.slice _ _ _) rfl ?_
        refine op_move rfl (.int _ _) rfl ?_
        first | refine op_indexRd R rfl el_22_TrG4 sz_30_TrG4 rfl rfl (by omega) (by omega) (by first | rfl | omega) ?_ | refine op_indexAddr rfl el_22_TrG4 sz_30_TrG4 rfl rfl (by omega) (by omega) ?_
        refine op_fieldAddr rfl fo_30_1_TrG4 rfl ?_
        first | refine op_ldb rfl ag_23 rfl H (by first | exact at0 | exact at1 | exact at2 | exact at3 | exact at4 | exact at5 | exact at6 | exact at7 | exact at8 | exact at9) rfl ?_ | refine op_ld rfl ag_23 rfl ((R.fld hm rfl (j := 1) rfl)) ?_ | refine op_ld rfl ag_23 rfl ((R.fld hm rfl (j := 2) rfl)) ?_
        refine op_len rfl el_23 rfl ?_
        refine op_gtr rfl rfl rfl ?_
        refine op_move rfl (.bool _) rfl ?_
        refine Wops_split 21 rfl ?_ ?_
        · intro h3
          replace h3 := dec_t h3
          refine op_skip rfl ?_
          refine op_skip rfl ?_
          refine op_skip rfl ?_
          refine op_skip rfl ?_
          refine op_skip rfl ?_
          refine op_skip rfl ?_
          refine op_skip rfl ?_
          refine op_pick1 rfl rfl (.bool _) rfl ?_
          refine op_nil ?_
          exact ⟨rfl, (), rfl, ⟨congrArg Value.bool (by unfold bigS; rw [Bool.eq_iff_iff]; simp_all; try omega), trivial⟩, rfl⟩
        · intro h4
          replace h4 := dec_f h4
          refine op_move rfl (.slice _ _ _) rfl ?_
          refine op_move rfl (.int _ _) rfl ?_
          first | refine op_indexRd R rfl el_22_TrG4 sz_30_TrG4 rfl rfl (by omega) (by omega) (by first | rfl | omega) ?_ | refine op_indexAddr rfl el_22_TrG4 sz_30_TrG4 rfl rfl (by omega) (by omega) ?_
          refine op_fieldAddr rfl fo_30_2_TrG4 rfl ?_
          first | refine op_ldb rfl ag_23 rfl H (by first | exact at0 | exact at1 | exact at2 | exact at3 | exact at4 | exact at5 | exact at6 | exact at7 | exact at8 | exact at9) rfl ?_ | refine op_ld rfl ag_23 rfl ((R.fld hm rfl (j := 1) rfl)) ?_ | refine op_ld rfl ag_23 rfl ((R.fld hm rfl (j := 2) rfl)) ?_
          refine op_len rfl el_23 rfl ?_
          refine op_gtr rfl rfl rfl ?_
          refine op_pick0 rfl rfl (.bool _) rfl ?_
          refine op_nil ?_
          exact ⟨rfl, (), rfl, ⟨congrArg Value.bool (by unfold bigS; rw [Bool.eq_iff_iff]; simp_all; try omega), trivial⟩, rfl⟩
      rintro - j29 w rfl
      refine W_cond _ rfl ?_ ?_
      · intro h2
        refine W_rseq ?_
        refine op_assign rfl (.bool _) rfl ?_
        refine op_nil (at_then ?_)
        refine W_ret (ret_block (ret_then (ret_then (ret_block (ret_then (leave1 (v := (.bool _)) rfl rfl rfl ?_))))))
        exact ⟨congrArg Value.bool (by
          unfold heavy7B
          rw [List.any_eq_true.2 ⟨m, List.mem_of_getElem? (i := i) (by rw [List.getElem?_take, if_pos h1.2]; exact hm), h2⟩]; rfl), rfl⟩
      · intro h2
        refine W_skip (at_block (at_then ?_))
        refine W_region ?_
        refine op_move rfl (.int _ _) rfl ?_
        refine op_add_i64 rfl rfl rfl (by omega) (by omega) ?_
        refine op_assign rfl (.int _ _) rfl ?_
        refine op_nil (at_then ?_)
        refine ⟨i + 1, rfl, ⟨rfl, trivial⟩, ⟨by omega, by omega, rfl, fun k x hk hx => ?_⟩, by omega⟩
        rcases Nat.lt_or_ge k i with h | h
        · exact hs k x h hx
        · obtain rfl : k = i := by omega
          rw [hm] at hx
          injection hx with hx
          subst hx
          exact h2
    · intro h1
      simp only [Bool.and_eq_false_iff, decide_eq_false_iff_not] at h1
      refine W_exit (exit_then (exit_then (exit_here (at_then ?_))))
      refine W_rseq ?_
      refine op_move rfl (.slice _ _ _) rfl ?_
      refine op_len rfl el_22_TrG4 rfl ?_
      refine op_gtr rfl rfl rfl ?_
      refine op_assign rfl (.bool _) rfl ?_
      refine op_nil (at_then ?_)
      refine W_ret (leave1 (v := (.bool _)) rfl rfl rfl ?_)
      refine ⟨congrArg Value.bool ?_, rfl⟩
      unfold heavy7B
      rw [show (l.take 500).any bigS = false from ?_, Bool.false_or]
      · rw [Bool.eq_iff_iff]; simp only [decide_eq_true_eq]; omega
      · rw [List.any_eq_false]
        intro m hm
        obtain ⟨k, hk⟩ := List.getElem?_of_mem hm
        rw [List.getElem?_take] at hk
        split at hk
        · have := (List.getElem?_eq_some_iff.1 hk).1
          rw [hs k m (by omega) hk]; decide
        · cases hk

end Go.Proofs.YtbkadlngijkmmaaGreatDoor

/- Plain law of the tree: a root that was settled stands, whatever comes behind, and behind a crash. -/
namespace Go.Proofs.YtbkadlngijkmmaaGreatDoor
open Go.GV

theorem getD_mapz {α : Type} {f : α → α} {d : α} (hd : f d = d) (l : List α) (q : Nat) : (l.map f).getD q d = f (l.getD q d) := by
  rw [List.getD_eq_getElem?_getD, List.getD_eq_getElem?_getD, List.getElem?_map]
  cases l[q]? with
  | none => exact hd.symm
  | some x => rfl
/-- A root that was settled when all was sure: since then other pages alone have turned. -/
structure Sunk (A0 : Dev) (P0 : List Nat) (root : Int) (L : List Pr) (A : Dev) (P : List Nat) : Prop where
  T : TreeAt 10 A0 P0 root L
  back : P.map backS = P0
  blk : ∀ q, (∀ x : Nat, P0[x]? = some 0 → q ≠ 10 + x) → A.B.getD q (zeros, []) = A0.B.getD q (zeros, [])
  blen : A.B.length = A0.B.length
section
variable {A0 A A' : Dev} {P0 P P' : List Nat} {root : Int} {L : List Pr}
theorem Sunk.len (s : Sunk A0 P0 root L A P) : P.length = P0.length := by rw [← s.back, List.length_map]
/-- The pages below the root. -/
theorem Sunk.pages (s : Sunk A0 P0 root L A P) : ∃ S, Root (RD A0 10) root L S ∧ S.Nodup ∧ (∀ x : Nat, x ∈ S ↔ P0[x]? = some 1 ∨ P0[x]? = some 2) ∧ (∀ x ∈ S, x < P0.length) ∧ ∀ x ∈ S, A.B.getD (10 + x) (zeros, []) = A0.B.getD (10 + x) (zeros, []) := by
  obtain ⟨S, h1, h2, h3⟩ := s.T.lies
  refine ⟨S, h1, h2, h3, fun x hx => ((h3 x).1 hx).elim (fun h => (List.getElem?_eq_some_iff.1 h).1) fun h => (List.getElem?_eq_some_iff.1 h).1, fun x hx => s.blk _ fun y hy he => ?_⟩
  obtain rfl : x = y := by omega
  rcases (h3 x).1 hx with h | h
  · rw [hy] at h; cases h
  · rw [hy] at h; cases h
theorem Sunk.told (s : Sunk A0 P0 root L A P) (hon : A.on = true) (hl : 10 + P.length ≤ A.B.length) (hP : P.length ≤ 2000) : ∃ S, Told 10 A P root L S := by
  obtain ⟨S, h1, h2, h3, h4, h5⟩ := s.pages
  exact ⟨S, Go.Proofs.YtbkadlngijkmmaaGreatDoor.told (h1.frame fun x hx => by unfold RD; rw [h5 x hx]) hon hl hP h2 (fun x hx => by rw [s.len]; exact h4 x hx) s.T.rise⟩
theorem Sunk.after (s : Sunk A0 P0 root L A P) (af : After 10 A P A' P') : Sunk A0 P0 root L A' P' :=
  ⟨s.T, af.back.trans s.back, fun q hq => (af.blk q fun x hx => hq x (by rw [← s.back, List.getElem?_map, hx]; rfl)).trans (s.blk q hq), af.blen.trans s.blen⟩
theorem Sunk.start (T : TreeAt 10 A P root L) (h01 : ∀ s ∈ P, s = 0 ∨ s = 1) : Sunk A P root L A P := by
  refine ⟨T, ?_, fun q _ => rfl, rfl⟩
  have h : ∀ s ∈ P, backS s = id s := fun s hs => by rcases h01 s hs with rfl | rfl <;> rfl
  rw [List.map_congr_left h, List.map_id]
/-- All that stands becomes sure. -/
theorem sure_tree (T : TreeAt 10 A P root L) : TreeAt 10 (sureD A) P root L := by
  obtain ⟨S, h1, h2, h3⟩ := T.lies
  refine ⟨⟨S, h1.frame fun x hx => ?_, h2, h3⟩, T.rise, T.ok⟩
  unfold RD sureD
  dsimp only
  rw [getD_mapz (f := fun p : Byt × List Byt => (stands p, ([] : List Byt))) rfl]
  rfl
theorem sure_sure (A : Dev) : ∀ p ∈ (sureD A).B, p.2 = [] := fun p hp => by
  obtain ⟨x, hx, rfl⟩ := List.mem_map.1 (show p ∈ A.B.map fun p => (stands p, ([] : List Byt)) from hp)
  rfl
theorem flush_calm (hon : A.on = true) (hleft : A.left = -1) : flushE A = 0 ∧ flushD A = sureD A := by
  have h1 : A.goes = false := by unfold Dev.goes; rw [hleft]; rfl
  have h2 : A.less = A := by unfold Dev.less; rw [if_neg (by rw [hleft]; decide), if_pos hleft]
  unfold flushE flushD
  rw [hon, h1, h2]
  exact ⟨rfl, rfl⟩
/-- Behind a crash, and without one. -/
theorem Sunk.calm (s : Sunk A0 P0 root L A P) : TreeAt 10 A P0 root L := by
  obtain ⟨S, h1, h2, h3, h4, h5⟩ := s.pages
  exact ⟨⟨S, h1.frame fun x hx => by unfold RD; rw [h5 x hx], h2, h3⟩, s.T.rise, s.T.ok⟩
theorem Sunk.crash (s : Sunk A0 P0 root L A P) (hs : ∀ p ∈ A0.B, p.2 = []) (hl : 10 + P0.length ≤ A0.B.length) (picks : List Int) : TreeAt 10 (onD (offD A) picks) P0 root L := by
  obtain ⟨S, h1, h2, h3, h4, h5⟩ := s.pages
  refine ⟨⟨S, h1.frame fun x hx => ?_, h2, h3⟩, s.T.rise, s.T.ok⟩
  have hx4 := h4 x hx
  have hb := s.blen
  obtain ⟨p, hp⟩ := get_some (l := A.B) (i := 10 + x) (by omega)
  have hp5 := h5 x hx
  rw [List.getD_eq_getElem?_getD, hp] at hp5
  have hp6 : p = A0.B.getD (10 + x) (zeros, []) := hp5
  have hp2 : p.2 = [] := by rw [hp6]; exact hs _ (getD_mem (by omega))
  have hk := keepB_at A.B picks hp
  rw [if_pos hp2] at hk
  unfold RD
  rw [← hp6, show (onD (offD A) picks).B = keepB A.B picks from rfl, List.getD_eq_getElem?_getD, hk]
  obtain ⟨p1, p2⟩ := p
  obtain rfl : p2 = [] := hp2
  rfl
theorem crash_dev (A : Dev) (picks : List Int) : armE A = (if A.on = true then 0 else 8) ∧ onE (offD A) = 0 ∧ (onD (offD A) picks).on = true ∧ (onD (offD A) picks).left = -1 ∧ (onD (offD A) picks).B.length = A.B.length ∧ Few (onD (offD A) picks) 0 := by
  refine ⟨by unfold armE; cases A.on <;> rfl, rfl, rfl, rfl, keepB_len _ _, fun p hp => ?_⟩
  rw [(keepB_mem (show p ∈ keepB A.B picks from hp)).1]
  exact Nat.le_refl _
end

end Go.Proofs.YtbkadlngijkmmaaGreatDoor

/- The chapter's examples. -/
namespace Go.Proofs.YtbkadlngijkmmaaGreatDoor
open Go.GV
theorem ag_34_TrG5 : aggB Tryz.prog 34 = some false := by kernel_rfl
theorem ca_14_TrG5 : callable Tryz.prog 14 = true := by kernel_rfl
theorem ca_17_TrG5 : callable Tryz.prog 17 = true := by kernel_rfl
theorem ca_26_TrG5 : callable Tryz.prog 26 = true := by kernel_rfl
theorem ca_27_TrG5 : callable Tryz.prog 27 = true := by kernel_rfl
theorem ca_33_TrG5 : callable Tryz.prog 33 = true := by kernel_rfl
theorem fo_36_2_TrG5 : fieldO Tryz.prog 36 2 = some 2 := by kernel_rfl
theorem un_26_TrG5 : Tryz.prog.underlying 26 = some (.pointer 36) := by kernel_rfl
attribute [local irreducible] Wops W Wq Wt

theorem b7_ok (l : Byt) (w : World) : Ret Tryz.prog 33 #[str l] w fun v w' => ∃ b c, v = .slice (some ⟨b, 0, none⟩) l.length c ∧ Rd w' (some ⟨b, 0, none⟩) 1 B8 l ∧ l.length ≤ c ∧ w.heap.size ≤ b ∧ Ext [] w w' := by
  obtain ⟨w0, rfl⟩ : ∃ w0, w0 = w := ⟨_, rfl⟩
  refine ret_of_W (fn := Tryz.f33) Tryz.func33 rfl [str l] rfl (by kernel_rfl) ?_
  refine W_rseq ?_
  refine op_assign rfl (.slice _ _ _) rfl ?_
  refine op_nil (at_then ?_)
  refine W_rseq ?_
  refine op_move rfl (.string _) rfl ?_
  refine op_bytes (l := l) rfl un_9 el_23 un_5 rfl ?_
  rintro b c w hb hc hx R
  refine op_assign rfl (.slice _ _ _) rfl ?_
  refine op_nil (at_then ?_)
  refine W_ret (leave1 (v := (.slice _ _ _)) rfl rfl rfl ?_)
  exact ⟨b, c, rfl, R, hc, hb, hx⟩
theorem Rdx.new {w w1 w2 : World} {M : Mut} {b : Nat} {l : Byt} (R : Rd w2 (some ⟨b, 0, none⟩) 1 B8 l) (hM : ∀ x, M x → x < w.heap.size) (hs : w.heap.size ≤ w1.heap.size) (hb : w1.heap.size ≤ b) : Rdx w2 M (some ⟨b, 0, none⟩) l :=
  ⟨R, .inr fun h => by have : b < w.heap.size := hM _ h; omega⟩
def kA : Byt := [97]
def kB : Byt := [98]
def vA : Byt := [49]

set_option maxRecDepth 20000 in
set_option maxHeartbeats 8000000 in
theorem works7_ok (w : World) : Ret Tryz.prog 13 #[] w fun v w' => v = .bool true ∧ Ext [] w w' := by
  obtain ⟨w0, rfl⟩ : ∃ w0, w0 = w := ⟨_, rfl⟩
  refine ret_of_W (fn := Tryz.f13) Tryz.func13 rfl [] rfl (by kernel_rfl) ?_
  refine W_rseq ?_
  refine op_assign rfl (.bool _) rfl ?_
  refine op_nil (at_then ?_)
  refine W_rseq ?_
  refine op_call rfl ca_14_TrG5 (opened_ok 40 (by omega) (by omega) w0) rfl ?_
  rintro v w ⟨bx, bt, bd, bp, ba, F, rfl, D, hx, hnew, -⟩
  refine op_assign rfl (.pointer _) rfl ?_
  refine op_nil (at_then ?_)
  refine W_seq ?_
  refine W_rseq ?_
  refine op_move rfl (.pointer _) rfl ?_
  refine op_eqlptr rfl un_26_TrG5 rfl ?_
  refine op_nil (at_then ?_)
  refine W_cond0 rfl ?_
  refine W_skip (at_then ?_)
  obtain ⟨w1, rfl⟩ : ∃ z, z = w := ⟨_, rfl⟩
  obtain ⟨A0, hA0⟩ : ∃ A, A = newD (10 + 40) := ⟨_, rfl⟩
  obtain ⟨P0, hP0⟩ : ∃ P, P = List.replicate 40 0 := ⟨_, rfl⟩
  have s1 : Std w0 w1 bx bt bd bp ba 40 (-1) [] 0 A0 P0 F := by
    rw [hA0, hP0]
    exact ⟨D, new_tree 40, rfl, rfl, List.length_replicate .., newD_len _, new_few7 _, Nat.le_refl _, hnew, hx⟩
  have hfree0 : 24 ≤ freeP P0 := by rw [hP0, new_free]; omega
  have hz0 : ∀ s ∈ P0, s = 0 := fun s hs => by rw [hP0] at hs; exact List.eq_of_mem_replicate hs
  have H := Ctx.start w1 []
  refine W_sseqz [([0, 1, 2, 3], 4), ([], 5), ([], 6), ([7, 8, 9, 10], 11)] (fun z => z.heap[bx]? = some (Bl 36 [ptr bd, ptr bp, ptr bt])) [] mixed (by kernel_rfl) (s1.D.dk) ?_
  refine seg_cons rfl rfl ?_
  refine t_move rfl (.pointer _) rfl ?_
  refine t_nilCheck rfl rfl ?_
  refine t_fieldAddr rfl fo_36_2_TrG5 rfl ?_
  first | refine t_ldb rfl ag_34_TrG5 rfl (fun _ _ => Ctx.start _ []) (by first | exact at0 | exact at1 | exact at2 | exact at3 | exact at4 | exact at5 | exact at6 | exact at7 | exact at8 | exact at9) rfl ?_ | refine t_ld rfl ag_34_TrG5 rfl (fun _ hx => (by rw [cell_bl hx]; rfl)) ?_
  refine t_nil ?_
  skip
  refine op_call rfl ca_33_TrG5 (b7_ok kA _) rfl ?_
  rintro v w2 ⟨b2, c2, rfl, R2, hc2, hb2, hx2⟩
  have s2 := (s1.call (Ext.drew [] w1)).call hx2
  refine op_nil (at_seg (s2.D.dk) ?_)
  refine seg_cons rfl rfl ?_
  refine t_nil ?_
  refine op_call rfl ca_33_TrG5 (b7_ok vA _) rfl ?_
  rintro v w3 ⟨b3, c3, rfl, R3, hc3, hb3, hx3⟩
  have s3 := s2.call hx3
  refine op_nil (at_seg (s3.D.dk) ?_)
  refine seg_cons rfl rfl ?_
  refine t_nil ?_
  refine op_call rfl ca_26_TrG5 (s3.put (by omega) (by omega) hfree0 (Rdx.new (R2.ext0 hx3) s1.D.T.mlt (Nat.le_refl _) hb2) (Rdx.new R3 s2.D.T.mlt (Nat.le_refl _) hb3) hc2 hc3 (by decide)) rfl ?_
  rintro v w4 ⟨r4, A4, P4, F4, rfl, s4, af4, -⟩
  refine op_nil (at_seg (s4.D.dk) ?_)
  refine seg_cons rfl rfl ?_
  refine t_move rfl (.tuple _) rfl ?_
  refine t_extract rfl rfl rfl ?_
  refine t_extract rfl rfl rfl ?_
  refine t_assign rfl (.int _ _) rfl ?_
  refine t_nil ?_
  refine op_assign rfl (.int _ _) rfl ?_
  refine op_nil (at_seg (s4.D.dk) ?_)
  refine seg_nil ?_
  have hL4 : putP [] kA vA = [(kA, vA)] := rfl
  rw [hL4] at s4
  have H := Ctx.start w4 []
  refine W_sseqz [([0, 1, 2, 3, 4], 5), ([], 6), ([7, 8, 9, 10, 11, 12], 13)] (fun z => z.heap[bx]? = some (Bl 36 [ptr bd, ptr bp, ptr bt])) [] mixed (by kernel_rfl) (s4.D.dk) ?_
  refine seg_cons rfl rfl ?_
  refine t_move rfl (.pointer _) rfl ?_
  refine t_nilCheck rfl rfl ?_
  refine t_fieldAddr rfl fo_36_2_TrG5 rfl ?_
  first | refine t_ldb rfl ag_34_TrG5 rfl (fun _ _ => Ctx.start _ []) (by first | exact at0 | exact at1 | exact at2 | exact at3 | exact at4 | exact at5 | exact at6 | exact at7 | exact at8 | exact at9) rfl ?_ | refine t_ld rfl ag_34_TrG5 rfl (fun _ hx => (by rw [cell_bl hx]; rfl)) ?_
  refine t_move rfl (.int _ _) rfl ?_
  refine t_nil ?_
  skip
  refine op_call rfl ca_33_TrG5 (b7_ok kA _) rfl ?_
  rintro v w5 ⟨b5, c5, rfl, R5, hc5, hb5, hx5⟩
  have s5 := (s4.call (Ext.drew [] w4)).call hx5
  refine op_nil (at_seg (s5.D.dk) ?_)
  refine seg_cons rfl rfl ?_
  refine t_nil ?_
  refine op_call rfl ca_17_TrG5 (s5.get (by omega) (by omega) R5) rfl ?_
  rintro v w6 ⟨a6, c6, u6, g6, e6, rfl, hx6, R6, h6⟩
  have s6 := s5.call hx6
  refine op_nil (at_seg (s6.D.dk) ?_)
  refine seg_cons rfl rfl ?_
  refine t_move rfl (.tuple _) rfl ?_
  refine t_extract rfl rfl rfl ?_
  refine t_extract rfl rfl rfl ?_
  refine t_extract rfl rfl rfl ?_
  refine t_assign rfl (.slice _ _ _) rfl ?_
  refine t_assign rfl (.bool _) rfl ?_
  refine t_nil ?_
  refine op_assign rfl (.int _ _) rfl ?_
  refine op_nil (at_seg (s6.D.dk) ?_)
  refine seg_nil ?_
  obtain ⟨rfl, hg6, hu6⟩ := h6 (by decide)
  rw [show getP [(kA, vA)] kA = some vA from rfl] at hg6 hu6
  obtain rfl : g6 = true := hg6
  obtain rfl : u6 = vA := hu6
  have H := Ctx.start w6 []
  refine W_sseqz [([0, 1, 2, 3, 4], 5), ([], 6), ([7, 8, 9, 10, 11, 12], 13)] (fun z => z.heap[bx]? = some (Bl 36 [ptr bd, ptr bp, ptr bt])) [] mixed (by kernel_rfl) (s6.D.dk) ?_
  refine seg_cons rfl rfl ?_
  refine t_move rfl (.pointer _) rfl ?_
  refine t_nilCheck rfl rfl ?_
  refine t_fieldAddr rfl fo_36_2_TrG5 rfl ?_
  first | refine t_ldb rfl ag_34_TrG5 rfl (fun _ _ => Ctx.start _ []) (by first | exact at0 | exact at1 | exact at2 | exact at3 | exact at4 | exact at5 | exact at6 | exact at7 | exact at8 | exact at9) rfl ?_ | refine t_ld rfl ag_34_TrG5 rfl (fun _ hx => (by rw [cell_bl hx]; rfl)) ?_
  refine t_move rfl (.int _ _) rfl ?_
  refine t_nil ?_
  skip
  refine op_call rfl ca_33_TrG5 (b7_ok kB _) rfl ?_
  rintro v w7 ⟨b7, c7, rfl, R7, hc7, hb7, hx7⟩
  have s7 := (s6.call (Ext.drew [] w6)).call hx7
  refine op_nil (at_seg (s7.D.dk) ?_)
  refine seg_cons rfl rfl ?_
  refine t_nil ?_
  refine op_call rfl ca_17_TrG5 (s7.get (by omega) (by omega) R7) rfl ?_
  rintro v w8 ⟨a8, c8, u8, g8, e8, rfl, hx8, R8, h8⟩
  have s8 := s7.call hx8
  refine op_nil (at_seg (s8.D.dk) ?_)
  refine seg_cons rfl rfl ?_
  refine t_move rfl (.tuple _) rfl ?_
  refine t_extract rfl rfl rfl ?_
  refine t_extract rfl rfl rfl ?_
  refine t_extract rfl rfl rfl ?_
  refine t_assign rfl (.slice _ _ _) rfl ?_
  refine t_assign rfl (.bool _) rfl ?_
  refine t_nil ?_
  refine op_assign rfl (.int _ _) rfl ?_
  refine op_nil (at_seg (s8.D.dk) ?_)
  refine seg_nil ?_
  obtain ⟨rfl, hg8, hu8⟩ := h8 (by decide)
  rw [show getP [(kA, vA)] kB = none from rfl] at hg8 hu8
  obtain rfl : g8 = false := hg8
  obtain rfl : u8 = [] := hu8
  obtain ⟨S4, td4, hnd4, hS4⟩ := s4.told (by omega)
  have hset := settle_free s4.D.T.pg.ok hnd4 hS4
  rw [free_young af4.back hz0] at hset
  have hlen4 := td4.len
  have hnum4 := s4.num
  rw [show [(kA, vA)].length = 1 from rfl] at hlen4
  have hfree4 : 24 ≤ freeP P4 := by omega
  have hr4 : 0 ≤ r4 := by
    have h1 := td4.rlo
    have h2 : r4 ≠ -1 := fun h => by have h := td4.none.1 h; cases h
    omega
  have H := Ctx.start w8 []
  refine W_sseqz [([0, 1, 2, 3, 4], 5), ([], 6), ([7, 8, 9, 10, 11, 12], 13)] (fun z => z.heap[bx]? = some (Bl 36 [ptr bd, ptr bp, ptr bt])) [] mixed (by kernel_rfl) (s8.D.dk) ?_
  refine seg_cons rfl rfl ?_
  refine t_move rfl (.pointer _) rfl ?_
  refine t_nilCheck rfl rfl ?_
  refine t_fieldAddr rfl fo_36_2_TrG5 rfl ?_
  first | refine t_ldb rfl ag_34_TrG5 rfl (fun _ _ => Ctx.start _ []) (by first | exact at0 | exact at1 | exact at2 | exact at3 | exact at4 | exact at5 | exact at6 | exact at7 | exact at8 | exact at9) rfl ?_ | refine t_ld rfl ag_34_TrG5 rfl (fun _ hx => (by rw [cell_bl hx]; rfl)) ?_
  refine t_move rfl (.int _ _) rfl ?_
  refine t_nil ?_
  skip
  refine op_call rfl ca_33_TrG5 (b7_ok kB _) rfl ?_
  rintro v w9 ⟨b9, c9, rfl, R9, hc9, hb9, hx9⟩
  have s9 := (s8.call (Ext.drew [] w8)).call hx9
  refine op_nil (at_seg (s9.D.dk) ?_)
  refine seg_cons rfl rfl ?_
  refine t_nil ?_
  refine op_call rfl ca_27_TrG5 (s9.cut (by omega) (by omega) hfree4 (Rdx.new R9 s8.D.T.mlt (Nat.le_refl _) hb9) (by decide)) rfl ?_
  rintro v w10 ⟨r10, A10, P10, F10, rfl, s10, af10, hr10, g10⟩
  refine op_nil (at_seg (s10.D.dk) ?_)
  refine seg_cons rfl rfl ?_
  refine t_move rfl (.tuple _) rfl ?_
  refine t_extract rfl rfl rfl ?_
  refine t_extract rfl rfl rfl ?_
  refine t_extract rfl rfl rfl ?_
  refine t_assign rfl (.int _ _) rfl ?_
  refine t_assign rfl (.bool _) rfl ?_
  refine t_nil ?_
  refine op_assign rfl (.int _ _) rfl ?_
  refine op_nil (at_seg (s10.D.dk) ?_)
  refine seg_nil ?_
  obtain rfl : r10 = r4 := hr10 rfl
  rw [show cutP [(kA, vA)] kB = [(kA, vA)] from rfl] at s10
  rw [show (getP [(kA, vA)] kB).isSome = false from rfl]
  obtain ⟨S10, td10, hnd10, hS10⟩ := s10.told (by omega)
  have hset10 := settle_free s10.D.T.pg.ok hnd10 hS10
  rw [free_young (af10.back.trans af4.back) hz0] at hset10
  have hlen10 := td10.len
  have hnum10 := s10.num
  rw [show [(kA, vA)].length = 1 from rfl] at hlen10
  have hfree10 : 24 ≤ freeP P10 := by omega
  have H := Ctx.start w10 []
  refine W_sseqz [([0, 1, 2, 3, 4], 5), ([], 6), ([7, 8, 9, 10, 11, 12], 13)] (fun z => z.heap[bx]? = some (Bl 36 [ptr bd, ptr bp, ptr bt])) [] mixed (by kernel_rfl) (s10.D.dk) ?_
  refine seg_cons rfl rfl ?_
  refine t_move rfl (.pointer _) rfl ?_
  refine t_nilCheck rfl rfl ?_
  refine t_fieldAddr rfl fo_36_2_TrG5 rfl ?_
  first | refine t_ldb rfl ag_34_TrG5 rfl (fun _ _ => Ctx.start _ []) (by first | exact at0 | exact at1 | exact at2 | exact at3 | exact at4 | exact at5 | exact at6 | exact at7 | exact at8 | exact at9) rfl ?_ | refine t_ld rfl ag_34_TrG5 rfl (fun _ hx => (by rw [cell_bl hx]; rfl)) ?_
  refine t_move rfl (.int _ _) rfl ?_
  refine t_nil ?_
  skip
  refine op_call rfl ca_33_TrG5 (b7_ok kA _) rfl ?_
  rintro v w11 ⟨b11, c11, rfl, R11, hc11, hb11, hx11⟩
  have s11 := (s10.call (Ext.drew [] w10)).call hx11
  refine op_nil (at_seg (s11.D.dk) ?_)
  refine seg_cons rfl rfl ?_
  refine t_nil ?_
  refine op_call rfl ca_27_TrG5 (s11.cut (by omega) (by omega) hfree10 (Rdx.new R11 s10.D.T.mlt (Nat.le_refl _) hb11) (by decide)) rfl ?_
  rintro v w12 ⟨r12, A12, P12, F12, rfl, s12, -, -, g12⟩
  refine op_nil (at_seg (s12.D.dk) ?_)
  refine seg_cons rfl rfl ?_
  refine t_move rfl (.tuple _) rfl ?_
  refine t_extract rfl rfl rfl ?_
  refine t_extract rfl rfl rfl ?_
  refine t_extract rfl rfl rfl ?_
  refine t_assign rfl (.int _ _) rfl ?_
  refine t_assign rfl (.bool _) rfl ?_
  refine t_nil ?_
  refine op_assign rfl (.int _ _) rfl ?_
  refine op_nil (at_seg (s12.D.dk) ?_)
  refine seg_nil ?_
  rw [show cutP [(kA, vA)] kA = [] from rfl] at s12
  rw [show (getP [(kA, vA)] kA).isSome = true from rfl]
  obtain ⟨S12, td12, -, -⟩ := s12.told (by omega)
  obtain rfl : r12 = -1 := td12.none.2 rfl
  have X8 := R6.turn (.call0 (((Ext.drew [] w6).trans hx7).trans hx8))
  have X10 := (X8.turn (.call0 ((Ext.drew [] w8).trans hx9))).turn g10
  have X12 := (X10.turn (.call0 ((Ext.drew [] w10).trans hx11))).turn g12
  refine W_rseq ?_
  refine op_move rfl (.int _ _) rfl ?_
  refine op_eql rfl rfl rfl ?_
  refine op_move rfl (.bool _) rfl ?_
  refine op_move rfl (.int _ _) rfl ?_
  refine op_geq rfl rfl rfl ?_
  rw [decide_eq_true hr4]
  refine op_pick1 rfl rfl (.bool _) rfl ?_
  refine op_move rfl (.bool _) rfl ?_
  refine op_move rfl (.slice _ _ _) rfl ?_
  refine op_back (l := vA) rfl el_23 un_5 un_9 rfl X12.1 ?_
  refine op_streq (l := vA) (m := [49]) rfl rfl rfl ?_
  rw [show decide (vA = [49]) = true from rfl]
  refine op_pick1 rfl rfl (.bool _) rfl ?_
  refine op_move rfl (.bool _) rfl ?_
  refine op_move rfl (.bool _) rfl ?_
  refine op_pick1 rfl rfl (.bool _) rfl ?_
  refine op_move rfl (.bool _) rfl ?_
  refine op_move rfl (.int _ _) rfl ?_
  refine op_eql rfl rfl rfl ?_
  refine op_pick1 rfl rfl (.bool _) rfl ?_
  refine op_move rfl (.bool _) rfl ?_
  refine op_move rfl (.bool _) rfl ?_
  refine op_not rfl rfl ?_
  refine op_pick1 rfl rfl (.bool _) rfl ?_
  refine op_move rfl (.bool _) rfl ?_
  refine op_move rfl (.int _ _) rfl ?_
  refine op_eql rfl rfl rfl ?_
  refine op_pick1 rfl rfl (.bool _) rfl ?_
  refine op_move rfl (.bool _) rfl ?_
  refine op_move rfl (.int _ _) rfl ?_
  refine op_move rfl (.int _ _) rfl ?_
  refine op_eql rfl rfl rfl ?_
  rw [show decide (r10 = r10) = true from decide_eq_true rfl]
  refine op_pick1 rfl rfl (.bool _) rfl ?_
  refine op_move rfl (.bool _) rfl ?_
  refine op_move rfl (.bool _) rfl ?_
  refine op_not rfl rfl ?_
  refine op_pick1 rfl rfl (.bool _) rfl ?_
  refine op_move rfl (.bool _) rfl ?_
  refine op_move rfl (.int _ _) rfl ?_
  refine op_eql rfl rfl rfl ?_
  refine op_pick1 rfl rfl (.bool _) rfl ?_
  refine op_move rfl (.bool _) rfl ?_
  refine op_move rfl (.int _ _) rfl ?_
  refine op_eql rfl rfl rfl ?_
  refine op_pick1 rfl rfl (.bool _) rfl ?_
  refine op_move rfl (.bool _) rfl ?_
  refine op_move rfl (.bool _) rfl ?_
  refine op_pick1 rfl rfl (.bool _) rfl ?_
  refine op_move rfl (.bool _) rfl ?_
  refine op_move rfl (.int _ _) rfl ?_
  refine op_eql rfl rfl rfl ?_
  refine op_pick1 rfl rfl (.bool _) rfl ?_
  refine op_assign rfl (.bool _) rfl ?_
  refine op_nil (at_then ?_)
  refine W_ret (leave1 (v := (.bool _)) rfl rfl rfl ?_)
  exact ⟨rfl, s12.hx⟩

end Go.Proofs.YtbkadlngijkmmaaGreatDoor

/- What is done without a tree, and with roots that are none. -/
namespace Go.Proofs.YtbkadlngijkmmaaGreatDoor
open Go.GV
attribute [local irreducible] Wops W Wq Wt

section
variable {w : World} {bt bd bp ba fr : Nat} {A : Dev} {P : List Nat} {F : Mut}
end
end Go.Proofs.YtbkadlngijkmmaaGreatDoor

/- Whatever is put and cut: the walk. -/
namespace Go.Proofs.YtbkadlngijkmmaaGreatDoor
open Go.GV
attribute [local irreducible] Wops W Wq Wt

structure Sv where
  root : Int
  la : Option Addr
  lc : Nat
  L : List Pr
  i : Nat
  A : Dev
  P : List Nat
  F : Mut
/-- A desk that stands between two steps, with room. -/
structure Mid (w0 w : World) (bx bt bd bp ba : Nat) (s : Sv) : Prop where
  std : Std w0 w bx bt bd bp ba 800 s.root s.L s.i s.A s.P s.F
  pl : Prs w (TM s.F ba bt bp []) s.la s.L.length s.lc s.L
  free : 24 ≤ freeP s.P
theorem Mid.of {w0 w : World} {bx bt bd bp ba : Nat} {root : Int} {la : Option Addr} {lc : Nat} {L : List Pr} {i : Nat} {A : Dev} {P : List Nat} {F : Mut} (s : Std w0 w bx bt bd bp ba 800 root L i A P F) (PL : Prs w (TM F ba bt bp []) la L.length lc L) (h : 24 ≤ freeP P) : Mid w0 w bx bt bd bp ba ⟨root, la, lc, L, i, A, P, F⟩ := ⟨s, PL, h⟩
theorem Mid.settle {w0 w w' : World} {bx bt bd bp ba : Nat} {root : Int} {la : Option Addr} {lc : Nat} {L : List Pr} {i : Nat} {A : Dev} {P : List Nat} {F : Mut} (s : Std w0 w bx bt bd bp ba 800 root L i A P F) (PL : Prs w (TM F ba bt bp []) la L.length lc L) (hi : i ≤ 300) (h : PgAt w' bp ba (P.map settleS)) (hx : Ext [ba] w w') :
    Mid w0 w' bx bt bd bp ba ⟨root, la, lc, L, i, A, P.map settleS, F⟩ ∧ Grown (TM F ba bt bp []) (TM F ba bt bp []) w w' := by
  obtain ⟨h1, h2⟩ := s.settle h hx
  refine ⟨⟨h1, PL.turn h2, ?_⟩, h2⟩
  have := s.free (by omega)
  show 24 ≤ freeP (P.map settleS)
  omega

end Go.Proofs.YtbkadlngijkmmaaGreatDoor

/- From the form's readings of arguments to ours, and the post of a law that answers true and turns nothing. It holds for every program. -/
namespace Go.GV
open Go Go.ChangeShapes Go.WideShapes Go.RowKit

theorem Ext.below {w w' : World} (h : Ext [] w w') : Below w.heap.size w w' := ⟨h.os, h.tape, h.output, h.size, fun k hk => h.block k hk (by simp)⟩

section
variable {H : Type} {enc : TypeId × Value → H} {P : Program} {w : World} {base : Nat} {spare : Nat → Bool} {held : Bool}

theorem trodAll_length : ∀ {ts : List TypeId} {vs : List Value} {ds : List (DataW H)} {ps : List MemPlace}, DataW.TrodAll enc P w base spare held ts vs ds ps → ds.length = ts.length
  | [], vs, ds, ps, h => by obtain ⟨_, rfl, _⟩ := trodAll_nil h; rfl
  | t :: ts, vs, ds, ps, h => by
    obtain ⟨v, vs', d, ds', p, q, rfl, rfl, rfl, _, hr⟩ := trodAll_cons h
    simp [trodAll_length hr]

theorem trodAll_stays {W W' : World} {sp' : Nat → Bool} (hl : laidOutB P = true) (hsp : ∀ b, b < W.heap.size → sp' b = true) (hb : Below W.heap.size W W') :
    ∀ {ts : List TypeId} {vs : List Value} {ds : List (DataW H)} {ps : List MemPlace}, (∀ t ∈ ts, P.readableRec t = true ∧ t < P.types.size) → (∀ x ∈ ps, x.block < W.heap.size) →
      DataW.TrodAll enc P W 0 (fun _ => true) true ts vs ds ps → DataW.TrodAll enc P W' 0 sp' true ts vs ds ps
  | [], vs, ds, ps, _, _, h => by obtain ⟨rfl, rfl, rfl⟩ := trodAll_nil h; rfl
  | t :: ts, vs, ds, ps, hr, hp, h => by
    obtain ⟨v, vs', d, ds', p, q, rfl, rfl, rfl, h0, h1⟩ := trodAll_cons h
    refine ⟨p, q, WideElems.Trod_stays hl (hr t (by simp)).1 (hr t (by simp)).2 h0 (fun x hx => hb.same (hp x (by simp [hx]))) (fun x hx => hsp _ (hp x (by simp [hx]))), ?_, rfl⟩
    exact trodAll_stays hl hsp hb (fun t ht => hr t (by simp [ht])) (fun x hx => hp x (by simp [hx])) h1

/-- The post of a law. -/
theorem law_post {f : Func} {s : ChangeSpec} {W W' : World} {args : Array Value} {ds gs : List (DataW H)} {before : List MemPlace} {tb : TypeId} (hl : laidOutB P = true) (hv : s.vars = [])
    (hr : (f.params.toList.all fun t => P.readableRec t && decide (t < P.types.size)) = true) (hres : f.resultTypes = #[tb]) (htb : P.underlying tb = some .bool)
    (hs : ∀ ds : List (DataW H), ds.length = f.params.size → s.fn H ds = { results := [.lit (.bool true)], args := ds })
    (hW : DataW.Whole enc P f.params.toList s.vars false W args.toList ds gs before) (hx : Ext [] W W') : s.post enc P f false true false false W args (.bool true) W' := by
  have hW' := hW
  obtain ⟨p, q, hA, hV, rfl, _, _⟩ := hW
  rw [hv] at hV
  obtain ⟨rfl, rfl⟩ := trodVars_none hV
  have hlen : ds.length = f.params.size := by rw [trodAll_length hA]; simp
  refine ⟨ds, [], p ++ [], [], p, [], hW', ?_, ?_, ?_, hx.below.frame _, fun h => by cases h⟩
  · rw [List.append_nil, hs ds hlen, hres]
    exact trodAll_mk1 ⟨1, by simp [DataW.trod, Value.cells, htb]⟩
  · rw [List.append_nil, hs ds hlen]
    refine trodAll_stays hl (fun b hb => by simpa using hb) hx.below (fun t ht => ?_) (fun x hxp => ?_) hA
    · have := List.all_eq_true.1 hr t ht
      simpa using this
    · exact hW'.lt x (by simp [hxp])
  · rw [hv, List.append_nil, hs ds hlen]
    rfl

theorem wf_bounds {k : IntKind} {n : Int} (h : (Lit.int k n).wf = true) : k.min ≤ n ∧ n ≤ k.max := by
  simpa [Lit.wf] using h

/-! ### Decoding -/

/-- What a piece of a struct reads as. -/
theorem trod_fld {fuel : Nat} {t : TypeId} {cs : List Value} {x : DataW H × List MemPlace} {fs : Array Field} (ht : P.underlying t = some (.struct fs)) (h : DataW.trod enc P w base spare held fuel t cs = some x) (i : Nat) (f : Field) (hf : fs[i]? = some f) :
    ∃ n y, DataW.trod enc P w base spare held n f.type ((cs.drop f.offset).take (P.cellsOf f.type)) = some y := by
  obtain ⟨xs, n, _, _, _, hl, hx⟩ := DataW.trod_struct ht h
  have h1 := hx i f hf
  have hi : i < xs.length := by rw [hl]; exact (Array.getElem?_eq_some_iff.1 hf).1
  rw [List.getElem?_eq_getElem hi] at h1
  exact ⟨n, _, h1⟩
theorem trod_slen {fuel : Nat} {t : TypeId} {cs : List Value} {x : DataW H × List MemPlace} {fs : Array Field} (ht : P.underlying t = some (.struct fs)) (h : DataW.trod enc P w base spare held fuel t cs = some x) : cs.length = P.cellsOf t := by
  obtain ⟨xs, n, _, _, hl, _, _⟩ := DataW.trod_struct ht h
  exact hl

theorem take_one {l : List Value} {o m : Nat} {v : Value} (h : (l.drop o).take m = [v]) : l[o]? = some v := by
  have h1 : ((l.drop o).take m)[0]? = some v := by rw [h]; rfl
  rw [List.getElem?_take] at h1
  split at h1
  · rw [List.getElem?_drop] at h1; simpa using h1
  · cases h1

theorem fld_bool {fuel : Nat} {t u : TypeId} {cs : List Value} {x : DataW H × List MemPlace} {fs : Array Field} (ht : P.underlying t = some (.struct fs)) (h : DataW.trod enc P w base spare held fuel t cs = some x) (i o : Nat)
    (hf : (fs[i]?.map fun f => (f.type, f.offset)) = some (u, o)) (hu : P.underlying u = some .bool) : ∃ b, cs[o]? = some (.bool b) := by
  cases he : fs[i]? with
  | none => rw [he] at hf; cases hf
  | some f =>
    rw [he] at hf
    simp only [Option.map_some, Option.some.injEq, Prod.mk.injEq] at hf
    obtain ⟨rfl, rfl⟩ := hf
    obtain ⟨n, y, hy⟩ := trod_fld ht h i f he
    obtain ⟨b, h1, _⟩ := DataW.trod_bool hu hy
    exact ⟨b, take_one h1⟩
theorem cells_at {a : Addr} {n : Nat} {cs : List Value} (h : w.cells? base a n = some cs) : cs.length = n ∧ ∀ j v, cs[j]? = some v → w.cell? (a.add j) = some v := by
  unfold World.cells? at h
  split at h
  · have h1 : ∀ (l : List Nat) (cs : List Value), l.mapM (fun i => w.cell? (a.add i)) = some cs → cs.length = l.length ∧ ∀ (j i : Nat) (v : Value), l[j]? = some i → cs[j]? = some v → w.cell? (a.add i) = some v := by
      intro l
      induction l with
      | nil => intro cs h; simp at h; subst h; exact ⟨rfl, fun j i v h => by simp at h⟩
      | cons k l ih =>
        intro cs h
        rw [List.mapM_cons] at h
        obtain ⟨v, hv, h⟩ := Option.bind_eq_some_iff.1 h
        obtain ⟨cs', hcs, h⟩ := Option.bind_eq_some_iff.1 h
        simp only [Option.pure_def, Option.some.injEq] at h
        subst h
        obtain ⟨h1, h2⟩ := ih cs' hcs
        refine ⟨by simp [h1], fun j i u hi hu => ?_⟩
        cases j with
        | zero => simp at hi hu; subst hi hu; exact hv
        | succ j => exact h2 j i u (by simpa using hi) (by simpa using hu)
    obtain ⟨h2, h3⟩ := h1 _ _ h
    refine ⟨by simpa using h2, fun j v hv => h3 j j v ?_ hv⟩
    have : j < cs.length := (List.getElem?_eq_some_iff.1 hv).1
    rw [List.getElem?_range (by rw [h2] at this; simpa using this)]
  · cases h

theorem cell_none {a : Addr} {v : Value} (h : w.cell? a = some v) : a = ⟨a.block, a.off, none⟩ := by
  unfold World.cell? at h
  split at h
  · split at h
    · cases h
    · rename_i hs
      obtain ⟨b, o, s⟩ := a
      cases s with
      | none => rfl
      | some x => simp at hs
  · cases h

theorem dec_int {e : TypeId} {k : IntKind} (he : P.underlying e = some (.int k)) : ∀ n cs y, DataW.trod enc P w base spare held n e cs = some y → ∃ d : Int, cs = [Value.int k d] ∧ (k.min ≤ d ∧ d ≤ k.max) := by
  intro n cs y h
  obtain ⟨m, h1, _, h2⟩ := DataW.trod_int he h
  exact ⟨m, h1, wf_bounds h2⟩
end
end Go.GV

/- The rows of this seat: the world of the witnesses, in which the laid tables lie. -/
namespace Go.Proofs.YtbkadlngijkmmaaGreatDoor
open Go.GV Go.ChangeShapes Go.WideShapes Go.ChangeAt Go.RowKit

theorem own : ownKnob Tryz.prog.godebug = none := by kernel_rfl
theorem laidOut : laidOutB Tryz.prog = true := by kernel_rfl

def rangeZ : List Nat := [128, 191, 160, 191, 128, 159, 144, 191, 128, 143] ++ List.replicate 22 0
def layO (l : List Nat) : Obj → Obj
  | .cells _ t frozen => .cells (l.map fun (n : Nat) => Value.int .u8 (n : Int)).toArray t frozen
  | o => o
/-- A world in which the tables lie (blocks 1 and 2). -/
noncomputable def laidWorld (os : Os) : World :=
  { World.holding Tryz.prog os ⟨#[], #[], []⟩ with heap := ((World.holding Tryz.prog os ⟨#[], #[], []⟩).heap.modify 1 (layO Go.Pinned.utf8FirstZ)).modify 2 (layO rangeZ) }

theorem dec_byte {H : Type} {enc : TypeId × Value → H} {w : World} {base : Nat} {spare : Nat → Bool} {held : Bool} : ∀ n cs y, DataW.trod enc Tryz.prog w base spare held n 5 cs = some y → ∃ b : UInt8, cs = B8 b ∧ True := by
  intro n cs y h
  obtain ⟨d, rfl, h1, h2⟩ := dec_int Tryz.underlying5 n cs y h
  have h1 : (0 : Int) ≤ d := h1
  have h2 : d ≤ 255 := h2
  refine ⟨UInt8.ofNat d.toNat, ?_, trivial⟩
  have : (UInt8.ofNat d.toNat).toNat = d.toNat := by simp [UInt8.toNat_ofNat']; omega
  rw [B8, bv, this, Int.toNat_of_nonneg h1]
theorem byteCells : Tryz.prog.cellsOf 5 = 1 := by kernel_rfl

end Go.Proofs.YtbkadlngijkmmaaGreatDoor
