/- Part 11 of the proof. -/
import Derived.Test.YtbkadlngijkmmaaGreatDoorPart10
import Derived.Test.YtbkadlngijkmmaaGreatDoorPart4
/- Plain law of the tree: put and cut of a root that stands; free pages. -/
namespace Go.Proofs.YtbkadlngijkmmaaGreatDoor
open Go.GV

theorem TreeAt.told {fr : Nat} {A : Dev} {P : List Nat} {root : Int} {L : List Pr} (T : TreeAt fr A P root L) (hon : A.on = true) (hl : fr + P.length ≤ A.B.length) (hP : P.length ≤ 2000) : ∃ S, Told fr A P root L S ∧ S.Nodup ∧ (∀ x : Nat, x ∈ S ↔ P[x]? = some 1 ∨ P[x]? = some 2) := by
  obtain ⟨S, hR, hnd, hS⟩ := T.lies
  exact ⟨S, Go.Proofs.YtbkadlngijkmmaaGreatDoor.told hR hon hl hP hnd (fun x hx => ((hS x).1 hx).elim (fun h => (List.getElem?_eq_some_iff.1 h).1) fun h => (List.getElem?_eq_some_iff.1 h).1) T.rise, hnd, hS⟩
theorem topC_few {fr : Nat} {c : Ch} {i : Bool} {M : List It} {m : Nat} (h : Few c.A m) : Few (topC fr c i M).2.1.A (m + 3) := by
  obtain ⟨-, -, q3, -⟩ := putS_bnd (fr := fr) (c := c) (i := i) (M := M) (m := m)
  have q3 := q3 h
  unfold topC
  split
  · exact h.mono (by omega)
  · split
    · exact q3.mono (by omega)
    · split
      · exact q3.mono (by omega)
      · split
        · exact (wrC_few q3).mono (by omega)
        · exact q3.mono (by omega)
theorem turnC_few {fr : Nat} {A : Dev} {P : List Nat} {root : Int} {key : Byt} {G : List It → List It} {m : Nat} (h : Few A m) : Few (turnC fr A P root key G).2.2.A (m + 40) := by
  obtain ⟨ed, hed⟩ : ∃ ed, ed = (if root = -1 then (0, ⟨A, P, [], []⟩, false, G []) else editC fr G key 18 ⟨A, P, [], []⟩ root.toNat 0 : Int × Ch × Bool × List It) := ⟨_, rfl⟩
  have hb : Few ed.2.1.A (m + 36) := by
    rw [hed]
    split
    · exact h.mono (by omega)
    · obtain ⟨x1, x2, x3⟩ := editC_bnd (fr := fr) (G := G) (key := key) (m := m) (n := 18) (c := ⟨A, P, [], []⟩) (p := root.toNat) (d := 0)
      exact x3 h
  have hturn : turnC fr A P root key G = if ed.1 ≠ 0 then (ed.1, root, overC ed.2.1 ed.1) else if (topC fr ed.2.1 ed.2.2.1 ed.2.2.2).1 ≠ 0 then ((topC fr ed.2.1 ed.2.2.1 ed.2.2.2).1, root, overC (topC fr ed.2.1 ed.2.2.1 ed.2.2.2).2.1 (topC fr ed.2.1 ed.2.2.1 ed.2.2.2).1) else (0, (topC fr ed.2.1 ed.2.2.1 ed.2.2.2).2.2, overC (topC fr ed.2.1 ed.2.2.1 ed.2.2.2).2.1 0) := by
    unfold turnC; rw [hed]
  rw [hturn]
  have ht := topC_few (fr := fr) (i := ed.2.2.1) (M := ed.2.2.2) hb
  split
  · exact hb.mono (by omega)
  · split
    · exact ht.mono (by omega)
    · exact ht.mono (by omega)
theorem hm24 {P : List Nat} (hP : P.length ≤ 2000) : ∀ h, h = 0 ∨ 2 ^ (h + 1) ≤ P.length + 1 → 2 * h + 3 ≤ 24 := fun h hh => by
  rcases hh with rfl | hh
  · omega
  · rcases Nat.lt_or_ge h 10 with h3 | h3
    · omega
    · have : 2 ^ 11 ≤ 2 ^ (h + 1) := Nat.pow_le_pow_right (by omega) (by omega)
      omega
/-- What a step of a tree that stands leaves. -/
structure Stepped (fr : Nat) (A : Dev) (P : List Nat) (root' : Int) (L' : List Pr) (A' : Dev) (P' : List Nat) (mx : Nat) : Prop where
  tree : TreeAt fr A' P' root' L'
  aft : After fr A P A' P'
  on : A'.on = true
  few : Few A' mx
theorem After.refl (fr : Nat) (A : Dev) (P : List Nat) : After fr A P A P := ⟨fun _ _ => rfl, rfl, fun h => h, rfl, rfl⟩
theorem turn_good {fr : Nat} {A : Dev} {P : List Nat} {root : Int} {L : List Pr} {key : Byt} {G : List It → List It} {g : List Pr → List Pr} (act : Acts key G g) (hr : ∀ L, Rising L → Rising (g L)) (T : TreeAt fr A P root L) (hon : A.on = true) (hl : fr + P.length ≤ A.B.length) (hP : P.length ≤ 2000) (hleft : A.left = -1) (hfree : 24 ≤ freeP P) {mx : Nat} (hfew : Few A mx) :
    (turnC fr A P root key G).1 = 0 ∧ Stepped fr A P (turnC fr A P root key G).2.1 (g L) (turnC fr A P root key G).2.2.A (turnC fr A P root key G).2.2.P (mx + 40) := by
  obtain ⟨h1, h2⟩ := turn_spec act hr T hon hl hP (hm24 hP)
  rcases h2 with ⟨h3, h4, h5⟩ | ⟨_, _, h3⟩
  · exact ⟨h3, h5, h1, h4, turnC_few hfew⟩
  · rcases h3 with ⟨_, h3⟩ | ⟨_, h3⟩
    · exact absurd hleft h3
    · omega
theorem put_good {fr : Nat} {A : Dev} {P : List Nat} {root : Int} {L : List Pr} {key val : Byt} (T : TreeAt fr A P root L) (hon : A.on = true) (hl : fr + P.length ≤ A.B.length) (hP : P.length ≤ 2000) (hleft : A.left = -1) (hfree : 24 ≤ freeP P) {mx : Nat} (hfew : Few A mx) :
    (rightK key.length val.length = false ∧ putT fr A P root key val = (1, root, A, P)) ∨ (rightK key.length val.length = true ∧ (putT fr A P root key val).1 = 0 ∧ Stepped fr A P (putT fr A P root key val).2.1 (putP L key val) (putT fr A P root key val).2.2.1 (putT fr A P root key val).2.2.2 (mx + 40)) := by
  obtain ⟨S, td, -, -⟩ := T.told hon hl hP
  unfold putT
  rw [if_neg (by rw [td.may]; simp)]
  by_cases hk : rightK key.length val.length = true
  · right
    rw [if_pos hk]
    have hk2 := hk
    unfold rightK at hk2
    simp only [Bool.and_eq_true, decide_eq_true_eq] at hk2
    obtain ⟨h1, h2⟩ := turn_good (acts_put hk2.1 hk2.2.1 hk2.2.2) (fun L h => putP_rising h key val) T hon hl hP hleft hfree hfew
    exact ⟨hk, h1, h2⟩
  · left
    rw [if_neg hk]
    exact ⟨by simpa using hk, rfl⟩
theorem cut_good {fr : Nat} {A : Dev} {P : List Nat} {root : Int} {L : List Pr} {key : Byt} (T : TreeAt fr A P root L) (hon : A.on = true) (hl : fr + P.length ≤ A.B.length) (hP : P.length ≤ 2000) (hleft : A.left = -1) (hfree : 24 ≤ freeP P) {mx : Nat} (hfew : Few A mx) :
    (rightK key.length 0 = false ∧ cutT fr A P root key = (1, root, false, A, P)) ∨ (rightK key.length 0 = true ∧ (cutT fr A P root key).1 = 0 ∧ (cutT fr A P root key).2.2.1 = (getP L key).isSome ∧ ((getP L key).isSome = false → (cutT fr A P root key).2.1 = root) ∧
      Stepped fr A P (cutT fr A P root key).2.1 (cutP L key) (cutT fr A P root key).2.2.2.1 (cutT fr A P root key).2.2.2.2 (mx + 40)) := by
  obtain ⟨S, td, -, -⟩ := T.told hon hl hP
  have hget : getT A fr P.length root key = if rightK key.length 0 = true then (0, getP L key) else (1, none) := by
    unfold getT
    rw [if_neg (by rw [td.may]; simp), td.get]
  unfold cutT
  rw [hget]
  by_cases hk : rightK key.length 0 = true
  · right
    rw [if_pos hk, if_neg (by simp)]
    cases hg : getP L key with
    | none =>
      rw [if_pos (show ((0, (none : Option Byt)) : Int × Option Byt).2.isSome = false from rfl), cutP_none hg]
      exact ⟨hk, rfl, rfl, fun _ => rfl, T, After.refl _ _ _, hon, hfew.mono (by omega)⟩
    | some u =>
      rw [if_neg (by simp)]
      obtain ⟨h1, h2⟩ := turn_good (acts_cut key) (fun L h => cutP_rising h key) T hon hl hP hleft hfree hfew
      exact ⟨hk, h1, by dsimp only; rw [decide_eq_true h1]; rfl, (fun h => by cases h), h2⟩
  · left
    rw [if_neg hk, if_pos (by simp)]
    exact ⟨by simpa using hk, rfl⟩
theorem get_good {fr : Nat} {A : Dev} {P : List Nat} {root : Int} {L : List Pr} {key : Byt} (T : TreeAt fr A P root L) (hon : A.on = true) (hl : fr + P.length ≤ A.B.length) (hP : P.length ≤ 2000) : getT A fr P.length root key = if rightK key.length 0 = true then (0, getP L key) else (1, none) := by
  obtain ⟨S, td, -, -⟩ := T.told hon hl hP
  unfold getT
  rw [if_neg (by rw [td.may]; simp), td.get]

end Go.Proofs.YtbkadlngijkmmaaGreatDoor

/- What a desk has, what it holds: the walks. -/
namespace Go.Proofs.YtbkadlngijkmmaaGreatDoor
open Go.GV
theorem ag_33_TrG2 : aggB Tryz.prog 33 = some false := by kernel_rfl
theorem ag_34_TrG2 : aggB Tryz.prog 34 = some false := by kernel_rfl
theorem ca_23_TrG2 : callable Tryz.prog 23 = true := by kernel_rfl
theorem ca_24_TrG2 : callable Tryz.prog 24 = true := by kernel_rfl
theorem ca_28_TrG2 : callable Tryz.prog 28 = true := by kernel_rfl
theorem ca_39_TrG2 : callable Tryz.prog 39 = true := by kernel_rfl
theorem ca_69_TrG2 : callable Tryz.prog 69 = true := by kernel_rfl
theorem fo_36_1_TrG2 : fieldO Tryz.prog 36 1 = some 1 := by kernel_rfl
theorem fo_36_2_TrG2 : fieldO Tryz.prog 36 2 = some 2 := by kernel_rfl
theorem un_4_TrG2 : Tryz.prog.underlying 4 = some (.bool) := by kernel_rfl
attribute [local irreducible] Wops W Wq Wt

set_option maxRecDepth 20000 in
set_option maxHeartbeats 4000000 in
theorem has_ok {w : World} {bx bt bd bp ba : Nat} {A : Dev} {P : List Nat} {F M : Mut} (D : Dk w bx bt bd bp ba A P F) {root : Int} {L K : List Pr} {S : List Nat} (td : Told 10 A P root L S) (hnl : L.length ≤ 100000) {la : Option Addr} {ln lc : Nat} (PK : Prs w M la ln lc K) (hln : ln ≤ 100000000) {mx : Nat} (hfew : Few A mx) (hmx : mx ≤ 1000000000) (hS : S.length ≤ 100000) :
    Ret Tryz.prog 21 #[ptr bx, .int .i64 root, .slice la ln lc] w fun v w' => v = .bool (decide (L = K)) ∧ Ext [] w w' := by
  obtain ⟨w0, rfl⟩ : ∃ w0, w0 = w := ⟨_, rfl⟩
  have hlo := td.rlo; have hhi := td.rhi; have hpl := D.T.pg.len
  have hsc := td.scan [] []
  rw [filtP_nil] at hsc
  refine ret_of_W (fn := Tryz.f21) Tryz.func21 rfl [.pointer (some ⟨bx, 0, none⟩), .int .i64 root, .slice la ln lc] rfl (by kernel_rfl) ?_
  have H := Ctx.start w0 []
  refine W_rseq ?_
  refine op_assign rfl (.bool _) rfl ?_
  refine op_nil (at_then ?_)
  refine W_rseq ?_
  refine op_move rfl (.pointer _) rfl ?_
  refine op_nilCheck rfl rfl ?_
  refine op_fieldAddr rfl fo_36_2_TrG2 rfl ?_
  first | refine op_ldb rfl ag_34_TrG2 rfl H (by first | exact at0 | exact at1 | exact at2 | exact at3 | exact at4 | exact at5 | exact at6 | exact at7 | exact at8 | exact at9) rfl ?_ | refine op_ld rfl ag_34_TrG2 rfl ((by rw [cell_bl D.dk]; rfl)) ?_
  refine op_move rfl (.int _ _) rfl ?_
  refine op_call rfl ca_23_TrG2 (scan7_ok (by omega) D.T root (by omega) (by omega) none none 0 0 0 0 [] [] Rd.nil rfl Rd.nil rfl hfew hmx (by rw [td.num]; exact hS)) rfl ?_
  rintro v w2 ⟨a, c, rfl, PS, hx⟩
  rw [hsc] at PS
  rw [hsc]
  refine op_move rfl (.tuple _) rfl ?_
  refine op_extract rfl rfl rfl ?_
  refine op_extract rfl rfl rfl ?_
  refine op_assign rfl (.slice _ _ _) rfl ?_
  refine op_assign rfl (.int _ _) rfl ?_
  refine op_nil (at_then ?_)
  refine W_rseq ?_
  refine op_move rfl (.int _ _) rfl ?_
  refine op_eql rfl rfl rfl ?_
  refine op_move rfl (.bool _) rfl ?_
  refine op_move rfl (.slice _ _ _) rfl ?_
  refine op_move rfl (.slice _ _ _) rfl ?_
  refine op_call rfl ca_24_TrG2 (same7_ok PS (PK.turn (.call0 hx)) (by dsimp only; omega) hln) rfl ?_
  rintro v w3 ⟨rfl, hx3⟩
  refine op_pick1 rfl rfl (.bool _) rfl ?_
  refine op_assign rfl (.bool _) rfl ?_
  refine op_nil (at_then ?_)
  refine W_ret (leave1 (v := (.bool _)) rfl rfl rfl ?_)
  exact ⟨rfl, hx.trans hx3⟩

/-! ### What is held -/
def heldB (P : List Nat) (k : Nat) : Bool := decide (P[k]? = some 1) || decide (P[k]? = some 2)
def heldL (P : List Nat) (k : Nat) : List Nat := (List.range k).filter (heldB P)
theorem heldL_succ (P : List Nat) (k : Nat) : heldL P (k + 1) = heldL P k ++ if heldB P k = true then [k] else [] := by
  unfold heldL
  rw [List.range_succ, List.filter_append]
  congr 1
  by_cases h : heldB P k = true
  · rw [if_pos h, List.filter_cons, h]; rfl
  · rw [if_neg h, List.filter_cons, show heldB P k = false by simpa using h]; rfl
theorem heldL_pre (P : List Nat) : ∀ (d k : Nat), ∃ M, heldL P (k + d) = heldL P k ++ M ∧ ∀ x ∈ M, k ≤ x
  | 0, k => ⟨[], by simp, fun x h => by cases h⟩
  | d + 1, k => by
    obtain ⟨M, h1, h2⟩ := heldL_pre P d k
    refine ⟨M ++ if heldB P (k + d) = true then [k + d] else [], ?_, fun x hx => ?_⟩
    · rw [← Nat.add_assoc, heldL_succ, h1, List.append_assoc]
    · rcases List.mem_append.1 hx with hx | hx
      · exact h2 x hx
      · split at hx
        · rw [List.mem_singleton.1 hx]; omega
        · cases hx
/-- The list at the place of what is below k. -/
theorem held_at (P : List Nat) {k n : Nat} (hk : k < n) : (heldL P n)[(heldL P k).length]? = some k ↔ heldB P k = true := by
  obtain ⟨M, h1, h2⟩ := heldL_pre P (n - (k + 1)) (k + 1)
  rw [show k + 1 + (n - (k + 1)) = n by omega, heldL_succ, List.append_assoc] at h1
  rw [h1, List.getElem?_append_right (Nat.le_refl _), Nat.sub_self]
  by_cases hb : heldB P k = true
  · rw [if_pos hb]; exact ⟨fun _ => hb, fun _ => rfl⟩
  · rw [if_neg hb, List.nil_append]
    refine ⟨fun h => ?_, fun h => absurd h hb⟩
    have := h2 k (List.mem_of_getElem? h)
    omega
theorem held_sorted {P S : List Nat} (hnd : S.Nodup) (hS : ∀ x : Nat, x ∈ S ↔ P[x]? = some 1 ∨ P[x]? = some 2) : sortZ (S.map fun x : Nat => (x : Int)) = (heldL P P.length).map fun x : Nat => (x : Int) := by
  have hperm : S.Perm (heldL P P.length) := by
    refine (List.perm_ext_iff_of_nodup hnd (List.nodup_range.filter _)).2 fun x => ?_
    rw [List.mem_filter, List.mem_range, hS]
    unfold heldB
    rw [Bool.or_eq_true, decide_eq_true_eq, decide_eq_true_eq]
    refine ⟨fun h => ⟨h.elim (fun h => (List.getElem?_eq_some_iff.1 h).1) fun h => (List.getElem?_eq_some_iff.1 h).1, h⟩, And.right⟩
  have h1 : (S.map fun x : Nat => (x : Int)).Perm ((heldL P P.length).map fun x : Nat => (x : Int)) := hperm.map _
  have h2 : ((heldL P P.length).map fun x : Nat => (x : Int)).Pairwise fun x y => decide (x ≤ y) = true := by
    refine List.pairwise_map.2 (List.Pairwise.imp (R := fun x y : Nat => x < y) (fun {a b} h => decide_eq_true (by omega)) ?_)
    exact List.Pairwise.sublist List.filter_sublist (List.pairwise_lt_range)
  rw [sortZ, mergeSort_of_perm_i h1]
  exact List.mergeSort_of_pairwise h2

set_option maxRecDepth 20000 in
set_option maxHeartbeats 4000000 in
theorem held_ok {w : World} {bx bt bd bp ba : Nat} {A : Dev} {P : List Nat} {F : Mut} (D : Dk w bx bt bd bp ba A P F) {root : Int} {L : List Pr} {S : List Nat} (td : Told 10 A P root L S) (hnd : S.Nodup) (hS : ∀ x : Nat, x ∈ S ↔ P[x]? = some 1 ∨ P[x]? = some 2) {mx : Nat} (hfew : Few A mx) (hmx : mx ≤ 1000000000) (hSl : S.length ≤ 100000) :
    Ret Tryz.prog 20 #[ptr bx, .int .i64 root] w fun v w' => v = .bool true ∧ Ext [] w w' := by
  obtain ⟨w0, rfl⟩ : ∃ w0, w0 = w := ⟨_, rfl⟩
  have hlo := td.rlo; have hhi := td.rhi; have hpl := D.T.pg.len
  have hwk := td.walk
  obtain ⟨n, hn⟩ : ∃ n, n = P.length := ⟨_, rfl⟩
  rw [held_sorted hnd hS, ← hn] at hwk
  obtain ⟨lz, hlz⟩ : ∃ lz, lz = (heldL P n).map fun x : Nat => (x : Int) := ⟨_, rfl⟩
  have hlzn : lz.length = (heldL P n).length := by rw [hlz, List.length_map]
  rw [← hlz] at hwk
  have hpair : (((0 : Int), lz).2).length = lz.length := rfl
  refine ret_of_W (fn := Tryz.f20) Tryz.func20 rfl [.pointer (some ⟨bx, 0, none⟩), .int .i64 root] rfl (by kernel_rfl) ?_
  have H := Ctx.start w0 []
  refine W_rseq ?_
  refine op_assign rfl (.bool _) rfl ?_
  refine op_nil (at_then ?_)
  refine W_rseq ?_
  refine op_move rfl (.pointer _) rfl ?_
  refine op_nilCheck rfl rfl ?_
  refine op_fieldAddr rfl fo_36_2_TrG2 rfl ?_
  first | refine op_ldb rfl ag_34_TrG2 rfl H (by first | exact at0 | exact at1 | exact at2 | exact at3 | exact at4 | exact at5 | exact at6 | exact at7 | exact at8 | exact at9) rfl ?_ | refine op_ld rfl ag_34_TrG2 rfl ((by rw [cell_bl D.dk]; rfl)) ?_
  refine op_move rfl (.int _ _) rfl ?_
  refine op_call rfl ca_28_TrG2 (walk7_ok (by omega) D.T root (by omega) (by omega) hfew hmx (by rw [td.num]; exact hSl)) rfl ?_
  rintro v w2 ⟨a, c, rfl, RW, -, -, hx⟩
  rw [← hn, hwk] at RW
  rw [← hn, hwk]
  replace RW : Rd w2 a 1 (fun x : Int => [.int .i64 x]) lz := RW
  refine op_move rfl (.tuple _) rfl ?_
  refine op_extract rfl rfl rfl ?_
  refine op_extract rfl rfl rfl ?_
  refine op_assign rfl (.slice _ _ _) rfl ?_
  refine op_assign rfl (.int _ _) rfl ?_
  refine op_nil (at_then ?_)
  refine W_seq ?_
  refine W_rseq ?_
  refine op_move rfl (.int _ _) rfl ?_
  refine op_neq rfl rfl rfl ?_
  refine op_nil (at_then ?_)
  refine W_cond0 rfl ?_
  refine W_skip (at_then ?_)
  refine W_rseq ?_
  refine op_assign rfl (.int _ _) rfl ?_
  refine op_nil (at_then ?_)
  refine W_seq ?_
  refine W_rseq ?_
  refine op_assign rfl (.int _ _) rfl ?_
  refine op_nil (at_then ?_)
  refine W_block ?_
  have hdk : w2.heap[bx]? = some (Bl 36 [ptr bd, ptr bp, ptr bt]) := by rw [hx.block bx (heap_lt D.dk) (by simp)]; exact D.dk
  have hP2 := (D.T.call hx).pg
  refine W_loop 1152921504602654608 (α := Nat) (fun k => [(8, .int .i64 (k : Int)), (7, .int .i64 ((heldL P k).length : Int))]) (fun k w' => k ≤ n ∧ w2 = w') (fun k => n - k) 0 rfl ?_ ?_ ?_
  · exact ⟨rfl, rfl, trivial⟩
  · exact ⟨Nat.zero_le _, rfl⟩
  · rintro k j w ⟨hk, rfl⟩
    obtain ⟨w2', rfl⟩ : ∃ z, z = w2 := ⟨_, rfl⟩
    have H := Ctx.start w2' []
    refine W_seq ?_
    refine W_rseq ?_
    refine op_move rfl (.int _ _) rfl ?_
    refine op_move rfl (.pointer _) rfl ?_
    refine op_nilCheck rfl rfl ?_
    refine op_fieldAddr rfl fo_36_1_TrG2 rfl ?_
    first | refine op_ldb rfl ag_33_TrG2 rfl H (by first | exact at0 | exact at1 | exact at2 | exact at3 | exact at4 | exact at5 | exact at6 | exact at7 | exact at8 | exact at9) rfl ?_ | refine op_ld rfl ag_33_TrG2 rfl ((by rw [cell_bl hdk]; rfl)) ?_
    refine op_call rfl ca_69_TrG2 (psize_ok hP2) rfl ?_
    rintro v w5 ⟨rfl, rfl⟩
    rw [← hn]
    refine op_lss rfl rfl rfl ?_
    refine op_nil (at_then ?_)
    refine W_cond _ rfl ?_ ?_
    · intro hB
      replace hB := dec_t hB
      have hkn : k < n := by omega
      obtain ⟨s, hs⟩ := get_some (l := P) (i := k) (by omega)
      have hs3 := D.T.pg.ok s (List.mem_of_getElem? hs)
      have hsu := heldL_succ P k
      have hat := held_at P hkn
      have hcl : (heldL P k).length ≤ n := by
        have := List.length_filter_le (heldB P) (List.range k)
        rw [List.length_range] at this
        exact Nat.le_trans this (by omega)
      have hatz : ∀ h : (heldL P k).length < lz.length, decide (lz[(heldL P k).length] = (k : Int)) = heldB P k := fun h => by
        have h1 : (heldL P n)[(heldL P k).length]? = some ((heldL P n)[(heldL P k).length]'(by omega)) := List.getElem?_eq_getElem _
        have h2 : lz[(heldL P k).length] = (((heldL P n)[(heldL P k).length]'(by omega) : Nat) : Int) := by simp only [hlz, List.getElem_map]
        rw [h2, Bool.eq_iff_iff, decide_eq_true_eq, ← hat, h1]
        simp only [Option.some.injEq]
        omega
      have hatn : ¬ (heldL P k).length < lz.length → heldB P k = false := fun h => by
        cases hb : heldB P k with
        | false => rfl
        | true =>
          have h1 := (List.getElem?_eq_some_iff.1 (hat.2 hb)).1
          omega
      have hs2 : decide ((s : Int) = 2) = decide (s = 2) := by rw [Bool.eq_iff_iff]; simp; omega
      have hsb : heldB P k = (decide (s = 1) || decide (s = 2)) := by unfold heldB; rw [hs]; simp
      refine W_skip (at_then ?_)
      refine W_seq ?_
      refine W_block ?_
      refine W_rseq ?_
      refine op_move rfl (.pointer _) rfl ?_
      refine op_nilCheck rfl rfl ?_
      refine op_fieldAddr rfl fo_36_1_TrG2 rfl ?_
      first | refine op_ldb rfl ag_33_TrG2 rfl H (by first | exact at0 | exact at1 | exact at2 | exact at3 | exact at4 | exact at5 | exact at6 | exact at7 | exact at8 | exact at9) rfl ?_ | refine op_ld rfl ag_33_TrG2 rfl ((by rw [cell_bl hdk]; rfl)) ?_ | refine op_ld rfl ag_33_TrG2 rfl ((RW.fld (List.getElem?_eq_getElem (show (heldL P k).length < lz.length by omega)) rfl (j := 0) rfl)) ?_
      refine op_move rfl (.int _ _) rfl ?_
      refine op_call rfl ca_39_TrG2 (pstate_ok hP2 k hs) rfl ?_
      rintro v w5 ⟨rfl, rfl⟩
      refine op_assign rfl (.int _ _) rfl ?_
      refine op_nil (at_then ?_)
      refine W_rseq (Wops_join (α := Unit) 562812514468864 (fun _ => [(10, .bool (heldB P k))]) (fun _ w' => w2' = w') rfl ?_ ?_)
      · refine op_move rfl (.int _ _) rfl ?_
        refine op_move rfl (.slice _ _ _) rfl ?_
        refine op_len rfl el_57 rfl ?_
        refine op_lss rfl rfl rfl ?_
        refine op_move rfl (.bool _) rfl ?_
        refine Wops_split 41 rfl ?_ ?_
        · intro h1
          replace h1 := dec_t h1
          refine op_move rfl (.slice _ _ _) rfl ?_
          refine op_move rfl (.int _ _) rfl ?_
          first | refine op_indexRd RW rfl el_57 sz_3 rfl rfl (by omega) (by omega) (by first | rfl | omega) ?_ | refine op_indexAddr rfl el_57 sz_3 rfl rfl (by omega) (by omega) ?_
          first | refine op_ldb rfl ag_3 rfl H (by first | exact at0 | exact at1 | exact at2 | exact at3 | exact at4 | exact at5 | exact at6 | exact at7 | exact at8 | exact at9) rfl ?_ | refine op_ld rfl ag_3 rfl ((by rw [cell_bl hdk]; rfl)) ?_ | refine op_ld rfl ag_3 rfl ((RW.fld (List.getElem?_eq_getElem (show (heldL P k).length < lz.length by omega)) rfl (j := 0) rfl)) ?_
          refine op_move rfl (.int _ _) rfl ?_
          refine op_eql rfl rfl rfl ?_
          refine op_pick1 rfl rfl (.bool _) rfl ?_
          refine op_assign rfl (.bool _) rfl ?_
          refine op_nil ?_
          exact ⟨rfl, (), rfl, ⟨congrArg Value.bool (by first | exact hatz (by omega) | exact (hatn (by omega)).symm), trivial⟩, rfl⟩
        · intro h2
          replace h2 := dec_f h2
          refine op_skip rfl ?_
          refine op_skip rfl ?_
          refine op_skip rfl ?_
          refine op_skip rfl ?_
          refine op_skip rfl ?_
          refine op_skip rfl ?_
          refine op_pick0 rfl rfl (.bool _) rfl ?_
          refine op_assign rfl (.bool _) rfl ?_
          refine op_nil ?_
          exact ⟨rfl, (), rfl, ⟨congrArg Value.bool (by first | exact hatz (by omega) | exact (hatn (by omega)).symm), trivial⟩, rfl⟩
      rintro - j10 w rfl
      refine W_seq ?_
      refine W_rseq ?_
      refine op_move rfl (.bool _) rfl ?_
      refine op_nil (at_then ?_)
      refine W_joinK 3377699720528000 (α := Unit) (fun _ => [(7, .int .i64 ((heldL P (k + 1)).length : Int))]) (fun _ w' => w2' = w') rfl ?_ ?_
      · skip
        refine W_cond _ rfl ?_ ?_
        · intro hC
          rw [if_pos hC] at hsu
          refine W_region ?_
          refine op_move rfl (.int _ _) rfl ?_
          refine op_add_i64 rfl rfl rfl (by omega) (by omega) ?_
          refine op_assign rfl (.int _ _) rfl ?_
          refine op_nil (at_then ?_)
          exact ⟨(), rfl, ⟨congrArg (Value.int .i64) (by rw [hsu, List.length_append]; rfl), trivial⟩, rfl⟩
        · intro hC
          rw [if_neg (by rw [hC]; simp), List.append_nil] at hsu
          refine W_skip (at_then ?_)
          exact ⟨(), rfl, ⟨congrArg (Value.int .i64) (by rw [hsu]), trivial⟩, rfl⟩
      · rintro - j7 w5 rfl
        refine W_rseq (Wops_join (α := Unit) 1148417904979476480 (fun _ => [(59, .bool (false))]) (fun _ w' => w2' = w') rfl ?_ ?_)
        · refine op_move rfl (.bool _) rfl ?_
          refine op_move rfl (.int _ _) rfl ?_
          refine op_eql rfl rfl rfl ?_
          refine op_move rfl (.bool _) rfl ?_
          refine Wops_split 55 rfl ?_ ?_
          · intro h3
            replace h3 := dec_t h3
            refine op_skip rfl ?_
            refine op_skip rfl ?_
            refine op_pick1 rfl rfl (.bool _) rfl ?_
            refine op_neqb un_4_TrG2 rfl rfl rfl ?_
            refine op_nil ?_
            exact ⟨rfl, (), rfl, ⟨congrArg Value.bool (by rw [hsb]; (first | rw [decide_eq_true (show s = 1 by omega)] | rw [decide_eq_false (show ¬ s = 1 by omega)]); (try rw [hs2]); cases decide (s = 2) <;> rfl), trivial⟩, rfl⟩
          · intro h4
            replace h4 := dec_f h4
            refine op_move rfl (.int _ _) rfl ?_
            refine op_eql rfl rfl rfl ?_
            refine op_pick0 rfl rfl (.bool _) rfl ?_
            refine op_neqb un_4_TrG2 rfl rfl rfl ?_
            refine op_nil ?_
            exact ⟨rfl, (), rfl, ⟨congrArg Value.bool (by rw [hsb]; (first | rw [decide_eq_true (show s = 1 by omega)] | rw [decide_eq_false (show ¬ s = 1 by omega)]); (try rw [hs2]); cases decide (s = 2) <;> rfl), trivial⟩, rfl⟩
        rintro - j59 w rfl
        refine W_cond0 rfl ?_
        refine W_skip (at_block (at_then ?_))
        refine W_region ?_
        refine op_move rfl (.int _ _) rfl ?_
        refine op_add_i64 rfl rfl rfl (by omega) (by omega) ?_
        refine op_assign rfl (.int _ _) rfl ?_
        refine op_nil (at_then ?_)
        exact ⟨k + 1, rfl, ⟨rfl, rfl, trivial⟩, ⟨by omega, rfl⟩, by omega⟩
    · intro hB
      replace hB := dec_f hB
      have hkk : k = n := by omega
      refine W_exit (exit_then (exit_then (exit_here (at_then ?_))))
      refine W_rseq ?_
      refine op_move rfl (.int _ _) rfl ?_
      refine op_move rfl (.slice _ _ _) rfl ?_
      refine op_len rfl el_57 rfl ?_
      refine op_eql rfl rfl rfl ?_
      refine op_assign rfl (.bool _) rfl ?_
      refine op_nil (at_then ?_)
      refine W_ret (leave1 (v := (.bool _)) rfl rfl rfl ?_)
      exact ⟨congrArg Value.bool (decide_eq_true (by rw [hlzn, hkk])), hx⟩

end Go.Proofs.YtbkadlngijkmmaaGreatDoor

/- A desk does a step: the walk. -/
namespace Go.Proofs.YtbkadlngijkmmaaGreatDoor
open Go.GV
theorem ag_34_TrG3 : aggB Tryz.prog 34 = some false := by kernel_rfl
theorem ca_18_TrG3 : callable Tryz.prog 18 = true := by kernel_rfl
theorem ca_19_TrG3 : callable Tryz.prog 19 = true := by kernel_rfl
theorem ca_26_TrG3 : callable Tryz.prog 26 = true := by kernel_rfl
theorem ca_27_TrG3 : callable Tryz.prog 27 = true := by kernel_rfl
theorem ca_37_TrG3 : callable Tryz.prog 37 = true := by kernel_rfl
theorem ca_40_TrG3 : callable Tryz.prog 40 = true := by kernel_rfl
theorem ca_41_TrG3 : callable Tryz.prog 41 = true := by kernel_rfl
theorem fo_30_0_TrG3 : fieldO Tryz.prog 30 0 = some 0 := by kernel_rfl
theorem fo_30_1_TrG3 : fieldO Tryz.prog 30 1 = some 1 := by kernel_rfl
theorem fo_30_2_TrG3 : fieldO Tryz.prog 30 2 = some 2 := by kernel_rfl
theorem fo_36_2_TrG3 : fieldO Tryz.prog 36 2 = some 2 := by kernel_rfl
theorem un_4_TrG3 : Tryz.prog.underlying 4 = some (.bool) := by kernel_rfl
attribute [local irreducible] Wops W Wq Wt

section
variable {ops rest : List Oper} {Q : Exit → Env → World → Prop} {e : Env} {w : World} {dst : Option Tmp} {ty : TypeId} {pos : String} {af : Array Edge} {g : Option (Nat × Bool)} {r : Option Nat}
theorem op_new8 (hg : wants ⟨dst, .buildSlice 23 0 #[], ty, pos, af, g⟩ ops e = true)
    (h : ∀ b w', Ext [] w w' → w.heap.size ≤ b → w'.heap[b]? = some (Bl 5 []) → Wops Tryz.prog r ops Q rest (put e dst (.slice (some ⟨b, 0, none⟩) 0 0)) w') : Wops Tryz.prog r ops Q (⟨dst, .buildSlice 23 0 #[], ty, pos, af, g⟩ :: rest) e w :=
  op_build0 hg el_23 sz_5 (Ctx.start w []) fun b w' H _ => h b w' H.ext ((H.own (b, Bl 5 []) (List.mem_append_right _ (List.mem_singleton.2 rfl))).elim (fun h => by cases h) id) (H.blk (b, Bl 5 []) (List.mem_append_right _ (List.mem_singleton.2 rfl)))
theorem op_app8 {x y : Operand} {b c2 : Nat} {a2 : Option Addr} {l : Byt} (hg : wants ⟨dst, .call ⟨.builtin .append, #[x, y], #[23, 23]⟩, ty, pos, af, g⟩ ops e = true) (hx : ev e x = .slice (some ⟨b, 0, none⟩) 0 0) (hy : ev e y = .slice a2 l.length c2)
    (hb : w.heap[b]? = some (Bl 5 [])) (R : Rd w a2 1 B8 l) (hl : l.length ≤ 1000000)
    (h : ∀ a' c' w', Ext [b] w w' → Rd w' a' 1 B8 l → l.length ≤ c' → (l = [] ∨ (adr a').block = b ∨ w.heap.size ≤ (adr a').block) → Wops Tryz.prog r ops Q rest (put e dst (.slice a' l.length c')) w') :
    Wops Tryz.prog r ops Q (⟨dst, .call ⟨.builtin .append, #[x, y], #[23, 23]⟩, ty, pos, af, g⟩ :: rest) e w := by
  refine op_append (L := []) (a := some ⟨b, 0, none⟩) (n := 0) (c := 0) (full := []) (l := []) hg el_23 el_23 sz_5 by_5 zc_5 rfl (by decide) (l.map bv) hx hy (Ctx.start1 hb) ⟨(fun p hp => by injection hp with hp; subst hp; rfl), (fun hp => by cases hp), by simp, Nat.le_refl _, by simp⟩ (by simp) (bv_one l) (Rd.appB R) (by omega) fun a' c' full' w' H' O' => ?_
  rw [Nat.zero_add] at O' ⊢
  refine h a' c' w' H'.ext (OS.rdB (by simpa using O') fun y hy => H'.blk y hy) O'.le ?_
  cases ha : a' with
  | none =>
    left
    have h8 := O'.none' ha; have h9 := O'.le
    exact List.eq_nil_of_length_eq_zero (by omega)
  | some q =>
    have h8 := H'.own (q.block, Bl 5 full') (by rw [ha]; exact List.mem_singleton.2 rfl)
    obtain ⟨qb, qo, qs⟩ := q
    exact .inr (h8.imp (fun h => List.mem_singleton.1 h) id)
end

theorem app_fresh {w2 w : World} {l : Byt} {b : Nat} {a : Option Addr} (h : l = [] ∨ (adr a).block = b ∨ w.heap.size ≤ (adr a).block) (hb : w2.heap.size ≤ b) (hs : w2.heap.size ≤ w.heap.size) : l = [] ∨ w2.heap.size ≤ (adr a).block := by
  rcases h with h | h | h
  · exact .inl h
  · exact .inr (by omega)
  · exact .inr (by omega)
theorem app_keep {w w' : World} {l : Byt} {b : Nat} {a : Option Addr} (R : Rd w a 1 B8 l) (h : l = [] ∨ (adr a).block ≠ b) (hx : Ext [b] w w') : Rd w' a 1 B8 l := by
  rcases h with rfl | h
  · exact Rd.nil
  · exact R.ext hx (by simpa using h)
theorem app_ne {w : World} {l : Byt} {b2 : Nat} {a : Option Addr} (R : Rd w a 1 B8 l) (h : w.heap.size ≤ b2) : l = [] ∨ (adr a).block ≠ b2 := by
  rcases rd_ltN R (by decide) (fun _ _ => rfl) with h1 | h1
  · exact .inl h1
  · exact .inr (by omega)

structure St7 where
  cut : Bool
  key : Byt
  val : Byt
  settle : Bool
/-- A step in memory. -/
structure Sm where
  ka : Option Addr
  kc : Nat
  va : Option Addr
  vc : Nat
  s : St7
def Sm.enc (m : Sm) : List Value := [.bool m.s.cut, .slice m.ka m.s.key.length m.kc, .slice m.va m.s.val.length m.vc, .bool m.s.settle]
theorem Sm.oneE (m : Sm) : ∀ v ∈ m.enc, oneCell v = true := fun v hv => by
  simp only [Sm.enc, List.mem_cons, List.not_mem_nil, or_false] at hv
  rcases hv with rfl | rfl | rfl | rfl <;> rfl
structure Sm.Ok (w : World) (M : Mut) (m : Sm) : Prop where
  k : Rdx w M m.ka m.s.key
  v : Rdx w M m.va m.s.val
  kc : m.s.key.length ≤ m.kc
  vc : m.s.val.length ≤ m.vc
  kl : m.s.key.length ≤ 200
  vl : m.s.val.length ≤ 500
def stepL (s : St7) (L : List Pr) : List Pr :=
  if s.cut = true then (if rightK s.key.length 0 = true then cutP L s.key else L) else if rightK s.key.length s.val.length = true then putP L s.key s.val else L
/-- What a step of a desk leaves. -/
structure Does (w0 : World) (bx bt bd bp ba : Nat) (A : Dev) (P : List Nat) (F : Mut) (L' : List Pr) (mx : Nat) (v : Value) (w' : World) : Prop where
  ex : ∃ (root' : Int) (a' : Option Addr) (c' : Nat) (A' : Dev) (P' : List Nat) (F' : Mut), v = .tuple #[.int .i64 root', .slice a' L'.length c', .bool true] ∧ Dk w' bx bt bd bp ba A' P' F' ∧ Grown (TM F ba bt bp []) (TM F' ba bt bp []) w0 w' ∧ Stepped 10 A P root' L' A' P' (mx + 40) ∧ Prs w' (TM F' ba bt bp []) a' L'.length c' L'
theorem Dk.step {w w' : World} {bx bt bd bp ba : Nat} {A A' : Dev} {P P' : List Nat} {F F' : Mut} (D : Dk w bx bt bd bp ba A P F) (T : Tx w' bt bd bp ba 10 A' P' F' []) (t : Grown (TM F ba bt bp []) (TM F' ba bt bp []) w w') : Dk w' bx bt bd bp ba A' P' F' :=
  ⟨t.keep D.dk D.nx, T, fun h => (t.2 bx h).elim D.nx fun h => by have := heap_lt D.dk; omega⟩
theorem Dk.call {w w' : World} {bx bt bd bp ba : Nat} {A : Dev} {P : List Nat} {F : Mut} (D : Dk w bx bt bd bp ba A P F) (hx : Ext [] w w') : Dk w' bx bt bd bp ba A P F := D.step (D.T.call hx) (.call0 hx)

theorem rk_key (k : Nat) : rightK k 0 = (decide (1 ≤ k) && decide (k ≤ 32)) := by unfold rightK; simp
theorem rk_f {k v : Nat} (hk : rightK k v = false) (h : (decide (1 ≤ k) && decide (k ≤ 32)) = true) : (!decide (v ≤ 128)) = true := by
  unfold rightK at hk
  rw [← Bool.and_assoc, h, Bool.true_and] at hk
  rw [hk]; rfl
theorem rk_t {k v : Nat} (hk : rightK k v = true) : (decide (1 ≤ k) && decide (k ≤ 32)) = true ∧ (!decide (v ≤ 128)) = false := by
  unfold rightK at hk
  rw [← Bool.and_assoc, Bool.and_eq_true] at hk
  rw [hk.2]; exact ⟨hk.1, rfl⟩

set_option maxRecDepth 20000 in
set_option maxHeartbeats 8000000 in
theorem does_ok {w : World} {bx bt bd bp ba : Nat} {A : Dev} {P : List Nat} {F : Mut} (D : Dk w bx bt bd bp ba A P F) {root : Int} {L : List Pr} (T : TreeAt 10 A P root L) (hon : A.on = true) (hl : 10 + P.length ≤ A.B.length) (hP : P.length ≤ 2000) (hleft : A.left = -1) (hfree : 24 ≤ freeP P) {mx : Nat} (hfew : Few A mx) (hmx : mx ≤ 700000000)
    {la : Option Addr} {lc : Nat} (PL : Prs w (TM F ba bt bp []) la L.length lc L) (hL : L.length ≤ 1000000) (m : Sm) (hm : m.Ok w (TM F ba bt bp [])) :
    Ret Tryz.prog 16 #[ptr bx, .int .i64 root, .slice la L.length lc, .agg m.enc.toArray] w fun v w' => Does w bx bt bd bp ba A P F (stepL m.s L) mx v w' := by
  obtain ⟨w0, rfl⟩ : ∃ w0, w0 = w := ⟨_, rfl⟩
  have hmlt := D.T.mlt
  obtain ⟨S, td, -, -⟩ := T.told hon hl hP
  have hlo := td.rlo; have hhi := td.rhi
  have H := Ctx.start w0 []
  refine ret_of_W (fn := Tryz.f16) Tryz.func16 rfl [.pointer (some ⟨bx, 0, none⟩), .int .i64 root, .slice la L.length lc, .agg m.enc.toArray] rfl (by kernel_rfl) ?_
  refine W_rseq ?_
  refine op_box rfl m.enc (.agg _) rfl rfl H ?_
  rintro b7 w - H
  refine op_assign rfl (.int _ _) rfl ?_
  refine op_assign rfl (.slice _ _ _) rfl ?_
  refine op_assign rfl (.bool _) rfl ?_
  refine op_nil (at_then ?_)
  refine W_seq ?_
  refine W_rseq ?_
  refine op_fieldAddr rfl fo_30_0_TrG3 rfl ?_
  refine op_ldb rfl ag_4 rfl H (by first | exact at0 | exact at1 | exact at2 | exact at3 | exact at4 | exact at5 | exact at6 | exact at7 | exact at8 | exact at9) rfl ?_
  refine op_nil (at_then ?_)
  refine W_cond _ rfl ?_ ?_
  · intro hA
    obtain ⟨w1, rfl⟩ : ∃ z, z = w := ⟨_, rfl⟩
    have hx1 := H.ext
    have D1 := D.call hx1
    have hb7 := H.get at0
    have hn7 : ¬ TM F ba bt bp [] b7 := fun h => by
      have h1 := hmlt _ h
      have h2 := (H.own _ (List.mem_cons_self ..)).elim (fun h => by cases h) id
      dsimp only at h2; omega
    have hdr := Grown.call0 (F := TM F ba bt bp []) (Ext.drew [] w1)
    have hkd : Rdx w1.drew (TM F ba bt bp []) m.ka m.s.key := (hm.k.call hx1).turn hdr
    obtain ⟨ct, hct⟩ : ∃ ct, ct = cutT 10 A P root m.s.key := ⟨_, rfl⟩
    have hgood := cut_good (key := m.s.key) T hon hl hP hleft hfree hfew
    rw [← hct] at hgood
    have hok99 : (cutT 10 A P root m.s.key).1 ≠ 99 := by
      rw [← hct]
      rcases hgood with ⟨_, h⟩ | ⟨_, h, _⟩
      · rw [h]; simp
      · rw [h]; decide
    refine W_sseqz [([0, 1, 2, 3, 4, 5, 6], 7), ([8, 9, 10, 11, 12, 13], 14)] (fun z => z.heap[bx]? = some (Bl 36 [ptr bd, ptr bp, ptr bt]) ∧ z.heap[b7]? = some (Bl 30 m.enc)) [] mixed (by kernel_rfl) (⟨D1.dk, hb7⟩) ?_
    refine seg_cons rfl rfl ?_
    refine t_move rfl (.pointer _) rfl ?_
    refine t_nilCheck rfl rfl ?_
    refine t_fieldAddr rfl fo_36_2_TrG3 rfl ?_
    first | refine t_ldb rfl ag_34_TrG3 rfl (fun _ _ => Ctx.start _ []) (by first | exact at0 | exact at1 | exact at2 | exact at3 | exact at4 | exact at5 | exact at6 | exact at7 | exact at8 | exact at9) rfl ?_ | refine t_ld rfl ag_34_TrG3 rfl (fun _ hx => (by rw [cell_bl hx.1]; rfl)) ?_ | refine t_ld rfl ag_34_TrG3 rfl (fun _ hx => (by rw [cell_bl hx.2]; rfl)) ?_
    refine t_move rfl (.int _ _) rfl ?_
    refine t_fieldAddr rfl fo_30_1_TrG3 rfl ?_
    first | refine t_ldb rfl ag_23 rfl (fun _ _ => Ctx.start _ []) (by first | exact at0 | exact at1 | exact at2 | exact at3 | exact at4 | exact at5 | exact at6 | exact at7 | exact at8 | exact at9) rfl ?_ | refine t_ld rfl ag_23 rfl (fun _ hx => (by rw [cell_bl hx.1]; rfl)) ?_ | refine t_ld rfl ag_23 rfl (fun _ hx => (by rw [cell_bl hx.2]; rfl)) ?_
    refine t_nil ?_
    skip
    refine op_call rfl ca_27_TrG3 (cut8_ok (by omega) (D1.call (Ext.drew [] w1)).T root (by omega) (by omega) m.ka m.kc _ m.s.key hkd rfl (by have := hm.kl; omega) hfew (by omega) hok99) rfl ?_
    rintro v w2 ⟨F2, rfl, T2, g2⟩
    rw [← hct] at T2
    rw [← hct]
    have g12 := hdr.trans g2
    have D2 := D1.step T2 g12
    have hb72 := g12.keep hb7 hn7
    refine op_nil (at_seg (⟨D2.dk, hb72⟩) ?_)
    refine seg_cons rfl rfl ?_
    refine t_move rfl (.tuple _) rfl ?_
    refine t_extract rfl rfl rfl ?_
    refine t_extract rfl rfl rfl ?_
    refine t_extract rfl rfl rfl ?_
    refine t_assign rfl (.int _ _) rfl ?_
    refine t_assign rfl (.bool _) rfl ?_
    refine t_nil ?_
    refine op_assign rfl (.int _ _) rfl ?_
    refine op_nil (at_seg (⟨D2.dk, hb72⟩) ?_)
    refine seg_nil ?_
    have g02 := (Grown.call0 (F := TM F ba bt bp []) hx1).trans g12
    have PL2 := PL.turn g02
    have hm2k := hm.k.turn g02
    have H := Ctx.start w2 []
    refine W_rseq ?_
    refine op_move rfl (.slice _ _ _) rfl ?_
    refine op_fieldAddr rfl fo_30_1_TrG3 rfl ?_
    first | refine op_ldb rfl ag_23 rfl H (by first | exact at0 | exact at1 | exact at2 | exact at3 | exact at4 | exact at5 | exact at6 | exact at7 | exact at8 | exact at9) rfl ?_ | refine op_ld rfl ag_23 rfl ((by rw [cell_bl hb72]; rfl)) ?_
    refine op_call rfl ca_18_TrG3 (rget7_ok (M2 := fun _ => False) PL2 (by omega) hm2k.1 rfl T.rise) rfl ?_
    rintro v w3 ⟨va, vc, u, rfl, hx3, -, -, -⟩
    refine op_move rfl (.tuple _) rfl ?_
    refine op_extract rfl rfl rfl ?_
    refine op_extract rfl rfl rfl ?_
    refine op_assign rfl (.slice _ _ _) rfl ?_
    refine op_assign rfl (.bool _) rfl ?_
    refine op_nil (at_then ?_)
    refine W_seq ?_
    have hb73 : w3.heap[b7]? = some (Bl 30 m.enc) := by rw [hx3.block b7 (heap_lt hb72) (by simp)]; exact hb72
    have D3 := D2.call hx3
    have g03 := g02.trans (.call0 hx3)
    have PL3 := PL.turn g03
    have H := Ctx.start w3 []
    rcases hgood with ⟨hk, hc⟩ | ⟨hk, h1, h2, h3, h4⟩
    · skip
      have hst : stepL m.s L = L := by unfold stepL; rw [if_pos hA, if_neg (by rw [hk]; simp)]
      rw [hst]
      rw [hc] at T2 D3
      rw [hc]
      refine W_rseq ?_
      refine op_fieldAddr rfl fo_30_1_TrG3 rfl ?_
      first | refine op_ldb rfl ag_23 rfl H (by first | exact at0 | exact at1 | exact at2 | exact at3 | exact at4 | exact at5 | exact at6 | exact at7 | exact at8 | exact at9) rfl ?_ | refine op_ld rfl ag_23 rfl ((by rw [cell_bl hb73]; rfl)) ?_
      refine op_call rfl ca_19_TrG3 (mayKey_ok m.ka m.s.key.length m.kc w3) rfl ?_
      rintro v w5 ⟨rfl, rfl⟩
      rw [← rk_key, hk]
      refine op_not rfl rfl ?_
      refine op_nil (at_then ?_)
      refine W_cond1 rfl ?_
      refine W_rseq ?_
      refine op_move rfl (.int _ _) rfl ?_
      refine op_move rfl (.slice _ _ _) rfl ?_
      refine op_move rfl (.int _ _) rfl ?_
      refine op_eql rfl rfl rfl ?_
      refine op_move rfl (.bool _) rfl ?_
      refine op_move rfl (.bool _) rfl ?_
      refine op_not rfl rfl ?_
      refine op_pick1 rfl rfl (.bool _) rfl ?_
      refine op_assign rfl (.int _ _) rfl ?_
      refine op_assign rfl (.slice _ _ _) rfl ?_
      refine op_assign rfl (.bool _) rfl ?_
      refine op_nil (at_then ?_)
      refine W_ret (ret_then (ret_then (leave3 (v1 := (.int _ _)) (v2 := (.slice _ _ _)) (v3 := (.bool _)) rfl rfl rfl rfl rfl ?_)))
      exact ⟨root, la, lc, A, P, F2, rfl, D3, g03, ⟨T, After.refl _ _ _, hon, hfew.mono (by omega)⟩, PL3⟩
    · skip
      have hst : stepL m.s L = cutP L m.s.key := by unfold stepL; rw [if_pos hA, if_pos hk]
      rw [hst, h1, h2]
      refine W_rseq ?_
      refine op_fieldAddr rfl fo_30_1_TrG3 rfl ?_
      first | refine op_ldb rfl ag_23 rfl H (by first | exact at0 | exact at1 | exact at2 | exact at3 | exact at4 | exact at5 | exact at6 | exact at7 | exact at8 | exact at9) rfl ?_ | refine op_ld rfl ag_23 rfl ((by rw [cell_bl hb73]; rfl)) ?_
      refine op_call rfl ca_19_TrG3 (mayKey_ok m.ka m.s.key.length m.kc w3) rfl ?_
      rintro v w5 ⟨rfl, rfl⟩
      rw [← rk_key, hk]
      refine op_not rfl rfl ?_
      refine op_nil (at_then ?_)
      refine W_cond0 rfl ?_
      refine W_skip (at_then ?_)
      refine W_seq ?_
      cases hg : (getP L m.s.key).isSome
      · rw [h3 hg]
        refine W_rseq ?_
        refine op_move rfl (.int _ _) rfl ?_
        refine op_neq rfl rfl rfl ?_
        refine op_move rfl (.bool _) rfl ?_
        refine op_move rfl (.bool _) rfl ?_
        refine op_move rfl (.bool _) rfl ?_
        refine op_neqb un_4_TrG3 rfl rfl rfl ?_
        refine op_pick0 rfl rfl (.bool _) rfl ?_
        refine op_move rfl (.bool _) rfl ?_
        refine op_move rfl (.bool _) rfl ?_
        refine op_not rfl rfl ?_
        refine op_move rfl (.bool _) rfl ?_
        refine op_move rfl (.int _ _) rfl ?_
        refine op_move rfl (.int _ _) rfl ?_
        refine op_neq rfl rfl rfl ?_
        rw [show (!decide (root = root)) = false from by simp]
        refine op_pick1 rfl rfl (.bool _) rfl ?_
        refine op_pick0 rfl rfl (.bool _) rfl ?_
        refine op_nil (at_then ?_)
        refine W_cond0 rfl ?_
        refine W_skip (at_then ?_)
        refine W_rseq ?_
        refine op_move rfl (.int _ _) rfl ?_
        refine op_move rfl (.slice _ _ _) rfl ?_
        refine op_fieldAddr rfl fo_30_1_TrG3 rfl ?_
        first | refine op_ldb rfl ag_23 rfl H (by first | exact at0 | exact at1 | exact at2 | exact at3 | exact at4 | exact at5 | exact at6 | exact at7 | exact at8 | exact at9) rfl ?_ | refine op_ld rfl ag_23 rfl ((by rw [cell_bl hb73]; rfl)) ?_
        refine op_call rfl ca_40_TrG3 (rcut7_ok D3.T.mlt PL3 (by omega) (hm.k.turn g03).1 rfl) rfl ?_
        rintro v w6 ⟨a6, c6, rfl, P6, hx6⟩
        refine op_assign rfl (.int _ _) rfl ?_
        refine op_assign rfl (.slice _ _ _) rfl ?_
        refine op_assign rfl (.bool _) rfl ?_
        refine op_nil (at_then ?_)
        refine W_ret (ret_then (leave3 (v1 := (.int _ _)) (v2 := (.slice _ _ _)) (v3 := (.bool _)) rfl rfl rfl rfl rfl ?_))
        rw [h3 hg] at h4
        exact ⟨root, a6, c6, ct.2.2.2.1, ct.2.2.2.2, F2, rfl, D3.call hx6, g03.trans (.call0 hx6), h4, P6⟩
      · skip
        refine W_rseq ?_
        refine op_move rfl (.int _ _) rfl ?_
        refine op_neq rfl rfl rfl ?_
        refine op_move rfl (.bool _) rfl ?_
        refine op_move rfl (.bool _) rfl ?_
        refine op_move rfl (.bool _) rfl ?_
        refine op_neqb un_4_TrG3 rfl rfl rfl ?_
        refine op_pick0 rfl rfl (.bool _) rfl ?_
        refine op_move rfl (.bool _) rfl ?_
        refine op_move rfl (.bool _) rfl ?_
        refine op_not rfl rfl ?_
        refine op_move rfl (.bool _) rfl ?_
        refine op_skip rfl ?_
        refine op_skip rfl ?_
        refine op_skip rfl ?_
        refine op_pick0 rfl rfl (.bool _) rfl ?_
        refine op_pick0 rfl rfl (.bool _) rfl ?_
        refine op_nil (at_then ?_)
        refine W_cond0 rfl ?_
        refine W_skip (at_then ?_)
        refine W_rseq ?_
        refine op_move rfl (.int _ _) rfl ?_
        refine op_move rfl (.slice _ _ _) rfl ?_
        refine op_fieldAddr rfl fo_30_1_TrG3 rfl ?_
        first | refine op_ldb rfl ag_23 rfl H (by first | exact at0 | exact at1 | exact at2 | exact at3 | exact at4 | exact at5 | exact at6 | exact at7 | exact at8 | exact at9) rfl ?_ | refine op_ld rfl ag_23 rfl ((by rw [cell_bl hb73]; rfl)) ?_
        refine op_call rfl ca_40_TrG3 (rcut7_ok D3.T.mlt PL3 (by omega) (hm.k.turn g03).1 rfl) rfl ?_
        rintro v w6 ⟨a6, c6, rfl, P6, hx6⟩
        refine op_assign rfl (.int _ _) rfl ?_
        refine op_assign rfl (.slice _ _ _) rfl ?_
        refine op_assign rfl (.bool _) rfl ?_
        refine op_nil (at_then ?_)
        refine W_ret (ret_then (leave3 (v1 := (.int _ _)) (v2 := (.slice _ _ _)) (v3 := (.bool _)) rfl rfl rfl rfl rfl ?_))
        exact ⟨ct.2.1, a6, c6, ct.2.2.2.1, ct.2.2.2.2, F2, rfl, D3.call hx6, g03.trans (.call0 hx6), h4, P6⟩
  · intro hA
    obtain ⟨w1, rfl⟩ : ∃ z, z = w := ⟨_, rfl⟩
    have hx1 := H.ext
    have D1 := D.call hx1
    have hb7 := H.get at0
    have hn7 : ¬ TM F ba bt bp [] b7 := fun h => by
      have h1 := hmlt _ h
      have h2 := (H.own _ (List.mem_cons_self ..)).elim (fun h => by cases h) id
      dsimp only at h2; omega
    have hdr := Grown.call0 (F := TM F ba bt bp []) (Ext.drew [] w1)
    have hkd : Rdx w1.drew (TM F ba bt bp []) m.ka m.s.key := (hm.k.call hx1).turn hdr
    have hvd : Rdx w1.drew (TM F ba bt bp []) m.va m.s.val := (hm.v.call hx1).turn hdr
    obtain ⟨ct, hct⟩ : ∃ ct, ct = putT 10 A P root m.s.key m.s.val := ⟨_, rfl⟩
    have hgood := put_good (key := m.s.key) (val := m.s.val) T hon hl hP hleft hfree hfew
    rw [← hct] at hgood
    have hok99 : (putT 10 A P root m.s.key m.s.val).1 ≠ 99 := by
      rw [← hct]
      rcases hgood with ⟨_, h⟩ | ⟨_, h, _⟩
      · rw [h]; simp
      · rw [h]; decide
    refine W_skip (at_then ?_)
    refine W_sseqz [([0, 1, 2, 3, 4, 5, 6, 7, 8], 9), ([10, 11, 12, 13], 14)] (fun z => z.heap[bx]? = some (Bl 36 [ptr bd, ptr bp, ptr bt]) ∧ z.heap[b7]? = some (Bl 30 m.enc)) [] mixed (by kernel_rfl) (⟨D1.dk, hb7⟩) ?_
    refine seg_cons rfl rfl ?_
    refine t_move rfl (.pointer _) rfl ?_
    refine t_nilCheck rfl rfl ?_
    refine t_fieldAddr rfl fo_36_2_TrG3 rfl ?_
    first | refine t_ldb rfl ag_34_TrG3 rfl (fun _ _ => Ctx.start _ []) (by first | exact at0 | exact at1 | exact at2 | exact at3 | exact at4 | exact at5 | exact at6 | exact at7 | exact at8 | exact at9) rfl ?_ | refine t_ld rfl ag_34_TrG3 rfl (fun _ hx => (by rw [cell_bl hx.1]; rfl)) ?_ | refine t_ld rfl ag_34_TrG3 rfl (fun _ hx => (by rw [cell_bl hx.2]; rfl)) ?_
    refine t_move rfl (.int _ _) rfl ?_
    refine t_fieldAddr rfl fo_30_1_TrG3 rfl ?_
    first | refine t_ldb rfl ag_23 rfl (fun _ _ => Ctx.start _ []) (by first | exact at0 | exact at1 | exact at2 | exact at3 | exact at4 | exact at5 | exact at6 | exact at7 | exact at8 | exact at9) rfl ?_ | refine t_ld rfl ag_23 rfl (fun _ hx => (by rw [cell_bl hx.1]; rfl)) ?_ | refine t_ld rfl ag_23 rfl (fun _ hx => (by rw [cell_bl hx.2]; rfl)) ?_
    refine t_fieldAddr rfl fo_30_2_TrG3 rfl ?_
    first | refine t_ldb rfl ag_23 rfl (fun _ _ => Ctx.start _ []) (by first | exact at0 | exact at1 | exact at2 | exact at3 | exact at4 | exact at5 | exact at6 | exact at7 | exact at8 | exact at9) rfl ?_ | refine t_ld rfl ag_23 rfl (fun _ hx => (by rw [cell_bl hx.1]; rfl)) ?_ | refine t_ld rfl ag_23 rfl (fun _ hx => (by rw [cell_bl hx.2]; rfl)) ?_
    refine t_nil ?_
    skip
    refine op_call rfl ca_26_TrG3 (put8_ok (by omega) (D1.call (Ext.drew [] w1)).T root (by omega) (by omega) m.ka m.va m.kc m.vc _ _ m.s.key m.s.val hkd hvd rfl rfl hm.kc hm.vc (by have := hm.kl; omega) hfew (by omega) hok99) rfl ?_
    rintro v w2 ⟨F2, rfl, T2, g2⟩
    rw [← hct] at T2
    rw [← hct]
    have g12 := hdr.trans g2
    have D2 := D1.step T2 g12
    have hb72 := g12.keep hb7 hn7
    refine op_nil (at_seg (⟨D2.dk, hb72⟩) ?_)
    refine seg_cons rfl rfl ?_
    refine t_move rfl (.tuple _) rfl ?_
    refine t_extract rfl rfl rfl ?_
    refine t_extract rfl rfl rfl ?_
    refine t_assign rfl (.int _ _) rfl ?_
    refine t_nil ?_
    refine op_assign rfl (.int _ _) rfl ?_
    refine op_nil (at_seg (⟨D2.dk, hb72⟩) ?_)
    refine seg_nil ?_
    refine W_seq ?_
    have g02 := (Grown.call0 (F := TM F ba bt bp []) hx1).trans g12
    have PL2 := PL.turn g02
    have H := Ctx.start w2 []
    rcases hgood with ⟨hk, hc⟩ | ⟨hk, h1, h4⟩
    · skip
      have hst : stepL m.s L = L := by unfold stepL; rw [if_neg (by rw [hA]; simp), if_neg (by rw [hk]; simp)]
      rw [hst]
      rw [hc] at T2 D2
      rw [hc]
      refine W_rseq (Wops_join (α := Unit) 158301582523618002652725510144 (fun _ => [(96, .bool (true))]) (fun _ w' => w2 = w') rfl ?_ ?_)
      · refine op_fieldAddr rfl fo_30_1_TrG3 rfl ?_
        first | refine op_ldb rfl ag_23 rfl H (by first | exact at0 | exact at1 | exact at2 | exact at3 | exact at4 | exact at5 | exact at6 | exact at7 | exact at8 | exact at9) rfl ?_ | refine op_ld rfl ag_23 rfl ((by rw [cell_bl hb72]; rfl)) ?_
        refine op_call rfl ca_19_TrG3 (mayKey_ok m.ka m.s.key.length m.kc w2) rfl ?_
        rintro v w5 ⟨rfl, rfl⟩
        refine op_not rfl rfl ?_
        refine op_move rfl (.bool _) rfl ?_
        refine Wops_split 91 rfl ?_ ?_
        · intro h1
          replace h1 := nvar_t h1
          refine op_skip rfl ?_
          refine op_skip rfl ?_
          refine op_skip rfl ?_
          refine op_skip rfl ?_
          refine op_pick1 rfl rfl (.bool _) rfl ?_
          refine op_nil ?_
          exact ⟨rfl, (), rfl, ⟨congrArg Value.bool (by first | rfl | exact rk_f hk h2), trivial⟩, rfl⟩
        · intro h2
          replace h2 := nvar_f h2
          refine op_fieldAddr rfl fo_30_2_TrG3 rfl ?_
          first | refine op_ldb rfl ag_23 rfl H (by first | exact at0 | exact at1 | exact at2 | exact at3 | exact at4 | exact at5 | exact at6 | exact at7 | exact at8 | exact at9) rfl ?_ | refine op_ld rfl ag_23 rfl ((by rw [cell_bl hb72]; rfl)) ?_
          refine op_call rfl ca_37_TrG3 (mayVal_ok m.va m.s.val.length m.vc w2) rfl ?_
          rintro v w5 ⟨rfl, rfl⟩
          refine op_not rfl rfl ?_
          refine op_pick0 rfl rfl (.bool _) rfl ?_
          refine op_nil ?_
          exact ⟨rfl, (), rfl, ⟨congrArg Value.bool (by first | rfl | exact rk_f hk h2), trivial⟩, rfl⟩
      rintro - j96 w rfl
      refine W_cond1 rfl ?_
      refine W_rseq ?_
      refine op_move rfl (.int _ _) rfl ?_
      refine op_move rfl (.slice _ _ _) rfl ?_
      refine op_move rfl (.int _ _) rfl ?_
      refine op_eql rfl rfl rfl ?_
      refine op_assign rfl (.int _ _) rfl ?_
      refine op_assign rfl (.slice _ _ _) rfl ?_
      refine op_assign rfl (.bool _) rfl ?_
      refine op_nil (at_then ?_)
      refine W_ret (ret_then (leave3 (v1 := (.int _ _)) (v2 := (.slice _ _ _)) (v3 := (.bool _)) rfl rfl rfl rfl rfl ?_))
      exact ⟨root, la, lc, A, P, F2, rfl, D2, g02, ⟨T, After.refl _ _ _, hon, hfew.mono (by omega)⟩, PL2⟩
    · skip
      have hst : stepL m.s L = putP L m.s.key m.s.val := by unfold stepL; rw [if_neg (by rw [hA]; simp), if_pos hk]
      rw [hst, h1]
      refine W_rseq (Wops_join (α := Unit) 158301582523618002652725510144 (fun _ => [(96, .bool (false))]) (fun _ w' => w2 = w') rfl ?_ ?_)
      · refine op_fieldAddr rfl fo_30_1_TrG3 rfl ?_
        first | refine op_ldb rfl ag_23 rfl H (by first | exact at0 | exact at1 | exact at2 | exact at3 | exact at4 | exact at5 | exact at6 | exact at7 | exact at8 | exact at9) rfl ?_ | refine op_ld rfl ag_23 rfl ((by rw [cell_bl hb72]; rfl)) ?_
        refine op_call rfl ca_19_TrG3 (mayKey_ok m.ka m.s.key.length m.kc w2) rfl ?_
        rintro v w5 ⟨rfl, rfl⟩
        refine op_not rfl rfl ?_
        refine op_move rfl (.bool _) rfl ?_
        refine Wops_split 91 rfl ?_ ?_
        · intro h3
          replace h3 := nvar_t h3
          refine op_skip rfl ?_
          refine op_skip rfl ?_
          refine op_skip rfl ?_
          refine op_skip rfl ?_
          refine op_pick1 rfl rfl (.bool _) rfl ?_
          refine op_nil ?_
          exact ⟨rfl, (), rfl, ⟨congrArg Value.bool (by first | exact (rk_t hk).2 | exact absurd ((rk_t hk).1.symm.trans h3) (by decide)), trivial⟩, rfl⟩
        · intro h4
          replace h4 := nvar_f h4
          refine op_fieldAddr rfl fo_30_2_TrG3 rfl ?_
          first | refine op_ldb rfl ag_23 rfl H (by first | exact at0 | exact at1 | exact at2 | exact at3 | exact at4 | exact at5 | exact at6 | exact at7 | exact at8 | exact at9) rfl ?_ | refine op_ld rfl ag_23 rfl ((by rw [cell_bl hb72]; rfl)) ?_
          refine op_call rfl ca_37_TrG3 (mayVal_ok m.va m.s.val.length m.vc w2) rfl ?_
          rintro v w5 ⟨rfl, rfl⟩
          refine op_not rfl rfl ?_
          refine op_pick0 rfl rfl (.bool _) rfl ?_
          refine op_nil ?_
          exact ⟨rfl, (), rfl, ⟨congrArg Value.bool (by first | exact (rk_t hk).2 | exact absurd ((rk_t hk).1.symm.trans h3) (by decide)), trivial⟩, rfl⟩
      rintro - j96 w rfl
      refine W_cond0 rfl ?_
      refine W_skip (at_then ?_)
      refine W_seq ?_
      refine W_rseq ?_
      refine op_move rfl (.int _ _) rfl ?_
      refine op_neq rfl rfl rfl ?_
      refine op_nil (at_then ?_)
      refine W_cond0 rfl ?_
      refine W_skip (at_then ?_)
      have hm2k := hm.k.turn g02
      have hm2v := hm.v.turn g02
      have hM2 := D2.T.mlt
      have fin : ∀ (z : World) (a1 : Option Addr) (c1 : Nat) (a2 : Option Addr) (c2 : Nat), Ext [] w2 z → Rdx z (TM F2 ba bt bp []) a1 m.s.key → m.s.key.length ≤ c1 → Rdx z (TM F2 ba bt bp []) a2 m.s.val → m.s.val.length ≤ c2 →
          Ret Tryz.prog 41 #[.slice la L.length lc, .slice a1 m.s.key.length c1, .slice a2 m.s.val.length c2] z fun v w' => ∃ a' c', v = .slice a' (putP L m.s.key m.s.val).length c' ∧ Prs w' (TM F2 ba bt bp []) a' (putP L m.s.key m.s.val).length c' (putP L m.s.key m.s.val) ∧ Ext [] z w' := fun z a1 c1 a2 c2 hz X1 h1 X2 h2 => rput7_ok (fun x h => Nat.lt_of_lt_of_le (hM2 x h) hz.size) (PL2.turn (.call0 hz)) (by omega) X1 rfl h1 X2 rfl h2 T.rise
      refine W_strz (.two [0, 1, 3, 4, 7, 8] 2 (.two [] 5 (.one [] 6 (.one [] 9 (.one [] 10 (.one [] 11 (.one [] 12 (.one [] 13 .stop)))))) 6 (.one [] 5 (.one [] 9 (.one [] 10 (.one [] 11 (.one [] 12 (.one [] 13 .stop))))))) 6 (.one [] 2 (.one [] 5 (.one [] 9 (.one [] 10 (.one [] 11 (.one [] 12 (.one [] 13 .stop)))))))) (fun z => Ext [] w2 z) mixed (by kernel_rfl) (Ext.drew [] w2) ?_
      refine tr_two rfl rfl rfl ?_
      refine t_move rfl (.int _ _) rfl ?_
      refine t_move rfl (.slice _ _ _) rfl ?_
      refine t_fieldAddr rfl fo_30_1_TrG3 rfl ?_
      first | refine t_ldb rfl ag_23 rfl (fun _ _ => Ctx.start _ []) (by first | exact at0 | exact at1 | exact at2 | exact at3 | exact at4 | exact at5 | exact at6 | exact at7 | exact at8 | exact at9) rfl ?_ | refine t_ld rfl ag_23 rfl (fun _ hx => (by rw [cell_bl (show _ = some (Bl 30 m.enc) from by rw [hx.block b7 (heap_lt hb72) (by simp)]; exact hb72)]; rfl)) ?_
      refine t_fieldAddr rfl fo_30_2_TrG3 rfl ?_
      first | refine t_ldb rfl ag_23 rfl (fun _ _ => Ctx.start _ []) (by first | exact at0 | exact at1 | exact at2 | exact at3 | exact at4 | exact at5 | exact at6 | exact at7 | exact at8 | exact at9) rfl ?_ | refine t_ld rfl ag_23 rfl (fun _ hx => (by rw [cell_bl (show _ = some (Bl 30 m.enc) from by rw [hx.block b7 (heap_lt hb72) (by simp)]; exact hb72)]; rfl)) ?_
      refine t_nil ?_
      have E := Ext.drew [] w2
      refine ⟨?_, ?_⟩
      · skip
        refine op_new8 rfl ?_
        rintro b1 wa Ea hn1 hb1
        have hs1a := E.size
        replace E := E.trans Ea
        refine op_nil (at_tr (E) ?_)
        refine tr_two rfl rfl rfl ?_
        refine t_nil ?_
        refine ⟨?_, ?_⟩
        · skip
          refine op_app8 rfl rfl rfl hb1 (hm2k.1.ext0 E) (by have := hm.kl; omega) ?_
          rintro a1 c1 wc Ec R1 hc1 hs1
          have hs3 := E.size
          have hf1 := app_fresh (w2 := w2) hs1 (by omega) hs3
          have hE1 := E
          replace E := E.then Ec (fun x h => .inr (by rw [List.mem_singleton.1 h]; omega))
          refine op_nil (at_tr (E) ?_)
          refine tr_one rfl rfl ?_
          refine t_nil ?_
          refine op_new8 rfl ?_
          rintro b2 wb Eb hn2 hb2
          have hs2a := E.size
          replace E := E.trans Eb
          have hne := app_ne R1 hn2
          replace R1 := R1.ext0 Eb
          refine op_nil (at_tr (E) ?_)
          refine tr_one rfl rfl ?_
          refine t_nil ?_
          refine op_app8 rfl rfl rfl hb2 (hm2v.1.ext0 E) (by have := hm.vl; omega) ?_
          rintro a2 c2 wd Ed R2 hc2 hs2
          have hs4 := E.size
          have hf2 := app_fresh (w2 := w2) hs2 (by omega) hs4
          replace R1 := app_keep R1 hne Ed
          replace E := E.then Ed (fun x h => .inr (by rw [List.mem_singleton.1 h]; omega))
          refine op_nil (at_tr (E) ?_)
          refine tr_one rfl rfl ?_
          refine t_nil ?_
          refine op_call rfl ca_41_TrG3 (fin _ _ _ _ _ E ⟨R1, hf1.imp id fun h hT => by have := hM2 _ hT; omega⟩ hc1 ⟨R2, hf2.imp id fun h hT => by have := hM2 _ hT; omega⟩ hc2) rfl ?_
          rintro v w6 ⟨a6, c6, rfl, P6, hx6⟩
          replace E := E.trans hx6
          refine op_nil (at_tr (E) ?_)
          refine tr_one rfl rfl ?_
          refine t_nil ?_
          refine op_assign rfl (.int _ _) rfl ?_
          refine op_nil (at_tr (E) ?_)
          refine tr_one rfl rfl ?_
          refine t_nil ?_
          refine op_assign rfl (.slice _ _ _) rfl ?_
          refine op_nil (at_tr (E) ?_)
          refine tr_one rfl rfl ?_
          refine t_nil ?_
          refine op_assign rfl (.bool _) rfl ?_
          refine op_nil (at_tr (E) ?_)
          refine tr_stop ?_
          refine W_ret (leave3 (v1 := (.int _ _)) (v2 := (.slice _ _ _)) (v3 := (.bool _)) rfl rfl rfl rfl rfl ?_)
          exact ⟨ct.2.1, a6, c6, ct.2.2.1, ct.2.2.2, F2, rfl, D2.call E, g02.trans (.call0 E), h4, P6⟩
        · skip
          refine op_new8 rfl ?_
          rintro b2 wb Eb hn2 hb2
          have hs2a := E.size
          replace E := E.trans Eb
          have h12 : b1 ≠ b2 := (by have := heap_lt hb1; omega)
          replace hb1 : wb.heap[b1]? = some (Bl 5 []) := (by rw [Eb.block b1 (heap_lt hb1) (by simp)]; exact hb1)
          refine op_nil (at_tr (E) ?_)
          refine tr_one rfl rfl ?_
          refine t_nil ?_
          refine op_app8 rfl rfl rfl hb1 (hm2k.1.ext0 E) (by have := hm.kl; omega) ?_
          rintro a1 c1 wc Ec R1 hc1 hs1
          have hs3 := E.size
          have hf1 := app_fresh (w2 := w2) hs1 (by omega) hs3
          have hE1 := E
          replace E := E.then Ec (fun x h => .inr (by rw [List.mem_singleton.1 h]; omega))
          have hne : m.s.key = [] ∨ (adr a1).block ≠ b2 := hs1.imp id (fun h => h.elim (fun h => by omega) fun h => by have := heap_lt hb2; omega)
          replace hb2 : wc.heap[b2]? = some (Bl 5 []) := (by rw [Ec.block b2 (heap_lt hb2) (by simpa using Ne.symm h12)]; exact hb2)
          refine op_nil (at_tr (E) ?_)
          refine tr_one rfl rfl ?_
          refine t_nil ?_
          refine op_app8 rfl rfl rfl hb2 (hm2v.1.ext0 E) (by have := hm.vl; omega) ?_
          rintro a2 c2 wd Ed R2 hc2 hs2
          have hs4 := E.size
          have hf2 := app_fresh (w2 := w2) hs2 (by omega) hs4
          replace R1 := app_keep R1 hne Ed
          replace E := E.then Ed (fun x h => .inr (by rw [List.mem_singleton.1 h]; omega))
          refine op_nil (at_tr (E) ?_)
          refine tr_one rfl rfl ?_
          refine t_nil ?_
          refine op_call rfl ca_41_TrG3 (fin _ _ _ _ _ E ⟨R1, hf1.imp id fun h hT => by have := hM2 _ hT; omega⟩ hc1 ⟨R2, hf2.imp id fun h hT => by have := hM2 _ hT; omega⟩ hc2) rfl ?_
          rintro v w6 ⟨a6, c6, rfl, P6, hx6⟩
          replace E := E.trans hx6
          refine op_nil (at_tr (E) ?_)
          refine tr_one rfl rfl ?_
          refine t_nil ?_
          refine op_assign rfl (.int _ _) rfl ?_
          refine op_nil (at_tr (E) ?_)
          refine tr_one rfl rfl ?_
          refine t_nil ?_
          refine op_assign rfl (.slice _ _ _) rfl ?_
          refine op_nil (at_tr (E) ?_)
          refine tr_one rfl rfl ?_
          refine t_nil ?_
          refine op_assign rfl (.bool _) rfl ?_
          refine op_nil (at_tr (E) ?_)
          refine tr_stop ?_
          refine W_ret (leave3 (v1 := (.int _ _)) (v2 := (.slice _ _ _)) (v3 := (.bool _)) rfl rfl rfl rfl rfl ?_)
          exact ⟨ct.2.1, a6, c6, ct.2.2.1, ct.2.2.2, F2, rfl, D2.call E, g02.trans (.call0 E), h4, P6⟩
      · skip
        refine op_new8 rfl ?_
        rintro b2 wb Eb hn2 hb2
        have hs2a := E.size
        replace E := E.trans Eb
        refine op_nil (at_tr (E) ?_)
        refine tr_one rfl rfl ?_
        refine t_nil ?_
        refine op_new8 rfl ?_
        rintro b1 wa Ea hn1 hb1
        have hs1a := E.size
        replace E := E.trans Ea
        have h12 : b1 ≠ b2 := (by have := heap_lt hb2; omega)
        replace hb2 : wa.heap[b2]? = some (Bl 5 []) := (by rw [Ea.block b2 (heap_lt hb2) (by simp)]; exact hb2)
        refine op_nil (at_tr (E) ?_)
        refine tr_one rfl rfl ?_
        refine t_nil ?_
        refine op_app8 rfl rfl rfl hb1 (hm2k.1.ext0 E) (by have := hm.kl; omega) ?_
        rintro a1 c1 wc Ec R1 hc1 hs1
        have hs3 := E.size
        have hf1 := app_fresh (w2 := w2) hs1 (by omega) hs3
        have hE1 := E
        replace E := E.then Ec (fun x h => .inr (by rw [List.mem_singleton.1 h]; omega))
        have hne : m.s.key = [] ∨ (adr a1).block ≠ b2 := hs1.imp id (fun h => h.elim (fun h => by omega) fun h => by have := heap_lt hb2; omega)
        replace hb2 : wc.heap[b2]? = some (Bl 5 []) := (by rw [Ec.block b2 (heap_lt hb2) (by simpa using Ne.symm h12)]; exact hb2)
        refine op_nil (at_tr (E) ?_)
        refine tr_one rfl rfl ?_
        refine t_nil ?_
        refine op_app8 rfl rfl rfl hb2 (hm2v.1.ext0 E) (by have := hm.vl; omega) ?_
        rintro a2 c2 wd Ed R2 hc2 hs2
        have hs4 := E.size
        have hf2 := app_fresh (w2 := w2) hs2 (by omega) hs4
        replace R1 := app_keep R1 hne Ed
        replace E := E.then Ed (fun x h => .inr (by rw [List.mem_singleton.1 h]; omega))
        refine op_nil (at_tr (E) ?_)
        refine tr_one rfl rfl ?_
        refine t_nil ?_
        refine op_call rfl ca_41_TrG3 (fin _ _ _ _ _ E ⟨R1, hf1.imp id fun h hT => by have := hM2 _ hT; omega⟩ hc1 ⟨R2, hf2.imp id fun h hT => by have := hM2 _ hT; omega⟩ hc2) rfl ?_
        rintro v w6 ⟨a6, c6, rfl, P6, hx6⟩
        replace E := E.trans hx6
        refine op_nil (at_tr (E) ?_)
        refine tr_one rfl rfl ?_
        refine t_nil ?_
        refine op_assign rfl (.int _ _) rfl ?_
        refine op_nil (at_tr (E) ?_)
        refine tr_one rfl rfl ?_
        refine t_nil ?_
        refine op_assign rfl (.slice _ _ _) rfl ?_
        refine op_nil (at_tr (E) ?_)
        refine tr_one rfl rfl ?_
        refine t_nil ?_
        refine op_assign rfl (.bool _) rfl ?_
        refine op_nil (at_tr (E) ?_)
        refine tr_stop ?_
        refine W_ret (leave3 (v1 := (.int _ _)) (v2 := (.slice _ _ _)) (v3 := (.bool _)) rfl rfl rfl rfl rfl ?_)
        exact ⟨ct.2.1, a6, c6, ct.2.2.1, ct.2.2.2, F2, rfl, D2.call E, g02.trans (.call0 E), h4, P6⟩

end Go.Proofs.YtbkadlngijkmmaaGreatDoor

/- Pages settle; a desk stands; whether there is too much of the steps. -/
namespace Go.Proofs.YtbkadlngijkmmaaGreatDoor
open Go.GV
theorem el_22_TrG4 : elemT Tryz.prog 22 = some 30 := by kernel_rfl
theorem fo_30_1_TrG4 : fieldO Tryz.prog 30 1 = some 1 := by kernel_rfl
theorem fo_30_2_TrG4 : fieldO Tryz.prog 30 2 = some 2 := by kernel_rfl
theorem sz_30_TrG4 : tsize Tryz.prog 30 = some 4 := by kernel_rfl
attribute [local irreducible] Wops W Wq Wt

/-! ### Settling -/
theorem settle_held (P : List Nat) (x : Nat) : ((P.map settleS)[x]? = some 1 ∨ (P.map settleS)[x]? = some 2) ↔ (P[x]? = some 1 ∨ P[x]? = some 2) := by
  rw [List.getElem?_map]
  cases P[x]? with
  | none => simp
  | some s =>
    simp only [Option.map_some, Option.some.injEq]
    unfold settleS
    split
    · omega
    · split
      · omega
      · exact Iff.rfl
theorem TreeAt.settle {fr : Nat} {A : Dev} {P : List Nat} {root : Int} {L : List Pr} (T : TreeAt fr A P root L) : TreeAt fr A (P.map settleS) root L := by
  obtain ⟨S, h1, h2, h3⟩ := T.lies
  exact ⟨⟨S, h1, h2, fun x => (h3 x).trans (settle_held P x).symm⟩, T.rise, T.ok⟩
theorem settle_count {P : List Nat} (hok : ∀ s ∈ P, s ≤ 3) : ∀ k, k ≤ P.length → (heldL P k).length + freeP ((P.map settleS).take k) = k
  | 0, _ => rfl
  | k + 1, hk => by
    have ih := settle_count hok k (by omega)
    obtain ⟨s, hs⟩ := get_some (l := P) (i := k) (by omega)
    have hs3 := hok s (List.mem_of_getElem? hs)
    have hq : (P.map settleS)[k]? = some (settleS s) := by rw [List.getElem?_map, hs]; rfl
    rw [heldL_succ, List.length_append, countP_snoc hq]
    have hb : heldB P k = (decide (s = 1) || decide (s = 2)) := by unfold heldB; rw [hs]; simp
    rw [hb]
    have h4 : s = 0 ∨ s = 1 ∨ s = 2 ∨ s = 3 := by omega
    rcases h4 with rfl | rfl | rfl | rfl
    · rw [if_neg (by decide), if_pos (by decide)]; simp only [List.length_nil]; omega
    · rw [if_pos (by decide), if_neg (by decide)]; simp only [List.length_cons, List.length_nil]; omega
    · rw [if_pos (by decide), if_neg (by decide)]; simp only [List.length_cons, List.length_nil]; omega
    · rw [if_neg (by decide), if_pos (by decide)]; simp only [List.length_nil]; omega
theorem settle_free {P S : List Nat} (hok : ∀ s ∈ P, s ≤ 3) (hnd : S.Nodup) (hS : ∀ x : Nat, x ∈ S ↔ P[x]? = some 1 ∨ P[x]? = some 2) : S.length + freeP (P.map settleS) = P.length := by
  have h1 := settle_count hok P.length (Nat.le_refl _)
  rw [List.take_of_length_le (by rw [List.length_map]; omega)] at h1
  have hperm : S.Perm (heldL P P.length) := by
    refine (List.perm_ext_iff_of_nodup hnd (List.nodup_range.filter _)).2 fun x => ?_
    rw [List.mem_filter, List.mem_range, hS]
    unfold heldB
    rw [Bool.or_eq_true, decide_eq_true_eq, decide_eq_true_eq]
    refine ⟨fun h => ⟨h.elim (fun h => (List.getElem?_eq_some_iff.1 h).1) fun h => (List.getElem?_eq_some_iff.1 h).1, h⟩, And.right⟩
  have h2 := hperm.length_eq
  omega
theorem rep0 {n x s : Nat} (h : (List.replicate n 0)[x]? = some s) : s = 0 := List.eq_of_mem_replicate (List.mem_of_getElem? h)
theorem new_tree (n : Nat) : TreeAt 10 (newD (10 + n)) (List.replicate n 0) (-1) [] := by
  refine ⟨⟨[], .inl ⟨rfl, rfl, rfl⟩, List.nodup_nil, fun x => ⟨(fun h => by cases h), fun h => ?_⟩⟩, List.Pairwise.nil, (fun p h => by cases h)⟩
  exfalso
  rcases h with h | h
  · have := rep0 h; omega
  · have := rep0 h; omega
theorem new_few7 (n : Nat) : Few (newD n) 0 := fun p h => by
  have h := List.eq_of_mem_replicate (show p ∈ List.replicate n (zeros, []) from h)
  rw [h]; exact Nat.le_refl _
theorem new_free (n : Nat) : freeP (List.replicate n 0) = n := by
  unfold freeP
  rw [List.countP_replicate]
  exact if_pos (by decide)
theorem stepL_len {s : St7} {L : List Pr} (h : Rising L) : (stepL s L).length ≤ L.length + 1 := by
  unfold stepL
  split
  · split
    · exact Nat.le_succ_of_le (cutP_len _ _)
    · omega
  · split
    · exact putP_len _ _ _ h
    · omega

/-! ### A desk that stands -/
structure Std (w0 w : World) (bx bt bd bp ba n : Nat) (root : Int) (L : List Pr) (i : Nat) (A : Dev) (P : List Nat) (F : Mut) : Prop where
  D : Dk w bx bt bd bp ba A P F
  T : TreeAt 10 A P root L
  on : A.on = true
  left : A.left = -1
  num : P.length = n
  blen : A.B.length = 10 + n
  few : Few A (40 * i)
  li : L.length ≤ i
  new : ∀ x, TM F ba bt bp [] x → w0.heap.size ≤ x
  hx : Ext [] w0 w
section
variable {w0 w w' : World} {bx bt bd bp ba n : Nat} {root : Int} {L : List Pr} {i : Nat} {A : Dev} {P : List Nat} {F : Mut}
theorem Std.call (s : Std w0 w bx bt bd bp ba n root L i A P F) (hx : Ext [] w w') : Std w0 w' bx bt bd bp ba n root L i A P F :=
  ⟨s.D.call hx, s.T, s.on, s.left, s.num, s.blen, s.few, s.li, s.new, s.hx.trans hx⟩
theorem Std.hl (s : Std w0 w bx bt bd bp ba n root L i A P F) : 10 + P.length ≤ A.B.length := by rw [s.num, s.blen]; exact Nat.le_refl _
theorem Std.settle (s : Std w0 w bx bt bd bp ba n root L i A P F) (h : PgAt w' bp ba (P.map settleS)) (hx : Ext [ba] w w') : Std w0 w' bx bt bd bp ba n root L i A (P.map settleS) F ∧ Grown (TM F ba bt bp []) (TM F ba bt bp []) w w' := by
  obtain ⟨h1, h2⟩ := s.D.T.page h hx
  exact ⟨⟨s.D.step h1 h2, s.T.settle, s.on, s.left, by rw [List.length_map]; exact s.num, s.blen, s.few, s.li, s.new, h2.1.new s.hx s.new⟩, h2⟩
theorem Std.told (s : Std w0 w bx bt bd bp ba n root L i A P F) (hn : n ≤ 2000) : ∃ S, Told 10 A P root L S ∧ S.Nodup ∧ (∀ x : Nat, x ∈ S ↔ P[x]? = some 1 ∨ P[x]? = some 2) := s.T.told s.on s.hl (by rw [s.num]; exact hn)
theorem Std.free (s : Std w0 w bx bt bd bp ba n root L i A P F) (hn : n ≤ 2000) : n ≤ freeP (P.map settleS) + 2 * i := by
  obtain ⟨S, td, hnd, hS⟩ := s.told hn
  have h1 := settle_free s.D.T.pg.ok hnd hS
  have h2 := td.len
  have h3 := s.li
  have h4 := s.num
  omega
theorem Std.step {root' : Int} {L' : List Pr} {A' : Dev} {P' : List Nat} {F' : Mut} (s : Std w0 w bx bt bd bp ba n root L i A P F) (D' : Dk w' bx bt bd bp ba A' P' F') (g : Grown (TM F ba bt bp []) (TM F' ba bt bp []) w w') (h : Stepped 10 A P root' L' A' P' (40 * i + 40)) (hl : L'.length ≤ L.length + 1) :
    Std w0 w' bx bt bd bp ba n root' L' (i + 1) A' P' F' := by
  obtain ⟨T', af, on', few'⟩ := h
  refine ⟨D', T', on', af.left s.left, af.len.trans s.num, af.blen.trans s.blen, few'.mono (by omega), ?_, fun x hx => ?_, g.1.new s.hx s.new⟩
  · have := s.li; omega
  · exact (g.2 x hx).elim (s.new x) fun h => Nat.le_trans s.hx.size h
theorem Std.does {t : St7} {v : Value} (s : Std w0 w bx bt bd bp ba n root L i A P F) (h : Does w bx bt bd bp ba A P F (stepL t L) (40 * i) v w') :
    ∃ root' a' c' A' P' F', v = .tuple #[.int .i64 root', .slice a' (stepL t L).length c', .bool true] ∧ Std w0 w' bx bt bd bp ba n root' (stepL t L) (i + 1) A' P' F' ∧ Prs w' (TM F' ba bt bp []) a' (stepL t L).length c' (stepL t L) ∧ Grown (TM F ba bt bp []) (TM F' ba bt bp []) w w' ∧ After 10 A P A' P' := by
  obtain ⟨root', a', c', A', P', F', hv, D', g, st, PL'⟩ := h.ex
  exact ⟨root', a', c', A', P', F', hv, s.step D' g st (stepL_len s.T.rise), PL', g, st.aft⟩
/-- What is put. -/
theorem Std.put (s : Std w0 w bx bt bd bp ba n root L i A P F) (hn : n ≤ 2000) (hi : i ≤ 1000) (hfree : 24 ≤ freeP P) {ka va : Option Addr} {kc vc : Nat} {key val : Byt} (Rk : Rdx w (TM F ba bt bp []) ka key) (Rv : Rdx w (TM F ba bt bp []) va val) (hkc : key.length ≤ kc) (hvc : val.length ≤ vc) (hk : rightK key.length val.length = true) :
    Ret Tryz.prog 26 #[ptr bt, .int .i64 root, .slice ka key.length kc, .slice va val.length vc] w fun v w' => ∃ root' A' P' F', v = .tuple #[.int .i64 root', .int .i64 0] ∧ Std w0 w' bx bt bd bp ba n root' (putP L key val) (i + 1) A' P' F' ∧ After 10 A P A' P' ∧ Grown (TM F ba bt bp []) (TM F' ba bt bp []) w w' := by
  obtain ⟨S, td, -, -⟩ := s.told hn
  have hlo := td.rlo; have hhi := td.rhi; have hnum := s.num
  have hkl : key.length ≤ 32 := by unfold rightK at hk; simp only [Bool.and_eq_true, decide_eq_true_eq] at hk; omega
  have hgood := put_good (key := key) (val := val) s.T s.on s.hl (by omega) s.left hfree s.few
  rcases hgood with ⟨h, _⟩ | ⟨_, h1, h4⟩
  · rw [hk] at h; cases h
  · refine (put8_ok (by omega) s.D.T root (by omega) (by omega) ka va kc vc _ _ key val Rk Rv rfl rfl hkc hvc (by omega) s.few (by omega) (by rw [h1]; decide)).mono fun v w' ⟨F', hv, T', g⟩ => ?_
    rw [h1] at hv
    exact ⟨_, _, _, F', hv, s.step (s.D.step T' g) g h4 (putP_len _ _ _ s.T.rise), h4.aft, g⟩
/-- What is cut. -/
theorem Std.cut (s : Std w0 w bx bt bd bp ba n root L i A P F) (hn : n ≤ 2000) (hi : i ≤ 1000) (hfree : 24 ≤ freeP P) {ka : Option Addr} {kc : Nat} {key : Byt} (Rk : Rdx w (TM F ba bt bp []) ka key) (hk : rightK key.length 0 = true) :
    Ret Tryz.prog 27 #[ptr bt, .int .i64 root, .slice ka key.length kc] w fun v w' => ∃ root' A' P' F', v = .tuple #[.int .i64 root', .bool (getP L key).isSome, .int .i64 0] ∧ Std w0 w' bx bt bd bp ba n root' (cutP L key) (i + 1) A' P' F' ∧ After 10 A P A' P' ∧ ((getP L key).isSome = false → root' = root) ∧ Grown (TM F ba bt bp []) (TM F' ba bt bp []) w w' := by
  obtain ⟨S, td, -, -⟩ := s.told hn
  have hlo := td.rlo; have hhi := td.rhi; have hnum := s.num
  have hkl : key.length ≤ 32 := by unfold rightK at hk; simp only [Bool.and_eq_true, decide_eq_true_eq] at hk; omega
  have hgood := cut_good (key := key) s.T s.on s.hl (by omega) s.left hfree s.few
  rcases hgood with ⟨h, _⟩ | ⟨_, h1, h2, h3, h4⟩
  · rw [hk] at h; cases h
  · refine (cut8_ok (by omega) s.D.T root (by omega) (by omega) ka kc _ key Rk rfl (by omega) s.few (by omega) (by rw [h1]; decide)).mono fun v w' ⟨F', hv, T', g⟩ => ?_
    rw [h1, h2] at hv
    exact ⟨_, _, _, F', hv, s.step (s.D.step T' g) g h4 (Nat.le_succ_of_le (cutP_len _ _)), h4.aft, h3, g⟩
/-- What is there. -/
theorem Std.get (s : Std w0 w bx bt bd bp ba n root L i A P F) (hn : n ≤ 2000) (hi : i ≤ 1000) {ka : Option Addr} {kc : Nat} {key : Byt} (Rk : Rd w ka 1 B8 key) :
    Ret Tryz.prog 17 #[ptr bt, .int .i64 root, .slice ka key.length kc] w fun v w' => ∃ va vc u b e, v = .tuple #[.slice va (List.length u) vc, .bool b, .int .i64 e] ∧ Ext [] w w' ∧ Rdx w' (TM F ba bt bp []) va u ∧ (rightK key.length 0 = true → e = 0 ∧ b = (getP L key).isSome ∧ u = (getP L key).getD []) := by
  obtain ⟨S, td, -, -⟩ := s.told hn
  have hlo := td.rlo; have hhi := td.rhi; have hnum := s.num
  have hg := get_good (key := key) s.T s.on s.hl (by omega)
  refine (get7_ok s.D.T (by omega) root ⟨by omega, by omega⟩ ka kc _ key Rk rfl s.few (by omega)).mono fun v w' ⟨va, vc, u, hv, hx, X, hc, hu⟩ => ?_
  refine ⟨va, vc, u, _, _, hv, hx, ⟨X.1, X.2.imp id fun h hm => h (s.D.T.mlt _ hm)⟩, fun hk => ?_⟩
  rw [hu, hg, if_pos hk]
  exact ⟨rfl, rfl, rfl⟩
end
/-- As long as none is settled, none is dropped. -/
theorem free_young {P P' : List Nat} (h : P'.map backS = P.map backS) (h0 : ∀ s ∈ P, s = 0) : freeP (P'.map settleS) = freeP P' := by
  have h1 : ∀ s ∈ P', backS s = 0 := fun s hs => by
    have h2 : backS s ∈ P'.map backS := List.mem_map_of_mem hs
    rw [h] at h2
    obtain ⟨t, ht, he⟩ := List.mem_map.1 h2
    rw [← he, h0 t ht]; rfl
  unfold freeP
  rw [List.countP_map]
  refine List.countP_congr fun s hs => ?_
  have h3 := h1 s hs
  unfold backS at h3
  simp only [Function.comp_apply, decide_eq_true_eq]
  unfold settleS
  split at h3
  · rename_i h4; subst h4; decide
  · split at h3
    · cases h3
    · subst h3; decide

/-! ### Steps that are given -/
structure Sm.In (w : World) (m : Sm) : Prop where
  k : Rd w m.ka 1 B8 m.s.key
  v : Rd w m.va 1 B8 m.s.val
  kc : m.s.key.length ≤ m.kc
  vc : m.s.val.length ≤ m.vc
theorem Rdx.of0 {w0 w : World} {M : Mut} {a : Option Addr} {l : Byt} (R : Rd w0 a 1 B8 l) (hx : Ext [] w0 w) (hM : ∀ x, M x → w0.heap.size ≤ x) : Rdx w M a l := by
  refine ⟨R.ext0 hx, ?_⟩
  rcases rd_ltN R (by decide) (fun _ _ => rfl) with h | h
  · exact .inl h
  · exact .inr fun hm => by have := hM _ hm; omega
theorem Sm.In.ok {w0 w : World} {M : Mut} {m : Sm} (h : m.In w0) (hk : m.s.key.length ≤ 200) (hv : m.s.val.length ≤ 500) (hx : Ext [] w0 w) (hM : ∀ x, M x → w0.heap.size ≤ x) : m.Ok w M :=
  ⟨.of0 h.k hx hM, .of0 h.v hx hM, h.kc, h.vc, hk, hv⟩
def smallS (m : Sm) : Prop := m.s.key.length ≤ 200 ∧ m.s.val.length ≤ 500
def bigS (m : Sm) : Bool := decide (200 < m.s.key.length) || decide (500 < m.s.val.length)
def heavy7B (l : List Sm) : Bool := (l.take 500).any bigS || decide (300 < l.length)
theorem bigS_small {m : Sm} (h : bigS m = false) : smallS m := by
  unfold bigS at h
  simp only [Bool.or_eq_false_iff, decide_eq_false_iff_not] at h
  exact ⟨by omega, by omega⟩
theorem light7 {l : List Sm} (h : heavy7B l = false) : l.length ≤ 300 ∧ ∀ m ∈ l, smallS m := by
  unfold heavy7B at h
  rw [Bool.or_eq_false_iff] at h
  have hl : l.length ≤ 300 := by have := of_decide_eq_false h.2; omega
  rw [List.take_of_length_le (by omega), List.any_eq_false] at h
  exact ⟨hl, fun m hm => bigS_small (by simpa using h.1 m hm)⟩
theorem heavy7_ok (a : Option Addr) (c : Nat) (l : List Sm) (w : World) (R : Rd w a 4 Sm.enc l) : Ret Tryz.prog 12 #[.slice a l.length c] w fun v w' => v = .bool (heavy7B l) ∧ w = w' := by
  obtain ⟨w0, rfl⟩ : ∃ w0, w0 = w := ⟨_, rfl⟩
  refine ret_of_W (fn := Tryz.f12) Tryz.func12 rfl [.slice a l.length c] rfl (by kernel_rfl) ?_
  refine W_rseq ?_
  refine op_assign rfl (.bool _) rfl ?_
  refine op_nil (at_then ?_)
  refine W_seq ?_
  refine W_rseq ?_
  refine op_assign rfl (.int _ _) rfl ?_
  refine op_nil (at_then ?_)
  refine W_block ?_
  refine W_loop 1073741820 (α := Nat) (fun i => [(3, .int .i64 (i : Int))]) (fun i w' => i ≤ l.length ∧ i ≤ 500 ∧ w0 = w' ∧ ∀ j m, j < i → l[j]? = some m → bigS m = false) (fun i => 500 - i) 0 rfl ?_ ?_ ?_
  · exact ⟨rfl, trivial⟩
  · exact ⟨Nat.zero_le _, Nat.zero_le _, rfl, fun j m h => absurd h (Nat.not_lt_zero _)⟩
  · rintro i j w ⟨hi, hi5, rfl, hs⟩
    refine W_seq ?_
    refine W_rseq (Wops_join (α := Unit) 4080 (fun _ => [(11, .bool (decide (i < l.length) && decide (i < 500)))]) (fun _ w' => w0 = w') rfl ?_ ?_)
    · refine op_move rfl (.int _ _) rfl ?_
      refine op_move rfl (.slice _ _ _) rfl ?_
      refine op_len rfl el_22_TrG4 rfl ?_
      refine op_lss rfl rfl rfl ?_
      refine op_move rfl (.bool _) rfl ?_
      refine Wops_split 8 rfl ?_ ?_
      · intro h1
        replace h1 := dec_t h1
        refine op_move rfl (.int _ _) rfl ?_
        refine op_lss rfl rfl rfl ?_
        refine op_pick1 rfl rfl (.bool _) rfl ?_
        refine op_nil ?_
        exact ⟨rfl, (), rfl, ⟨congrArg Value.bool (by rw [Bool.eq_iff_iff]; simp_all; try omega), trivial⟩, rfl⟩
      · intro h2
        replace h2 := dec_f h2
        refine op_skip rfl ?_
        refine op_skip rfl ?_
        refine op_pick0 rfl rfl (.bool _) rfl ?_
        refine op_nil ?_
        exact ⟨rfl, (), rfl, ⟨congrArg Value.bool (by rw [Bool.eq_iff_iff]; simp_all; try omega), trivial⟩, rfl⟩
    rintro - j11 w rfl
    refine W_cond _ rfl ?_ ?_
    · intro h1
      simp only [Bool.and_eq_true, decide_eq_true_eq] at h1
      obtain ⟨m, hm⟩ := get_some (l := l) (i := i) (by omega)
      refine W_skip (at_then ?_)
      refine W_seq ?_
      refine W_block ?_
      refine W_rseq (Wops_join (α := Unit) 1073725440 (fun _ => [(29, .bool (bigS m))]) (fun _ w' => w0 = w') rfl ?_ ?_)
      · refine op_move rfl (.slice _ _ _) rfl ?_
        refine op_move rfl (.int _ _) rfl ?_
        first | refine op_indexRd R rfl el_22_TrG4 sz_30_TrG4 rfl rfl (by omega) (by omega) (by first | rfl | omega) ?_ | refine op_indexAddr rfl el_22_TrG4 sz_30_TrG4 rfl rfl (by omega) (by omega) ?_
        refine op_fieldAddr rfl fo_30_1_TrG4 rfl ?_
        first | refine op_ldb rfl ag_23 rfl H (by first | exact at0 | exact at1 | exact at2 | exact at3 | exact at4 | exact at5 | exact at6 | exact at7 | exact at8 | exact at9) rfl ?_ | refine op_ld rfl ag_23 rfl ((R.fld hm rfl (j := 1) rfl)) ?_ | refine op_ld rfl ag_23 rfl ((R.fld hm rfl (j := 2) rfl)) ?_
        refine op_len rfl el_23 rfl ?_
        refine op_gtr rfl rfl rfl ?_
        refine op_move rfl (.bool _) rfl ?_
        refine Wops_split 21 rfl ?_ ?_
        · intro h3
          replace h3 := dec_t h3
          refine op_skip rfl ?_
          refine op_skip rfl ?_
          refine op_skip rfl ?_
          refine op_skip rfl ?_
          refine op_skip rfl ?_
          refine op_skip rfl ?_
          refine op_skip rfl ?_
          refine op_pick1 rfl rfl (.bool _) rfl ?_
          refine op_nil ?_
          exact ⟨rfl, (), rfl, ⟨congrArg Value.bool (by unfold bigS; rw [Bool.eq_iff_iff]; simp_all; try omega), trivial⟩, rfl⟩
        · intro h4
          replace h4 := dec_f h4
          refine op_move rfl (.slice _ _ _) rfl ?_
          refine op_move rfl (.int _ _) rfl ?_
          first | refine op_indexRd R rfl el_22_TrG4 sz_30_TrG4 rfl rfl (by omega) (by omega) (by first | rfl | omega) ?_ | refine op_indexAddr rfl el_22_TrG4 sz_30_TrG4 rfl rfl (by omega) (by omega) ?_
          refine op_fieldAddr rfl fo_30_2_TrG4 rfl ?_
          first | refine op_ldb rfl ag_23 rfl H (by first | exact at0 | exact at1 | exact at2 | exact at3 | exact at4 | exact at5 | exact at6 | exact at7 | exact at8 | exact at9) rfl ?_ | refine op_ld rfl ag_23 rfl ((R.fld hm rfl (j := 1) rfl)) ?_ | refine op_ld rfl ag_23 rfl ((R.fld hm rfl (j := 2) rfl)) ?_
          refine op_len rfl el_23 rfl ?_
          refine op_gtr rfl rfl rfl ?_
          refine op_pick0 rfl rfl (.bool _) rfl ?_
          refine op_nil ?_
          exact ⟨rfl, (), rfl, ⟨congrArg Value.bool (by unfold bigS; rw [Bool.eq_iff_iff]; simp_all; try omega), trivial⟩, rfl⟩
      rintro - j29 w rfl
      refine W_cond _ rfl ?_ ?_
      · intro h2
        refine W_rseq ?_
        refine op_assign rfl (.bool _) rfl ?_
        refine op_nil (at_then ?_)
        refine W_ret (ret_block (ret_then (ret_then (ret_block (ret_then (leave1 (v := (.bool _)) rfl rfl rfl ?_))))))
        exact ⟨congrArg Value.bool (by
          unfold heavy7B
          rw [List.any_eq_true.2 ⟨m, List.mem_of_getElem? (i := i) (by rw [List.getElem?_take, if_pos h1.2]; exact hm), h2⟩]; rfl), rfl⟩
      · intro h2
        refine W_skip (at_block (at_then ?_))
        refine W_region ?_
        refine op_move rfl (.int _ _) rfl ?_
        refine op_add_i64 rfl rfl rfl (by omega) (by omega) ?_
        refine op_assign rfl (.int _ _) rfl ?_
        refine op_nil (at_then ?_)
        refine ⟨i + 1, rfl, ⟨rfl, trivial⟩, ⟨by omega, by omega, rfl, fun k x hk hx => ?_⟩, by omega⟩
        rcases Nat.lt_or_ge k i with h | h
        · exact hs k x h hx
        · obtain rfl : k = i := by omega
          rw [hm] at hx
          injection hx with hx
          subst hx
          exact h2
    · intro h1
      simp only [Bool.and_eq_false_iff, decide_eq_false_iff_not] at h1
      refine W_exit (exit_then (exit_then (exit_here (at_then ?_))))
      refine W_rseq ?_
      refine op_move rfl (.slice _ _ _) rfl ?_
      refine op_len rfl el_22_TrG4 rfl ?_
      refine op_gtr rfl rfl rfl ?_
      refine op_assign rfl (.bool _) rfl ?_
      refine op_nil (at_then ?_)
      refine W_ret (leave1 (v := (.bool _)) rfl rfl rfl ?_)
      refine ⟨congrArg Value.bool ?_, rfl⟩
      unfold heavy7B
      rw [show (l.take 500).any bigS = false from ?_, Bool.false_or]
      · rw [Bool.eq_iff_iff]; simp only [decide_eq_true_eq]; omega
      · rw [List.any_eq_false]
        intro m hm
        obtain ⟨k, hk⟩ := List.getElem?_of_mem hm
        rw [List.getElem?_take] at hk
        split at hk
        · have := (List.getElem?_eq_some_iff.1 hk).1
          rw [hs k m (by omega) hk]; decide
        · cases hk

end Go.Proofs.YtbkadlngijkmmaaGreatDoor

/- Plain law of the tree: a root that was settled stands, whatever comes behind, and behind a crash. -/
namespace Go.Proofs.YtbkadlngijkmmaaGreatDoor
open Go.GV

/-- A root that was settled when all was sure: since then other pages alone have turned. -/
structure Sunk (A0 : Dev) (P0 : List Nat) (root : Int) (L : List Pr) (A : Dev) (P : List Nat) : Prop where
  T : TreeAt 10 A0 P0 root L
  back : P.map backS = P0
  blk : ∀ q, (∀ x : Nat, P0[x]? = some 0 → q ≠ 10 + x) → A.B.getD q (zeros, []) = A0.B.getD q (zeros, [])
  blen : A.B.length = A0.B.length
section
variable {A0 A A' : Dev} {P0 P P' : List Nat} {root : Int} {L : List Pr}
theorem Sunk.len (s : Sunk A0 P0 root L A P) : P.length = P0.length := by rw [← s.back, List.length_map]
/-- The pages below the root. -/
theorem Sunk.pages (s : Sunk A0 P0 root L A P) : ∃ S, Root (RD A0 10) root L S ∧ S.Nodup ∧ (∀ x : Nat, x ∈ S ↔ P0[x]? = some 1 ∨ P0[x]? = some 2) ∧ (∀ x ∈ S, x < P0.length) ∧ ∀ x ∈ S, A.B.getD (10 + x) (zeros, []) = A0.B.getD (10 + x) (zeros, []) := by
  obtain ⟨S, h1, h2, h3⟩ := s.T.lies
  refine ⟨S, h1, h2, h3, fun x hx => ((h3 x).1 hx).elim (fun h => (List.getElem?_eq_some_iff.1 h).1) fun h => (List.getElem?_eq_some_iff.1 h).1, fun x hx => s.blk _ fun y hy he => ?_⟩
  obtain rfl : x = y := by omega
  rcases (h3 x).1 hx with h | h
  · rw [hy] at h; cases h
  · rw [hy] at h; cases h
theorem Sunk.told (s : Sunk A0 P0 root L A P) (hon : A.on = true) (hl : 10 + P.length ≤ A.B.length) (hP : P.length ≤ 2000) : ∃ S, Told 10 A P root L S := by
  obtain ⟨S, h1, h2, h3, h4, h5⟩ := s.pages
  exact ⟨S, Go.Proofs.YtbkadlngijkmmaaGreatDoor.told (h1.frame fun x hx => by unfold RD; rw [h5 x hx]) hon hl hP h2 (fun x hx => by rw [s.len]; exact h4 x hx) s.T.rise⟩
theorem Sunk.after (s : Sunk A0 P0 root L A P) (af : After 10 A P A' P') : Sunk A0 P0 root L A' P' :=
  ⟨s.T, af.back.trans s.back, fun q hq => (af.blk q fun x hx => hq x (by rw [← s.back, List.getElem?_map, hx]; rfl)).trans (s.blk q hq), af.blen.trans s.blen⟩
theorem Sunk.start (T : TreeAt 10 A P root L) (h01 : ∀ s ∈ P, s = 0 ∨ s = 1) : Sunk A P root L A P := by
  refine ⟨T, ?_, fun q _ => rfl, rfl⟩
  have h : ∀ s ∈ P, backS s = id s := fun s hs => by rcases h01 s hs with rfl | rfl <;> rfl
  rw [List.map_congr_left h, List.map_id]
end

end Go.Proofs.YtbkadlngijkmmaaGreatDoor

/- Plain law of the tree: a device is off behind a change just if its error is that; what is sure stands behind a crash. -/
namespace Go.Proofs.YtbkadlngijkmmaaGreatDoor
open Go.GV

/-- Whether it is on tells the error. -/
def Tells (A : Dev) (e : Int) : Prop := A.on = !decide (e = 8)
theorem Tells.ok {A : Dev} (h : A.on = true) {e : Int} (he : e ≠ 8) : Tells A e := by
  unfold Tells
  rw [h, decide_eq_false he]; rfl
theorem Tells.on {A : Dev} {e : Int} (h : Tells A e) (he : e ≠ 8) : A.on = true := by
  unfold Tells at h
  rw [h, decide_eq_false he]; rfl
theorem Tells.off {A : Dev} (h : Tells A 8) : A.on = false := by
  unfold Tells at h
  rw [h]; rfl
end Go.Proofs.YtbkadlngijkmmaaGreatDoor

/- Plain law of the tree: what a put or a cut leaves on a few pages, whatever the device does. -/
namespace Go.Proofs.YtbkadlngijkmmaaGreatDoor
open Go.GV

/-- What a put or a cut leaves. -/
structure Res (A : Dev) (P : List Nat) (L' : List Pr) (e r' : Int) (A' : Dev) (P' : List Nat) (mx : Nat) : Prop where
  aft : After 10 A P A' P'
  few : Few A' mx
  out : (e = 0 ∧ A'.on = true ∧ TreeAt 10 A' P' r' L') ∨ (e = 8 ∧ A.left ≠ -1 ∧ A'.on = false ∧ P' = P) ∨ (e = 7 ∧ freeP P < 17 ∧ A'.on = true ∧ P' = P)
section
variable {A : Dev} {P : List Nat} {root : Int} {L : List Pr} {key val : Byt} {mx : Nat}
end

end Go.Proofs.YtbkadlngijkmmaaGreatDoor

/- Plain law of the tree: pairs are built: parts as full as goes. -/
namespace Go.Proofs.YtbkadlngijkmmaaGreatDoor
open Go.GV

/-- What a node has, each part as full as goes. -/
def fullG (i : Bool) : List It → List It → List (List It) → List (List It) × List It
  | [], part, l => (l, part)
  | x :: M, part, l => if 503 < totalI i part + sizeI i x then fullG i M [x] (l ++ [part]) else fullG i M (part ++ [x]) l
def lastI (q : List It) : List It := q.drop (q.length - 1)
def fixL (i : Bool) (l : List (List It)) (part : List It) : List (List It) :=
  if i = true ∧ part.length = 1 ∧ l ≠ [] then l.take (l.length - 1) ++ [(l.getLastD []).take ((l.getLastD []).length - 1)] ++ [lastI (l.getLastD []) ++ part] else l ++ [part]
def fullN (i : Bool) (M : List It) : List (List It) := fixL i (fullG i M [] []).1 (fullG i M [] []).2
def maxI (i : Bool) : Nat := if i = true then 38 else 164
/-- Parts, and one that is not full. -/
structure Pk (i : Bool) (l : List (List It)) (part : List It) : Prop where
  full : ∀ q ∈ l, totalI i q ≤ 503 ∧ 503 < totalI i q + maxI i
  le : totalI i part ≤ 503
  ne : l ≠ [] → part ≠ []
  num : 503 * l.length + totalI i part ≤ 2 * (totalI i l.flatten + totalI i part)
  sz : ∀ q ∈ l, ∀ x ∈ q, sizeI i x ≤ maxI i
section
variable {i : Bool} {l : List (List It)} {part M : List It}
theorem maxI_le (i : Bool) : maxI i ≤ 164 := by unfold maxI; split <;> omega
theorem total1 (i : Bool) (x : It) : totalI i [x] = sizeI i x := by rw [totalI_cons]; rfl
theorem pk_nil (i : Bool) : Pk i [] [] := ⟨(fun q h => by cases h), Nat.zero_le _, (fun h => absurd rfl h), Nat.le_refl _, fun q h => by cases h⟩
theorem fullG_spec : ∀ {M : List It} {part : List It} {l : List (List It)}, Pk i l part → (∀ x ∈ part, sizeI i x ≤ maxI i) → (∀ x ∈ M, sizeI i x ≤ maxI i) →
    Pk i (fullG i M part l).1 (fullG i M part l).2 ∧ (fullG i M part l).1.flatten ++ (fullG i M part l).2 = l.flatten ++ (part ++ M) ∧ (M ≠ [] → (fullG i M part l).2 ≠ [])
  | [], part, l, h, hp, hM => ⟨h, by simp [fullG], fun h => absurd rfl h⟩
  | x :: M, part, l, h, hp, hM => by
    have hx := hM x (List.mem_cons_self ..)
    have hm := maxI_le i
    have hM2 : ∀ y ∈ M, sizeI i y ≤ maxI i := fun y hy => hM y (List.mem_cons_of_mem _ hy)
    unfold fullG
    split
    · rename_i h1
      have hpk : Pk i (l ++ [part]) [x] := by
        refine ⟨fun q hq => ?_, by rw [total1]; omega, fun _ => by simp, ?_, fun q hq => ?_⟩
        · rcases List.mem_append.1 hq with hq | hq
          · exact h.full q hq
          · rw [List.mem_singleton.1 hq]; exact ⟨h.le, by omega⟩
        · have := h.num
          rw [List.length_append, List.length_singleton, List.flatten_append, totalI_append, total1, List.flatten_singleton]
          omega
        · rcases List.mem_append.1 hq with hq | hq
          · exact h.sz q hq
          · rw [List.mem_singleton.1 hq]; exact hp
      obtain ⟨a1, a2, a3⟩ := fullG_spec (M := M) hpk (fun y hy => by rw [List.mem_singleton.1 hy]; exact hx) hM2
      refine ⟨a1, by rw [a2]; simp, fun _ => ?_⟩
      cases M with
      | nil => simp [fullG]
      | cons y M => exact a3 (by simp)
    · rename_i h1
      have hpk : Pk i l (part ++ [x]) := by
        refine ⟨h.full, by rw [totalI_append, total1]; omega, fun _ => by simp, ?_, h.sz⟩
        have := h.num
        rw [totalI_append, total1]; omega
      obtain ⟨a1, a2, a3⟩ := fullG_spec (M := M) hpk (fun y hy => by
        rcases List.mem_append.1 hy with hy | hy
        · exact hp y hy
        · rw [List.mem_singleton.1 hy]; exact hx) hM2
      refine ⟨a1, by rw [a2]; simp, fun _ => ?_⟩
      cases M with
      | nil => simp [fullG]
      | cons y M => exact a3 (by simp)
theorem getLast_split (h : l ≠ []) : l = l.take (l.length - 1) ++ [l.getLastD []] := by
  have h1 := List.dropLast_concat_getLast h
  rw [List.dropLast_eq_take] at h1
  rw [List.getLastD_eq_getLast?, List.getLast?_eq_some_getLast h, Option.getD_some]
  exact h1.symm
theorem lastI_split (q : List It) : q.take (q.length - 1) ++ lastI q = q := List.take_append_drop ..
/-- Parts are as many as asked, as full as goes. -/
theorem full_spec (hM : Many i M) (hs : ∀ x ∈ M, sizeI i x ≤ maxI i) :
    (fullN i M).flatten = M ∧ (∀ a ∈ fullN i M, Many i a ∧ totalI i a ≤ 503) ∧ 1 ≤ (fullN i M).length ∧ 503 * ((fullN i M).length - 1) < 2 * totalI i M := by
  obtain ⟨h1, h2, h3⟩ := fullG_spec (M := M) (pk_nil i) (fun x h => by cases h) hs
  replace h3 := h3 hM.ne
  rw [List.flatten_nil, List.nil_append, List.nil_append] at h2
  obtain ⟨l, hl⟩ : ∃ l, l = (fullG i M [] []).1 := ⟨_, rfl⟩
  obtain ⟨part, hpt⟩ : ∃ part, part = (fullG i M [] []).2 := ⟨_, rfl⟩
  unfold fullN
  rw [← hl, ← hpt] at h1 h2 ⊢
  rw [← hpt] at h3
  have hsp : ∀ x ∈ part, sizeI i x ≤ maxI i := fun x hx => hs x (by rw [← h2]; exact List.mem_append_right _ hx)
  have htot : totalI i M = totalI i l.flatten + totalI i part := by rw [← h2, totalI_append]
  have hpp : 4 ≤ totalI i part := by have h5 := total_ge i part; have h6 := List.length_pos_iff.2 h3; omega
  have hnum := h1.num
  have hfat : ∀ q ∈ l, q ≠ [] := fun q hq e => by
    have h5 := (h1.full q hq).2; have h6 := maxI_le i
    rw [e] at h5
    have : totalI i [] = 0 := rfl
    omega
  unfold fixL
  split
  · rename_i hf
    obtain ⟨hi, hp1, hl0⟩ := hf
    subst hi
    have hsl := getLast_split hl0
    obtain ⟨q, hq⟩ : ∃ q, q = l.getLastD [] := ⟨_, rfl⟩
    rw [← hq] at hsl ⊢
    have hqm : q ∈ l := by rw [hsl]; exact List.mem_append_right _ (List.mem_singleton.2 rfl)
    have hqf := (h1.full q hqm)
    have hqs := total_max (inner := true) (m := 38) (l := q) (h1.sz q hqm)
    have h38 : maxI true = 38 := rfl
    have hql : 13 ≤ q.length := by
      rcases Nat.lt_or_ge q.length 13 with h5 | h5
      · have : 38 * q.length ≤ 38 * 12 := Nat.mul_le_mul_left _ (by omega)
        omega
      · exact h5
    have hla : (lastI q).length = 1 := by unfold lastI; rw [List.length_drop]; omega
    have hls : ∀ x ∈ lastI q ++ part, sizeI true x ≤ 38 := fun x hx => (List.mem_append.1 hx).elim (fun h => h1.sz q hqm x (List.mem_of_mem_drop h)) (hsp x)
    have hlen : l.length = (l.take (l.length - 1)).length + 1 := by
      have h5 := congrArg List.length hsl
      rw [List.length_append] at h5
      exact h5
    refine ⟨?_, fun a ha => ?_, ?_, ?_⟩
    · rw [← h2]
      conv => rhs; rw [hsl]
      rw [List.flatten_append, List.flatten_append, List.flatten_append, List.flatten_singleton, List.flatten_singleton, List.flatten_singleton, List.append_assoc, ← List.append_assoc (q.take _), lastI_split, List.append_assoc]
    · rcases List.mem_append.1 ha with ha | ha
      · rcases List.mem_append.1 ha with ha | ha
        · have ham := List.mem_of_mem_take ha
          have haf := h1.full a ham
          have has := total_max (inner := true) (m := 38) (l := a) (h1.sz a ham)
          refine ⟨?_, haf.1⟩
          show 2 ≤ a.length
          rcases Nat.lt_or_ge a.length 2 with h5 | h5
          · have : 38 * a.length ≤ 38 * 1 := Nat.mul_le_mul_left _ (by omega)
            omega
          · exact h5
        · rw [List.mem_singleton.1 ha]
          have h5 := totalI_append true (q.take (q.length - 1)) (lastI q)
          rw [lastI_split] at h5
          refine ⟨?_, by omega⟩
          show 2 ≤ _
          rw [List.length_take]; omega
      · rw [List.mem_singleton.1 ha]
        have h5 := total_max (inner := true) (m := 38) hls
        rw [List.length_append, hla, hp1] at h5
        refine ⟨?_, by omega⟩
        show 2 ≤ _
        rw [List.length_append, hla, hp1]; omega
    · simp
    · rw [List.length_append, List.length_append, List.length_singleton, List.length_singleton]; omega
  · rename_i hf
    refine ⟨by rw [List.flatten_append, List.flatten_singleton, h2], fun a ha => ?_, by simp, ?_⟩
    · rcases List.mem_append.1 ha with ha | ha
      · have haf := h1.full a ha
        refine ⟨?_, haf.1⟩
        unfold Many
        split
        · rename_i hi
          subst hi
          have has := total_max (inner := true) (m := 38) (l := a) (h1.sz a ha)
          have h38 : maxI true = 38 := rfl
          rcases Nat.lt_or_ge a.length 2 with h5 | h5
          · have : 38 * a.length ≤ 38 * 1 := Nat.mul_le_mul_left _ (by omega)
            omega
          · exact h5
        · exact hfat a ha
      · rw [List.mem_singleton.1 ha]
        refine ⟨?_, h1.le⟩
        unfold Many at hM ⊢
        split
        · rename_i hi
          rw [if_pos hi] at hM
          have h6 := List.length_pos_iff.2 h3
          rcases Nat.lt_or_ge part.length 2 with h5 | h5
          · by_cases hl0 : l = []
            · rw [hl0] at h2
              rw [← h2] at hM
              exact hM
            · exact absurd ⟨hi, by omega, hl0⟩ hf
          · exact h5
        · exact h3
    · rw [List.length_append, List.length_singleton]; omega
end

/-- Parts are written. -/
theorem putF_spec {fr h : Nat} {i : Bool} : ∀ {Hs : List (List It)} {c : Ch} {acc : List It} {L : List Pr} {S : List Nat}, Part (RD c.A fr) h i Hs.flatten L S → OkP L → Held c.P S → On fr c → (∀ a ∈ Hs, Many i a ∧ totalI i a ≤ 503) → c.A.left = -1 → Hs.length ≤ freeP c.P →
    ∃ t K S', CI fr c (putF fr i Hs c acc).2.1 t [] ∧ t.length = Hs.length ∧ (putF fr i Hs c acc).1 = 0 ∧ On fr (putF fr i Hs c acc).2.1 ∧ (putF fr i Hs c acc).2.2 = acc ++ K ∧ K.length = Hs.length ∧ Kids (Lies (RD (putF fr i Hs c acc).2.1.A fr) h) K L S' ∧ S'.Perm (S ++ t) ∧ Held (putF fr i Hs c acc).2.1.P S'
  | [], c, acc, L, S, hp, ho, hh, hn, hm, hl, hf => by
    have hLS : L = [] ∧ S = [] := by
      cases h with
      | zero =>
        obtain ⟨_, he, rfl⟩ := hp
        cases L with
        | nil => exact ⟨rfl, rfl⟩
        | cons _ _ => cases he
      | succ h => exact hp.2
    obtain ⟨rfl, rfl⟩ := hLS
    exact ⟨[], [], [], CI.refl _ _, rfl, rfl, hn, by simp [putF], rfl, ⟨rfl, rfl⟩, by simp, fun x hx => by cases hx⟩
  | a :: Hs, c, acc, L, S, hp, ho, hh, hn, hm, hl, hf => by
    rw [List.flatten_cons] at hp
    obtain ⟨La, Lb, Sa, Sb, rfl, rfl, pa, pb⟩ := hp.append
    have hoa : OkP La := fun p hp => ho p (List.mem_append_left _ hp)
    have hob : OkP Lb := fun p hp => ho p (List.mem_append_right _ hp)
    have hha : Held c.P Sa := hh.sub fun x hx => List.mem_append_left _ hx
    have hhb : Held c.P Sb := hh.sub fun x hx => List.mem_append_right _ hx
    obtain ⟨hma, hta⟩ := hm a (List.mem_cons_self ..)
    rw [List.length_cons] at hf
    obtain ⟨t, w1, w2, w3⟩ := part_wr pa hoa hha hn hma hta
    rcases w3 with ⟨h7, rfl, h8, h9, h10⟩ | h7
    · have hfr := w1.free
      rw [List.length_singleton] at hfr
      obtain ⟨t', K, S', v1, v2, v3, v4, v5, v6, v7, v8, v9⟩ := putF_spec (Hs := Hs) (acc := acc ++ [⟨keyOf0 a, [], takeK c.P⟩]) (pb.frame (w1.rd hhb)) hob (hhb.keep w1) h8 (fun b hb => hm b (List.mem_cons_of_mem _ hb)) (w1.left hl) (by omega)
      have hput : putF fr i (a :: Hs) c acc = putF fr i Hs (wrC fr c i a).2 (acc ++ [⟨keyOf0 a, [], takeK c.P⟩]) := by
        conv => lhs; unfold putF
        rw [if_pos h7]
      rw [hput]
      have hCI := w1.trans v1
      refine ⟨[takeK c.P] ++ t', ⟨keyOf0 a, [], takeK c.P⟩ :: K, (takeK c.P :: Sa) ++ S', hCI, by rw [List.length_append, v2]; simp; omega, v3, v4, by rw [v5]; simp, by simp [v6], ?_, ?_, ?_⟩
      · exact ⟨La, Lb, takeK c.P :: Sa, S', rfl, rfl, h9.frame (v1.rd (w1.held.app (hha.keep w1))), h10, rfl, v7⟩
      · have h1 : ((takeK c.P :: Sa) ++ S').Perm (([takeK c.P] ++ Sa) ++ (t' ++ Sb)) := List.Perm.append_left _ (v8.trans List.perm_append_comm)
        exact h1.trans (perm_front.trans List.perm_append_comm)
      · exact ((w1.held.app (hha.keep w1)).keep v1).app v9
    · exfalso
      rcases h7 with ⟨_, h7⟩ | ⟨_, h7⟩
      · exact h7 hl
      · omega

/-- How many nodes there are at most. -/
def mostG : Nat → Nat → Nat
  | 0, lv => lv
  | n + 1, lv => lv + if 1 < lv then mostG n (2 * lv * 38 / 503 + 1) else 0
/-- May a level be built? -/
def okF (c : Ch) (i : Bool) (M : List It) : Bool :=
  decide (M.length ≤ 100000) && (decide (c.tk.length + (fullN i M).length ≤ 50000) && ((M.all fun x => decide (x.key.length ≤ 65535) && (decide (x.val.length ≤ 65535) && (decide (x.page < 9223372036854775808) && decide (sizeI i x ≤ 503)))) && (fullN i M).all fun h => decide (h ≠ []) && decide (h.length ≤ 1000)))
/-- Levels are built, one upon another. -/
def buildC (fr : Nat) : Nat → Ch → Bool → List It → Int × Ch × Int
  | 0, c, _, _ => (99, c, -1)
  | n + 1, c, i, M =>
    if okF c i M = false then (99, c, -1)
    else if (putF fr i (fullN i M) c []).1 ≠ 0 then ((putF fr i (fullN i M) c []).1, (putF fr i (fullN i M) c []).2.1, -1)
    else if (putF fr i (fullN i M) c []).2.2.length = 1 then (0, (putF fr i (fullN i M) c []).2.1, (pageAt (putF fr i (fullN i M) c []).2.2 0 : Int))
    else buildC fr n (putF fr i (fullN i M) c []).2.1 true (putF fr i (fullN i M) c []).2.2
theorem mostG_ge (n lv : Nat) : lv ≤ mostG n lv := by
  cases n with
  | zero => exact Nat.le_refl _
  | succ n => unfold mostG; omega
theorem build_spec {fr : Nat} : ∀ {n h : Nat} {c : Ch} {i : Bool} {M : List It} {L : List Pr} {S : List Nat} (lv : Nat), lv ≤ n → n ≤ 1500 → Part (RD c.A fr) h i M L S → OkP L → Held c.P S → On fr c → Many i M → c.A.left = -1 → 2 * totalI i M / 503 + 1 ≤ lv → mostG n lv ≤ freeP c.P → c.tk.length + freeP c.P ≤ 5000 →
    ∃ t, CI fr c (buildC fr n c i M).2.1 t [] ∧ t.length ≤ mostG n lv ∧ (buildC fr n c i M).1 = 0 ∧ On fr (buildC fr n c i M).2.1 ∧ ∃ S', Root (RD (buildC fr n c i M).2.1.A fr) (buildC fr n c i M).2.2 L S' ∧ S'.Perm (S ++ t) ∧ Held (buildC fr n c i M).2.1.P S'
  | 0, h, c, i, M, L, S, lv, hlv, hn15, hp, ho, hh, hn, hm, hl, h3, hf, htk => by omega
  | n + 1, h, c, i, M, L, S, lv, hlv, hn15, hp, ho, hh, hn, hm, hl, h3, hf, htk => by
    have hx := hp.ok ho hh hn.few
    have hsz : ∀ x ∈ M, sizeI i x ≤ maxI i := fun x hx' => by
      obtain ⟨_, h4, h5⟩ := hx x hx'
      unfold maxI
      split
      · rename_i hi; exact h5 hi
      · exact h4
    obtain ⟨f1, f2, f3, f4⟩ := full_spec hm hsz
    have hklv : (fullN i M).length ≤ lv := by omega
    have hfl : lv ≤ mostG (n + 1) lv := mostG_ge _ _
    have hok : okF c i M = true := by
      have hM := total_ge i M
      unfold okF
      simp only [Bool.and_eq_true, decide_eq_true_eq, List.all_eq_true]
      refine ⟨by omega, by omega, fun x hx' => ?_, fun a ha => ?_⟩
      · obtain ⟨⟨h4, h5, h6, _⟩, h7, _⟩ := hx x hx'
        omega
      · have h4 := total_ge i a
        have h5 := (f2 a ha).2
        exact ⟨(f2 a ha).1.ne, by omega⟩
    obtain ⟨t, K, S', p1, p2, p3, p4, p5, p6, p7, p8, p9⟩ := putF_spec (Hs := fullN i M) (acc := []) (by rw [f1]; exact hp) ho hh hn f2 hl (by omega)
    rw [List.nil_append] at p5
    unfold buildC
    rw [if_neg (by rw [hok]; simp), if_neg (by rw [p3]; simp)]
    split
    · rename_i h1
      refine ⟨t, p1, by omega, rfl, p4, S', ?_, p8, p9⟩
      rw [p5] at h1 ⊢
      match K, h1 with
      | [z], _ =>
        obtain ⟨L1, L2, S1, S2, rfl, rfl, k1, k2, k3, rfl, rfl⟩ := p7
        rw [List.append_nil, List.append_nil]
        exact .inr ⟨h, z.page, rfl, k1⟩
    · rename_i h1
      rw [p5] at h1 ⊢
      have hK2 : 2 ≤ K.length := by omega
      have hlv2 : 1 < lv := by omega
      have hmg : mostG (n + 1) lv = lv + mostG n (2 * lv * 38 / 503 + 1) := by
        conv => lhs; unfold mostG
        rw [if_pos hlv2]
      rw [hmg] at hf ⊢
      have hfree := p1.free
      have htk2 : (putF fr i (fullN i M) c []).2.1.tk.length = c.tk.length + t.length := by rw [p1.tk, List.length_append]
      have hP1 : Part (RD (putF fr i (fullN i M) c []).2.1.A fr) (h + 1) true K L S' := ⟨rfl, p7⟩
      have hKs := total_max (inner := true) (m := 38) (l := K) fun x hx' => ((hP1.ok ho p9 p4.few) x hx').2.2 rfl
      have hle : 2 * totalI true K / 503 + 1 ≤ 2 * lv * 38 / 503 + 1 := by
        have h5 : 2 * totalI true K ≤ 2 * lv * 38 := by
          have : 38 * K.length ≤ 38 * lv := Nat.mul_le_mul_left _ (by omega)
          omega
        have := Nat.div_le_div_right (c := 503) h5
        omega
      obtain ⟨t', b1, b2, b3, b4, S'', b5, b6, b7⟩ := build_spec (n := n) (2 * lv * 38 / 503 + 1) (by omega) (by omega) hP1 ho p9 p4 (show 2 ≤ K.length from hK2) (p1.left hl) hle (by omega) (by omega)
      have hCI := p1.trans b1
      refine ⟨t ++ t', hCI, by rw [List.length_append]; omega, b3, b4, S'', b5, ?_, b7⟩
      rw [← List.append_assoc]
      exact b6.trans (p8.append_right _)
/-- Is a pair good where it stands? -/
def GoodP (L : List Pr) (i : Nat) : Prop := ∃ p, L[i]? = some p ∧ rightK p.1.length p.2.length = true ∧ ∀ q, 0 < i → L[i - 1]? = some q → ltB q.1 p.1
theorem good_all {L : List Pr} (h : ∀ i, i < L.length → GoodP L i) : OkP L ∧ Rising L := by
  refine ⟨fun p hp => ?_, ?_⟩
  · obtain ⟨i, hi⟩ := List.getElem?_of_mem hp
    obtain ⟨q, h1, h2, -⟩ := h i (List.getElem?_eq_some_iff.1 hi).1
    rw [hi] at h1
    cases h1
    unfold rightK at h2
    simp only [Bool.and_eq_true, decide_eq_true_eq] at h2
    exact ⟨h2.1, h2.2.1, h2.2.2⟩
  · have hadj : ∀ k, ∀ i, i + k + 1 < L.length → ∀ p q, L[i]? = some p → L[i + k + 1]? = some q → ltB p.1 q.1 := by
      intro k
      induction k with
      | zero =>
        intro i hi p q hp hq
        obtain ⟨r, h1, -, h3⟩ := h (i + 1) hi
        rw [show i + 0 + 1 = i + 1 from rfl, h1] at hq
        cases hq
        exact h3 p (by omega) (by rw [Nat.add_sub_cancel]; exact hp)
      | succ k ih =>
        intro i hi p q hp hq
        obtain ⟨m, hm⟩ := get_some (l := L) (i := i + k + 1) (by omega)
        obtain ⟨r, h1, -, h3⟩ := h (i + (k + 1) + 1) hi
        rw [h1] at hq
        cases hq
        exact ltB_trans (ih i (by omega) p m hp hm) (h3 m (by omega) (by rw [show i + (k + 1) + 1 - 1 = i + k + 1 by omega]; exact hm))
    unfold Rising
    rw [List.pairwise_iff_getElem]
    intro i j hi hj hij
    exact hadj (j - i - 1) i (by omega) _ _ (List.getElem?_eq_getElem hi) (by rw [show i + (j - i - 1) + 1 = j by omega]; exact List.getElem?_eq_getElem hj)
def bytesP (L : List Pr) : Nat := (L.map fun p => 4 + p.1.length + p.2.length).sum
theorem total_leaf (L : List Pr) : totalI false (L.map leafI) = bytesP L := by
  induction L with
  | nil => rfl
  | cons p L ih =>
    rw [List.map_cons, totalI_cons, ih]
    unfold bytesP
    rw [List.map_cons, List.sum_cons]
    rfl
/-- What is built on pages that are new. -/
structure Built (A : Dev) (P : List Nat) (L : List Pr) (e root : Int) (A' : Dev) (P' : List Nat) : Prop where
  ok : e = 0
  tree : TreeAt 10 A' P' root L
  on : A'.on = true
  left : A'.left = -1
  blen : A'.B.length = A.B.length
  len : P'.length = P.length
  cnt : ∃ S, Root (RD A' 10) root L S ∧ S.Nodup ∧ (∀ x : Nat, x ∈ S ↔ P'[x]? = some 1 ∨ P'[x]? = some 2) ∧ S.length ≤ mostG 1500 (2 * bytesP L / 503 + 1)
def bldC (A : Dev) (P : List Nat) (L : List Pr) : Int × Ch × Int := buildC 10 1500 ⟨A, P, [], []⟩ false (L.map leafI)
theorem mostG_le : ∀ {n m lv : Nat}, lv ≤ m → mostG n lv ≤ 2 * m
  | 0, m, lv, h => by show lv ≤ _; omega
  | n + 1, m, lv, h => by
    unfold mostG
    split
    · have := mostG_le (n := n) (m := lv / 2) (lv := 2 * lv * 38 / 503 + 1) (by omega)
      omega
    · omega
theorem built {n : Nat} {L : List Pr} (hn : n = 1500) (hL : L.length ≤ 1000) (ho : OkP L) (hr : Rising L) (hne : L ≠ []) :
    Built (newD (10 + n)) (List.replicate n 0) L (bldC (newD (10 + n)) (List.replicate n 0) L).1 (bldC (newD (10 + n)) (List.replicate n 0) L).2.2 (bldC (newD (10 + n)) (List.replicate n 0) L).2.1.A (overC (bldC (newD (10 + n)) (List.replicate n 0) L).2.1 0).P ∧ (bldC (newD (10 + n)) (List.replicate n 0) L).2.1.tk.length ≤ 1400 := by
  have hb : bytesP L ≤ 164 * L.length := by
    have : ∀ L : List Pr, OkP L → bytesP L ≤ 164 * L.length := by
      intro L
      induction L with
      | nil => intro _; exact Nat.zero_le _
      | cons p L ih =>
        intro ho
        obtain ⟨h1, h2, h3⟩ := ho p (List.mem_cons_self ..)
        have := ih fun q hq => ho q (List.mem_cons_of_mem _ hq)
        unfold bytesP at this ⊢
        rw [List.map_cons, List.sum_cons, List.length_cons]; omega
    exact this L ho
  have hfree : freeP (List.replicate n 0) = n := by
    unfold freeP
    rw [List.countP_replicate]
    exact if_pos (by decide)
  have hblen : (newD (10 + n)).B.length = 10 + n := List.length_replicate ..
  have hplen : (List.replicate n 0 : List Nat).length = n := List.length_replicate ..
  have hmost := mostG_le (n := 1500) (m := 653) (lv := 2 * bytesP L / 503 + 1) (by omega)
  obtain ⟨t, b1, b2, b3, b4, S', b5, b6, b7⟩ := build_spec (fr := 10) (n := 1500) (h := 0) (c := ⟨newD (10 + n), List.replicate n 0, [], []⟩) (i := false) (M := L.map leafI) (L := L) (S := []) (2 * bytesP L / 503 + 1) (by omega) (Nat.le_refl _) ⟨rfl, rfl, rfl⟩ ho (fun x h => by cases h) ⟨rfl, by dsimp only; omega, by dsimp only; omega⟩ (show L.map leafI ≠ [] from fun e => hne (List.map_eq_nil_iff.1 e)) rfl (by rw [total_leaf]; exact Nat.le_refl _) (by dsimp only; omega) (by dsimp only; rw [hfree]; show 0 + n ≤ 5000; omega)
  have hP : (overC (bldC (newD (10 + n)) (List.replicate n 0) L).2.1 0).P = (bldC (newD (10 + n)) (List.replicate n 0) L).2.1.P := by
    have hg : (bldC (newD (10 + n)) (List.replicate n 0) L).2.1.gn = [] := by
      show (buildC 10 1500 ⟨newD (10 + n), List.replicate n 0, [], []⟩ false (L.map leafI)).2.1.gn = []
      rw [b1.gn]; rfl
    show ((if (0 : Int) ≠ 0 then _ else (bldC (newD (10 + n)) (List.replicate n 0) L).2.1.gn).foldl dropP _) = _
    rw [if_neg (by simp), hg]
    rfl
  rw [hP]
  rw [List.nil_append] at b6
  have hS : ∀ x : Nat, x ∈ S' ↔ (bldC (newD (10 + n)) (List.replicate n 0) L).2.1.P[x]? = some 1 ∨ (bldC (newD (10 + n)) (List.replicate n 0) L).2.1.P[x]? = some 2 := fun x => by
    have h1 := b1.now x
    rw [b6.mem_iff]
    show _ ↔ (buildC 10 1500 ⟨newD (10 + n), List.replicate n 0, [], []⟩ false (L.map leafI)).2.1.P[x]? = some 1 ∨ (buildC 10 1500 ⟨newD (10 + n), List.replicate n 0, [], []⟩ false (L.map leafI)).2.1.P[x]? = some 2
    rw [h1]
    by_cases hx : x ∈ t
    · rw [if_pos hx]; exact ⟨fun _ => .inr rfl, fun _ => hx⟩
    · rw [if_neg hx]
      refine ⟨fun h => absurd h hx, fun h => ?_⟩
      have h0 : ∀ {s : Nat}, (List.replicate n 0)[x]? = some s → s = 0 := fun h => List.eq_of_mem_replicate (List.mem_of_getElem? h)
      rcases h with h | h
      · have := h0 h; omega
      · have := h0 h; omega
  have htk : (bldC (newD (10 + n)) (List.replicate n 0) L).2.1.tk.length ≤ 1400 := by
    show (buildC 10 1500 ⟨newD (10 + n), List.replicate n 0, [], []⟩ false (L.map leafI)).2.1.tk.length ≤ 1400
    rw [b1.tk]
    simp only [List.nil_append]
    omega
  exact ⟨⟨b3, ⟨⟨S', b5, b6.nodup_iff.2 b1.nd, hS⟩, hr, ho⟩, b4.on, b1.left rfl, b1.blen, b1.len, S', b5, b6.nodup_iff.2 b1.nd, hS, by rw [b6.length_eq]; exact b2⟩, htk⟩

end Go.Proofs.YtbkadlngijkmmaaGreatDoor
