/- Part 9 of the proof. -/
import Derived.Test.YtbkadlngijkmmaaGreatDoorPart8
import Derived.Test.YtbkadlngijkmmaaGreatDoorPart2
import Derived.ProofKit
import Derived.Deep.Slices
import Derived.OpenShut
import Derived.Test.YtbkadlngijkmmaaGreatDoorPart3
import Derived.Test.YtbkadlngijkmmaaGreatDoorCards
import Derived.Test.YtbkadlngijkmmaaGreatDoorTie
import Derived.WalkKit
import Derived.Deep.DeepHandedRow
/- Plain law of the tree: where a leaf has a key; a pair is put, or cut; what is got. -/
namespace Go.Proofs.YtbkadlngijkmmaaGreatDoor
open Go.GV

def RiseI (M : List It) : Prop := M.Pairwise fun x y => ltB x.key y.key
theorem rise_at {M : List It} (hr : RiseI M) {i j : Nat} {x y : It} (hx : M[i]? = some x) (hy : M[j]? = some y) (h : i < j) : ltB x.key y.key := by
  obtain ⟨h1, h2⟩ := List.getElem?_eq_some_iff.1 hx
  obtain ⟨h3, h4⟩ := List.getElem?_eq_some_iff.1 hy
  have := List.pairwise_iff_getElem.1 hr i j h1 h3 h
  rwa [h2, h4] at this
theorem bs_spec {M : List It} (hr : RiseI M) (key : Byt) : ∀ (n i j : Nat), j - i ≤ n → i ≤ j → j ≤ M.length → (∀ (k : Nat) (x : It), k < i → M[k]? = some x → ltB x.key key) → (∀ (k : Nat) (x : It), j ≤ k → M[k]? = some x → ¬ ltB x.key key) →
    (∀ (k : Nat) (x : It), k < bsN M key i j → M[k]? = some x → ltB x.key key) ∧ (∀ (k : Nat) (x : It), bsN M key i j ≤ k → M[k]? = some x → ¬ ltB x.key key)
  | 0, i, j, h, hij, hj, h1, h2 => by
    rw [bsN_end (by omega)]
    exact ⟨h1, fun k x hk => h2 k x (by omega)⟩
  | n + 1, i, j, h, hij, hj, h1, h2 => by
    by_cases hlt : i < j
    · rw [bsN_lt hlt]
      obtain ⟨x, hx⟩ := get_some (l := M) (i := (i + j) / 2) (by omega)
      rw [hx]
      simp only [Option.map_some, Option.getD_some]
      by_cases hc : cmpB x.key key < 0
      · rw [if_pos hc]
        have hlx := cmpB_lt.1 hc
        refine bs_spec hr key n _ j (by omega) (by omega) hj (fun k y hk hy => ?_) h2
        rcases Nat.lt_or_ge k ((i + j) / 2) with h3 | h3
        · exact ltB_trans (rise_at hr hy hx h3) hlx
        · obtain rfl : k = (i + j) / 2 := by omega
          rw [hx] at hy; cases hy; exact hlx
      · rw [if_neg hc]
        have hlx : ¬ ltB x.key key := fun h => hc (cmpB_lt.2 h)
        refine bs_spec hr key n i _ (by omega) (by omega) (by omega) h1 fun k y hk hy => ?_
        rcases Nat.eq_or_lt_of_le hk with h3 | h3
        · subst h3
          rw [hx] at hy; cases hy; exact hlx
        · exact fun h4 => hlx (ltB_trans (rise_at hr hx hy h3) h4)
    · rw [bsN_end (by omega)]
      exact ⟨h1, fun k x hk => h2 k x (by omega)⟩
theorem place_spec {M : List It} (hr : RiseI M) (key : Byt) : (∀ x ∈ M.take (placeN M key), ltB x.key key) ∧ (∀ x ∈ M.drop (placeN M key), ¬ ltB x.key key) := by
  obtain ⟨h1, h2⟩ := bs_spec hr key _ 0 M.length (Nat.le_refl _) (Nat.zero_le _) (Nat.le_refl _) (fun k x hk => absurd hk (Nat.not_lt_zero _)) (fun k x hk hx => by have := (List.getElem?_eq_some_iff.1 hx).1; omega)
  constructor
  · intro x hx
    obtain ⟨k, hk⟩ := List.getElem?_of_mem hx
    have := (List.getElem?_eq_some_iff.1 hk).1
    rw [List.length_take] at this
    rw [List.getElem?_take_of_lt (by omega)] at hk
    exact h1 k x (by show k < placeN M key; omega) hk
  · intro x hx
    obtain ⟨k, hk⟩ := List.getElem?_of_mem hx
    rw [List.getElem?_drop] at hk
    exact h2 _ x (by show placeN M key ≤ _; omega) hk
theorem rise_leaf {L : List Pr} (h : Rising L) : RiseI (L.map leafI) := List.pairwise_map.2 h
/-- A rising list at a key: what is below, what is above, whether it is there. -/
theorem place_split {L : List Pr} (hr : Rising L) (key : Byt) : ∃ A B : List Pr, (∀ p ∈ A, ltB p.1 key) ∧ (∀ p ∈ B, ltB key p.1) ∧ (L.map leafI).take (placeN (L.map leafI) key) = A.map leafI ∧
    ((placeB (L.map leafI) key = true ∧ ∃ v, L = A ++ (key, v) :: B ∧ (L.map leafI).drop (placeN (L.map leafI) key + 1) = B.map leafI ∧ (L.map leafI)[placeN (L.map leafI) key]? = some (leafI (key, v))) ∨
     (placeB (L.map leafI) key = false ∧ L = A ++ B ∧ (L.map leafI).drop (placeN (L.map leafI) key) = B.map leafI)) := by
  obtain ⟨h1, h2⟩ := place_spec (rise_leaf hr) key
  obtain ⟨k, hk⟩ : ∃ k, k = placeN (L.map leafI) key := ⟨_, rfl⟩
  have hle : k ≤ L.length := by have := placeN_le (L.map leafI) key; rw [List.length_map] at this; omega
  rw [← hk] at h1 h2 ⊢
  rw [← List.map_take] at h1 ⊢
  rw [← List.map_drop] at h2
  have hA : ∀ p ∈ L.take k, ltB p.1 key := fun p hp => h1 _ (List.mem_map.2 ⟨p, hp, rfl⟩)
  have hB : ∀ p ∈ L.drop k, ¬ ltB p.1 key := fun p hp => h2 _ (List.mem_map.2 ⟨p, hp, rfl⟩)
  have hsp := (List.take_append_drop k L).symm
  cases hd : L.drop k with
  | nil =>
    rw [hd] at hsp
    have hlen : L.length ≤ k := by have := congrArg List.length hd; simp at this; omega
    refine ⟨L.take k, [], hA, (fun p hp => by cases hp), rfl, .inr ⟨?_, hsp, ?_⟩⟩
    · unfold placeB
      rw [← hk, List.getElem?_eq_none (by rw [List.length_map]; exact hlen)]
    · rw [← List.map_drop, hd]
  | cons q B =>
    rw [hd] at hsp hB
    have hq0 : L[k]? = some q := by
      have : (L.drop k)[0]? = some q := by rw [hd]; rfl
      rw [List.getElem?_drop] at this; exact this
    have hg : (L.map leafI)[k]? = some (leafI q) := by rw [List.getElem?_map, hq0]; rfl
    have hrB : Rising (q :: B) := by rw [hsp] at hr; exact (Rising.append.1 hr).2.1
    have hqB := (List.pairwise_cons.1 hrB).1
    have hdr : L.drop (k + 1) = B := by rw [← List.drop_drop, hd]; rfl
    rcases ltB_tri q.1 key with h3 | h3 | h3
    · exact absurd h3 (hB q (List.mem_cons_self ..))
    · refine ⟨L.take k, B, hA, fun p hp => h3 ▸ hqB p hp, rfl, .inl ⟨?_, q.2, ?_, ?_, ?_⟩⟩
      · unfold placeB
        rw [← hk, hg]
        exact decide_eq_true (by show cmpB q.1 key = 0; rw [h3]; exact cmpB_self _)
      · rw [← h3]; exact hsp
      · rw [← List.map_drop, hdr]
      · rw [hg, ← h3]
    · refine ⟨L.take k, q :: B, hA, fun p hp => ?_, rfl, .inr ⟨?_, hsp, ?_⟩⟩
      · rcases List.mem_cons.1 hp with rfl | hp
        · exact h3
        · exact ltB_trans h3 (hqB p hp)
      · unfold placeB
        rw [← hk, hg]
        exact decide_eq_false fun h => ltB_ne h3 (cmpB_eq h).symm
      · rw [← List.map_drop, hd]
theorem putP_at {A B : List Pr} {k v : Byt} {L : List Pr} (hA : ∀ p ∈ A, ltB p.1 k) (hB : ∀ p ∈ B, ltB k p.1) (hL : L = A ++ B ∨ ∃ u, L = A ++ (k, u) :: B) : putP L k v = A ++ ((k, v) :: B) := by
  have f1 : A.filter (fun p => decide (ltB p.1 k)) = A := filter_all fun p hp => decide_eq_true (hA p hp)
  have f2 : B.filter (fun p => decide (ltB p.1 k)) = [] := filter_none fun p hp => decide_eq_false (ltB_asymm (hB p hp))
  have f3 : A.filter (fun p => decide (ltB k p.1)) = [] := filter_none fun p hp => decide_eq_false (ltB_asymm (hA p hp))
  have f4 : B.filter (fun p => decide (ltB k p.1)) = B := filter_all fun p hp => decide_eq_true (hB p hp)
  unfold putP
  rcases hL with rfl | ⟨u, rfl⟩
  · rw [List.filter_append, List.filter_append, f1, f2, f3, f4]; simp
  · have hkk : decide (ltB k k) = false := decide_eq_false (ltB_irrefl k)
    rw [List.filter_append, List.filter_append, List.filter_cons, List.filter_cons, f1, f2, f3, f4]
    simp [hkk]
theorem cutP_at {A B : List Pr} {k : Byt} {L : List Pr} (hA : ∀ p ∈ A, ltB p.1 k) (hB : ∀ p ∈ B, ltB k p.1) (hL : L = A ++ B ∨ ∃ u, L = A ++ (k, u) :: B) : cutP L k = A ++ B := by
  have f1 : A.filter (fun p => !decide (p.1 = k)) = A := filter_all fun p hp => by rw [decide_eq_false (ltB_ne (hA p hp))]; rfl
  have f2 : B.filter (fun p => !decide (p.1 = k)) = B := filter_all fun p hp => by rw [decide_eq_false (fun e => ltB_ne (hB p hp) e.symm)]; rfl
  unfold cutP
  rcases hL with rfl | ⟨u, rfl⟩
  · rw [List.filter_append, f1, f2]
  · rw [List.filter_append, List.filter_cons, f1, f2]; simp
theorem getP_at {A B : List Pr} {k : Byt} {L : List Pr} (hA : ∀ p ∈ A, ltB p.1 k) (hB : ∀ p ∈ B, ltB k p.1) : getP (A ++ B) k = none ∧ ∀ u, getP (A ++ (k, u) :: B) k = some u := by
  have f1 : A.find? (fun p => decide (p.1 = k)) = none := List.find?_eq_none.2 fun p hp => by simpa using ltB_ne (hA p hp)
  have f2 : B.find? (fun p => decide (p.1 = k)) = none := List.find?_eq_none.2 fun p hp => by simpa using fun e => ltB_ne (hB p hp) e.symm
  unfold getP
  refine ⟨by rw [List.find?_append, f1, f2]; rfl, fun u => ?_⟩
  rw [List.find?_append, f1, List.find?_cons, decide_eq_true rfl]; rfl
theorem ins_leaf {L : List Pr} (hr : Rising L) (key val : Byt) : insI key val (L.map leafI) = (putP L key val).map leafI := by
  obtain ⟨A, B, hA, hB, ht, h | h⟩ := place_split hr key
  · obtain ⟨h1, v, h2, h3, _⟩ := h
    unfold insI
    rw [if_pos h1, ht, h3, putP_at hA hB (.inr ⟨v, h2⟩), List.map_append, List.map_cons]; rfl
  · obtain ⟨h1, h2, h3⟩ := h
    unfold insI
    rw [if_neg (by rw [h1]; simp), ht, h3, putP_at hA hB (.inl h2), List.map_append, List.map_cons]; rfl
theorem del_leaf {L : List Pr} (hr : Rising L) (key : Byt) : delI key (L.map leafI) = (cutP L key).map leafI := by
  obtain ⟨A, B, hA, hB, ht, h | h⟩ := place_split hr key
  · obtain ⟨h1, v, h2, h3, _⟩ := h
    unfold delI
    rw [if_pos h1, ht, h3, cutP_at hA hB (.inr ⟨v, h2⟩), List.map_append]
  · obtain ⟨h1, h2, h3⟩ := h
    unfold delI
    rw [if_neg (by rw [h1]; simp), cutP_at hA hB (.inl h2), ← h2]
theorem total_cut (i : Bool) (l : List It) (k m : Nat) (hk : k ≤ m) : totalI i (l.take k) + totalI i (l.drop m) ≤ totalI i l := by
  have h1 := totalI_append i (l.take k) (l.drop k)
  rw [List.take_append_drop] at h1
  have h2 := totalI_append i ((l.drop k).take (m - k)) ((l.drop k).drop (m - k))
  rw [List.take_append_drop, List.drop_drop, show k + (m - k) = m by omega] at h2
  omega
theorem acts_put {key val : Byt} (hk : 1 ≤ key.length) (hk2 : key.length ≤ 32) (hv : val.length ≤ 128) : Acts key (insI key val) (fun L => putP L key val) := by
  refine ⟨fun L hr _ => ins_leaf hr key val, fun A L B hA hB => putP_mid hA hB, fun L ho p hp => ?_, fun L hr ho => ?_⟩
  · rcases putP_mem hp with rfl | h
    · exact ⟨hk, hk2, hv⟩
    · exact ho p h
  · rw [← ins_leaf hr key val]
    have h5 : totalI false [(⟨key, val, 0⟩ : It)] ≤ 164 := by show 4 + key.length + val.length + 0 ≤ 164; omega
    unfold insI
    split
    · have := total_cut false (L.map leafI) (placeN (L.map leafI) key) (placeN (L.map leafI) key + 1) (by omega)
      rw [totalI_append, totalI_append]; omega
    · have := total_cut false (L.map leafI) (placeN (L.map leafI) key) (placeN (L.map leafI) key) (by omega)
      rw [totalI_append, totalI_append]; omega
theorem acts_cut (key : Byt) : Acts key (delI key) (fun L => cutP L key) := by
  refine ⟨fun L hr _ => del_leaf hr key, fun A L B hA hB => cutP_mid hA hB, fun L ho p hp => ho p (cutP_mem hp), fun L hr ho => ?_⟩
  rw [← del_leaf hr key]
  unfold delI
  split
  · have := total_cut false (L.map leafI) (placeN (L.map leafI) key) (placeN (L.map leafI) key + 1) (by omega)
    rw [totalI_append]; omega
  · omega
/-! ### What is got -/
theorem get_spec {fr sz : Nat} {A : Dev} (key : Byt) (hon : A.on = true) (hl : fr + sz ≤ A.B.length) : ∀ (h n p d : Nat) (L : List Pr) (S : List Nat), Lies (RD A fr) h p L S → Rising L → (∀ x ∈ S, x < sz) → d + h ≤ 16 → h < n →
    getG A fr sz key n (p : Int) (d : Int) = (0, getP L key)
  | 0, n + 1, p, d, L, S, hL, hr, hs, hd, hn => by
    have hp := hs p hL.page
    obtain ⟨i, M, S', ⟨rfl, rfl, rfl⟩, h2, rfl, h4, h5⟩ := hL
    have hrd := readT_of hon hp hl (show d ≤ 16 by omega) h2
    rw [getG_1, if_neg (by omega), hrd]
    dsimp only
    obtain ⟨A', B', hA, hB, ht, h | h⟩ := place_split hr key
    · obtain ⟨h1, v, h2, h3, h6⟩ := h
      rw [if_pos h1, h6, h2, (getP_at (L := L) hA hB).2 v]; rfl
    · obtain ⟨h1, h2, h3⟩ := h
      rw [if_neg (by rw [h1]; simp), h2, (getP_at (L := L) hA hB).1]
  | h + 1, n + 1, p, d, L, S, hL, hr, hs, hd, hn => by
    have hp := hs p hL.page
    obtain ⟨i, l, S', ⟨rfl, hk⟩, h2, rfl, h4, h5⟩ := hL
    have hrd := readT_of hon hp hl (show d ≤ 16 by omega) h2
    rw [getG_1, if_neg (by omega), hrd]
    dsimp only
    obtain ⟨a, x, b, La, Lx, Lb, Sa, Sx, Sb, rfl, hal, rfl, rfl, ka, q1, q2, q3, kb, hlo, hhi⟩ := below_split hk hr h4.ne key
    have hpg : ((a ++ x :: b)[belowN (a ++ x :: b) key]?.map (·.page)).getD 0 = x.page := pageAt_mid hal
    rw [hpg, getP_mid hlo hhi]
    exact get_spec key hon hl h n x.page (d + 1) Lx Sx q1 (Rising.append.1 (Rising.append.1 hr).2.1).1 (fun x hx => hs x (by simp [hx])) (by omega) (by omega)

end Go.Proofs.YtbkadlngijkmmaaGreatDoor

/- The document's pairs: cut, put, scanned: the walks. -/
namespace Go.Proofs.YtbkadlngijkmmaaGreatDoor
open Go.GV
attribute [local irreducible] Wops W Wq Wt

theorem Prs.of {w0 w : World} {M : Mut} (hM : ∀ x, M x → x < w0.heap.size) {a : Option Addr} {n c : Nat} {full : List Value} {ps : List Im} (H : Ctx w0 [] w (ent a 70 full)) (O : OS a n c 2 full (ps.flatMap encP)) (hok : ∀ m ∈ ps, m.Ok w0 M) {L : List Pr} (hl : ps.map (fun m => prI m.it) = L) : Prs w M a L.length c L := by
  have hn : n = ps.length := O.numN (fun _ _ => rfl) (by decide)
  have hL : L.length = n := by rw [← hl, List.length_map, hn]
  refine ⟨⟨ps, OS.rd O H.blk (fun _ _ => rfl) (by decide), ?_, hl, fun m hm => (hok m hm).call H.ext⟩, rfl, by rw [hL]; exact O.le⟩
  cases ha : a with
  | none =>
    left
    have h8 := O.none' ha; have h9 := O.le
    exact List.eq_nil_of_length_eq_zero (by omega)
  | some q =>
    right
    have h8 := (H.own (q.block, Bl 70 full) (by rw [ha]; exact List.mem_singleton.2 rfl)).elim (fun h => by cases h) id
    obtain ⟨qb, qo, qs⟩ := q
    exact fun h => by have := hM _ h; dsimp only [adr] at this h8; omega
end Go.Proofs.YtbkadlngijkmmaaGreatDoor

/- The document's pairs, scanned: the walk. -/
namespace Go.Proofs.YtbkadlngijkmmaaGreatDoor
open Go.GV
attribute [local irreducible] Wops W Wq Wt

def inR (kf kt : Byt) (k : Byt) : Bool := !decide (ltB k kf) && (decide (kt.length = 0) || decide (ltB k kt))
def filtP (kf kt : Byt) (L : List Pr) : List Pr := L.filter fun p => inR kf kt p.1
end Go.Proofs.YtbkadlngijkmmaaGreatDoor

/- A tree is made; a desk is opened: the walks. -/
namespace Go.Proofs.YtbkadlngijkmmaaGreatDoor
open Go.GV
theorem ca_30_TrG1 : callable Tryz.prog 30 = true := by kernel_rfl
theorem ca_31_TrG1 : callable Tryz.prog 31 = true := by kernel_rfl
theorem ca_32_TrG1 : callable Tryz.prog 32 = true := by kernel_rfl
theorem ca_69_TrG1 : callable Tryz.prog 69 = true := by kernel_rfl
theorem ca_81_TrG1 : callable Tryz.prog 81 = true := by kernel_rfl
theorem pl_146_TrG1 : placesB Tryz.prog 146 = some [(0, 1), (1, 1), (2, 1)] := by kernel_rfl
theorem pl_36_TrG1 : placesB Tryz.prog 36 = some [(0, 1), (1, 1), (2, 1)] := by kernel_rfl
theorem un_33_TrG1 : Tryz.prog.underlying 33 = some (.pointer 111) := by kernel_rfl
theorem un_34_TrG1 : Tryz.prog.underlying 34 = some (.pointer 146) := by kernel_rfl
theorem zc_146_TrG1 : zcells Tryz.prog 146 = some ([.pointer none, .pointer none, .int .i64 0]) := by kernel_rfl
theorem zc_36_TrG1 : zcells Tryz.prog 36 = some ([.pointer none, .pointer none, .pointer none]) := by kernel_rfl
attribute [local irreducible] Wops W Wq Wt

set_option maxRecDepth 20000 in
set_option maxHeartbeats 4000000 in
theorem tnew_ok {w : World} {bd bp ba : Nat} {A : Dev} {F : Nat → Prop} {P : List Nat} (hD : DevAt w bd A F) (hP : PgAt w bp ba P) (frm : Int) (h1 : -9223372036854775808 ≤ frm) (h2 : frm ≤ 9223372036854775807) :
    Ret Tryz.prog 32 #[ptr bd, ptr bp, .int .i64 frm] w fun v w' => Ext [] w w' ∧ ((frm < 0 ∨ (A.B.length : Int) - (P.length : Int) < frm) ∧ v = .tuple #[.pointer none, .int .i64 1] ∨ (¬ (frm < 0 ∨ (A.B.length : Int) - (P.length : Int) < frm) ∧ ∃ bt, v = .tuple #[ptr bt, .int .i64 0] ∧ w'.heap[bt]? = some (Bl TT [ptr bd, ptr bp, .int .i64 frm]) ∧ w.heap.size ≤ bt)) := by
  obtain ⟨w0, rfl⟩ : ∃ w0, w0 = w := ⟨_, rfl⟩
  have hlen := hP.len
  obtain ⟨role, bs, bm, sv, m, o, D, hF⟩ := hD
  have hwf := D.wf.hi
  have H := Ctx.start w0 []
  refine ret_of_W (fn := Tryz.f32) Tryz.func32 rfl [.pointer (some ⟨bd, 0, none⟩), .pointer (some ⟨bp, 0, none⟩), .int .i64 frm] rfl (by kernel_rfl) ?_
  refine W_rseq ?_
  refine op_assign rfl (.pointer _) rfl ?_
  refine op_assign rfl (.int _ _) rfl ?_
  refine op_nil (at_then ?_)
  refine W_seq ?_
  refine W_block ?_
  refine W_rseq ?_
  refine op_move rfl (.pointer _) rfl ?_
  refine op_eqlptr rfl un_32 rfl ?_
  refine op_move rfl (.bool _) rfl ?_
  refine op_move rfl (.pointer _) rfl ?_
  refine op_eqlptr rfl un_33_TrG1 rfl ?_
  refine op_pick0 rfl rfl (.bool _) rfl ?_
  refine op_assign rfl (.bool _) rfl ?_
  refine op_nil (at_then ?_)
  refine W_cond0 rfl ?_
  refine W_rseq (Wops_join (α := Unit) 134184960 (fun _ => [(15, .bool (decide (frm < 0) || decide ((A.B.length : Int) - (P.length : Int) < frm)))]) (fun _ w' => w0 = w') rfl ?_ ?_)
  · refine op_move rfl (.int _ _) rfl ?_
    refine op_lss rfl rfl rfl ?_
    refine op_move rfl (.bool _) rfl ?_
    refine Wops_split 18 rfl ?_ ?_
    · intro h1
      replace h1 := dec_t h1
      refine op_skip rfl ?_
      refine op_skip rfl ?_
      refine op_skip rfl ?_
      refine op_skip rfl ?_
      refine op_skip rfl ?_
      refine op_skip rfl ?_
      refine op_skip rfl ?_
      refine op_pick1 rfl rfl (.bool _) rfl ?_
      refine op_assign rfl (.bool _) rfl ?_
      refine op_nil ?_
      exact ⟨rfl, (), rfl, ⟨congrArg Value.bool (by (first | rw [decide_eq_true h1] | rw [decide_eq_false h2]); rfl), trivial⟩, rfl⟩
    · intro h2
      replace h2 := dec_f h2
      refine op_move rfl (.int _ _) rfl ?_
      refine op_move rfl (.pointer _) rfl ?_
      refine op_call rfl ca_81_TrG1 (dsize_ok D.hd) rfl ?_
      rintro v w ⟨rfl, rfl⟩
      refine op_move rfl (.pointer _) rfl ?_
      refine op_call rfl ca_69_TrG1 (psize_ok hP) rfl ?_
      rintro v w ⟨rfl, rfl⟩
      refine op_sub_i64 rfl rfl rfl (by omega) (by omega) ?_
      refine op_gtr rfl rfl rfl ?_
      refine op_pick0 rfl rfl (.bool _) rfl ?_
      refine op_assign rfl (.bool _) rfl ?_
      refine op_nil ?_
      exact ⟨rfl, (), rfl, ⟨congrArg Value.bool (by (first | rw [decide_eq_true h1] | rw [decide_eq_false h2]); rfl), trivial⟩, rfl⟩
  rintro - j15 w rfl
  refine W_cond _ rfl ?_ ?_
  · intro hA
    refine W_rseq ?_
    refine op_assign rfl (.pointer _) rfl ?_
    refine op_assign rfl (.int _ _) rfl ?_
    refine op_nil (at_then ?_)
    refine W_ret (ret_block (ret_then (leave2 (v1 := (.pointer _)) (v2 := (.int _ _)) rfl rfl rfl rfl ?_)))
    exact ⟨.refl _ _, .inl ⟨by simpa using hA, rfl⟩⟩
  · intro hA
    refine W_skip (at_block (at_then ?_))
    refine W_rseq ?_
    refine op_move rfl (.pointer _) rfl ?_
    refine op_move rfl (.pointer _) rfl ?_
    refine op_move rfl (.int _ _) rfl ?_
    refine op_buildS [ptr bd, ptr bp, .int .i64 frm] rfl pl_146_TrG1 zc_146_TrG1 (by kernel_rfl) ?_
    refine op_box rfl [ptr bd, ptr bp, .int .i64 frm] (.agg _) rfl rfl H ?_
    rintro bt w - H
    refine op_assign rfl (.pointer _) rfl ?_
    refine op_assign rfl (.int _ _) rfl ?_
    refine op_nil (at_then ?_)
    refine W_ret (leave2 (v1 := (.pointer _)) (v2 := (.int _ _)) rfl rfl rfl rfl ?_)
    refine ⟨H.ext, .inr ⟨fun h => ?_, bt, rfl, H.get at0, (H.own _ (List.mem_cons_self ..)).elim (fun h => by cases h) id⟩⟩
    have h6 : (decide (frm < 0) || decide ((A.B.length : Int) - (P.length : Int) < frm)) = true := by simpa using h
    rw [hA] at h6; cases h6
/-- A desk of a tree. -/
structure Dk (w : World) (bx bt bd bp ba : Nat) (A : Dev) (P : List Nat) (F : Mut) : Prop where
  dk : w.heap[bx]? = some (Bl 36 [ptr bd, ptr bp, ptr bt])
  T : Tx w bt bd bp ba 10 A P F []
  nx : ¬ TM F ba bt bp [] bx
theorem newd_of {n : Nat} (h1 : 1 ≤ n) (h2 : n ≤ 2000) {v : Value} {w w1 : World} (h : (newE (10 + (n : Int)) = 1 ∧ v = .tuple #[.pointer none, .int .i64 1]) ∨ (newE (10 + (n : Int)) = 0 ∧ 1 ≤ 10 + (n : Int) ∧ 10 + (n : Int) ≤ 4096 ∧ ∃ bd, v = .tuple #[ptr bd, .int .i64 0] ∧ DevAt w1 bd (newD (10 + (n : Int)).toNat) fun x => w.heap.size ≤ x ∧ x < w1.heap.size)) :
    ∃ bd, v = .tuple #[ptr bd, .int .i64 0] ∧ DevAt w1 bd (newD (10 + n)) fun x => w.heap.size ≤ x ∧ x < w1.heap.size := by
  rcases h with ⟨h, _⟩ | ⟨_, _, _, bd, hv, hD⟩
  · unfold newE at h
    rw [decide_eq_false (by omega), decide_eq_false (by omega)] at h
    cases h
  · rw [show (10 + (n : Int)).toNat = 10 + n by omega] at hD
    exact ⟨bd, hv, hD⟩
theorem tnew_of {a p : Nat} {frm : Int} {v : Value} {w w1 : World} {bd bp : Nat} (hn : ¬ (frm < 0 ∨ (a : Int) - (p : Int) < frm)) (h : ((frm < 0 ∨ (a : Int) - (p : Int) < frm) ∧ v = .tuple #[.pointer none, .int .i64 1]) ∨ (¬ (frm < 0 ∨ (a : Int) - (p : Int) < frm) ∧ ∃ bt, v = .tuple #[ptr bt, .int .i64 0] ∧ w1.heap[bt]? = some (Bl TT [ptr bd, ptr bp, .int .i64 frm]) ∧ w.heap.size ≤ bt)) :
    ∃ bt, v = .tuple #[ptr bt, .int .i64 0] ∧ w1.heap[bt]? = some (Bl TT [ptr bd, ptr bp, .int .i64 frm]) ∧ w.heap.size ≤ bt := h.elim (fun h => absurd h.1 hn) And.right
theorem newD_len (n : Nat) : (newD n).B.length = n := List.length_replicate ..

set_option maxRecDepth 20000 in
set_option maxHeartbeats 4000000 in
theorem opened_ok (n : Nat) (h1 : 1 ≤ n) (h2 : n ≤ 2000) (w : World) : Ret Tryz.prog 14 #[.int .i64 (n : Int)] w fun v w' => ∃ bx bt bd bp ba F, v = ptr bx ∧ Dk w' bx bt bd bp ba (newD (10 + n)) (List.replicate n 0) F ∧ Ext [] w w' ∧ (∀ x, TM F ba bt bp [] x → w.heap.size ≤ x) ∧ w.heap.size ≤ bx := by
  obtain ⟨w0, rfl⟩ : ∃ w0, w0 = w := ⟨_, rfl⟩
  refine ret_of_W (fn := Tryz.f14) Tryz.func14 rfl [.int .i64 (n : Int)] rfl (by kernel_rfl) ?_
  refine W_rseq ?_
  refine op_assign rfl (.pointer _) rfl ?_
  refine op_nil (at_then ?_)
  refine W_rseq ?_
  refine op_move rfl (.int _ _) rfl ?_
  refine op_add_i64 rfl rfl rfl (by omega) (by omega) ?_
  refine op_call rfl ca_30_TrG1 (dnew_ok (10 + (n : Int)) w0) rfl ?_
  rintro v w1 ⟨hx1, hd⟩
  obtain ⟨bd, rfl, DA⟩ := newd_of (n := n) h1 h2 hd
  refine op_move rfl (.tuple _) rfl ?_
  refine op_extract rfl rfl rfl ?_
  refine op_extract rfl rfl rfl ?_
  refine op_assign rfl (.pointer _) rfl ?_
  refine op_assign rfl (.int _ _) rfl ?_
  refine op_nil (at_then ?_)
  refine W_rseq ?_
  refine op_move rfl (.int _ _) rfl ?_
  refine op_call rfl ca_31_TrG1 (pnew_ok n h1 (by omega) w1) rfl ?_
  rintro v w2 ⟨bp, ba, rfl, PA, hx2, hbp, hba⟩
  have DA2 := DA.keep0 hx2
  refine op_move rfl (.tuple _) rfl ?_
  refine op_extract rfl rfl rfl ?_
  refine op_extract rfl rfl rfl ?_
  refine op_assign rfl (.pointer _) rfl ?_
  refine op_assign rfl (.int _ _) rfl ?_
  refine op_nil (at_then ?_)
  refine W_seq ?_
  refine W_rseq ?_
  refine op_move rfl (.int _ _) rfl ?_
  refine op_neq rfl rfl rfl ?_
  refine op_move rfl (.bool _) rfl ?_
  refine op_move rfl (.int _ _) rfl ?_
  refine op_neq rfl rfl rfl ?_
  refine op_pick0 rfl rfl (.bool _) rfl ?_
  refine op_move rfl (.bool _) rfl ?_
  refine op_move rfl (.pointer _) rfl ?_
  refine op_eqlptr rfl un_32 rfl ?_
  refine op_pick0 rfl rfl (.bool _) rfl ?_
  refine op_move rfl (.bool _) rfl ?_
  refine op_move rfl (.pointer _) rfl ?_
  refine op_eqlptr rfl un_33_TrG1 rfl ?_
  refine op_pick0 rfl rfl (.bool _) rfl ?_
  refine op_nil (at_then ?_)
  refine W_cond0 rfl ?_
  refine W_skip (at_then ?_)
  refine W_rseq ?_
  refine op_move rfl (.pointer _) rfl ?_
  refine op_move rfl (.pointer _) rfl ?_
  refine op_call rfl ca_32_TrG1 (tnew_ok DA2 PA 10 (by omega) (by omega)) rfl ?_
  rintro v w3 ⟨hx3, hv⟩
  obtain ⟨bt, rfl, hbt, hbn⟩ := tnew_of (by rw [newD_len, List.length_replicate]; omega) hv
  have H := Ctx.start w3 []
  refine op_move rfl (.tuple _) rfl ?_
  refine op_extract rfl rfl rfl ?_
  refine op_extract rfl rfl rfl ?_
  refine op_assign rfl (.pointer _) rfl ?_
  refine op_assign rfl (.int _ _) rfl ?_
  refine op_nil (at_then ?_)
  refine W_seq ?_
  refine W_rseq ?_
  refine op_move rfl (.int _ _) rfl ?_
  refine op_neq rfl rfl rfl ?_
  refine op_move rfl (.bool _) rfl ?_
  refine op_move rfl (.pointer _) rfl ?_
  refine op_eqlptr rfl un_34_TrG1 rfl ?_
  refine op_pick0 rfl rfl (.bool _) rfl ?_
  refine op_nil (at_then ?_)
  refine W_cond0 rfl ?_
  refine W_skip (at_then ?_)
  refine W_rseq ?_
  refine op_move rfl (.pointer _) rfl ?_
  refine op_move rfl (.pointer _) rfl ?_
  refine op_move rfl (.pointer _) rfl ?_
  refine op_buildS [ptr bd, ptr bp, ptr bt] rfl pl_36_TrG1 zc_36_TrG1 (by kernel_rfl) ?_
  refine op_box rfl [ptr bd, ptr bp, ptr bt] (.agg _) rfl rfl H ?_
  rintro bx w - H
  refine op_assign rfl (.pointer _) rfl ?_
  refine op_nil (at_then ?_)
  refine W_ret (leave1 (v := (.pointer _)) rfl rfl rfl ?_)
  have hxw := H.ext
  have s1 := hx1.size
  have s2 := hx2.size
  have s3 := hx3.size
  have hbp2 := heap_lt PA.hd
  have hba2 := heap_lt PA.st
  have hbt3 := heap_lt hbt
  have hbxn : w3.heap.size ≤ bx := (H.own _ (List.mem_cons_self ..)).elim (fun h => by cases h) id
  have hx2w := hx3.trans hxw
  refine ⟨bx, bt, bd, bp, ba, fun x => w0.heap.size ≤ x ∧ x < w1.heap.size, rfl, ⟨H.get at0, ⟨?_, PA.keep hx2w (by simp) (by simp), DA2.keep0 hx2w, (fun x h => by cases h), List.Pairwise.nil, (fun x h => by cases h), ⟨fun h => by omega, ?_⟩, fun h => by omega, fun h => by omega, fun x h => by have := hxw.size; omega⟩, fun h => ?_⟩, hx1.trans (hx2.trans hx2w), fun x h => ?_, by omega⟩
  · rw [hxw.block bt hbt3 (by simp)]; exact hbt
  · omega
  · rcases h with h | h | h | h | h
    · omega
    · omega
    · omega
    · omega
    · cases h
  · rcases h with h | h | h | h | h
    · omega
    · omega
    · omega
    · omega
    · cases h

end Go.Proofs.YtbkadlngijkmmaaGreatDoor

/- Plain law of the tree: what is scanned, what is walked. -/
namespace Go.Proofs.YtbkadlngijkmmaaGreatDoor
open Go.GV

theorem gathL_leaf (kf : Byt) (L : List Pr) : gathL kf false (L.map leafI) = L.filter fun p => !decide (ltB p.1 kf) := by
  unfold gathL
  rw [if_neg (by simp)]
  induction L with
  | nil => rfl
  | cons p L ih =>
    have hd : decide (0 ≤ cmpB p.1 kf) = !decide (ltB p.1 kf) := by
      by_cases h : ltB p.1 kf
      · rw [decide_eq_true h, decide_eq_false (fun h2 => cmpB_ge.1 h2 h)]; rfl
      · rw [decide_eq_false h, decide_eq_true (cmpB_ge.2 h)]; rfl
    rw [List.map_cons, List.filter_cons, List.filter_cons, show (leafI p).key = p.1 from rfl, hd]
    by_cases h : (!decide (ltB p.1 kf)) = true
    · rw [if_pos h, if_pos h, List.map_cons, ih]; rfl
    · rw [if_neg h, if_neg h, ih]
theorem gathG_app (kf : Byt) (a b : List Nd) : gathG kf (a ++ b) = gathG kf a ++ gathG kf b := List.flatMap_append
theorem each_spec {fr sz : Nat} {A : Dev} (hon : A.on = true) (hl : fr + sz ≤ A.B.length) : ∀ (h n p d : Nat) (L : List Pr) (S : List Nat), Lies (RD A fr) h p L S → (∀ x ∈ S, x < sz) → sz ≤ 4096 → d + h ≤ 16 → h < n →
    (eachG A fr sz n (p : Int) d).1 = 0 ∧ (eachG A fr sz n (p : Int) d).2.map (·.1) = S.map (fun x : Nat => (x : Int)) ∧ ∀ kf, gathG kf (eachG A fr sz n (p : Int) d).2 = L.filter fun p => !decide (ltB p.1 kf)
  | 0, n + 1, p, d, L, S, hL, hs, hz, hd, hn => by
    have hp := hs p hL.page
    obtain ⟨i, M, S', ⟨rfl, rfl, rfl⟩, h2, rfl, h4, h5⟩ := hL
    have hrd := readT_of hon hp hl (show d ≤ 16 by omega) h2
    unfold eachG
    rw [hrd]
    refine ⟨rfl, rfl, fun kf => ?_⟩
    show gathL kf false (L.map leafI) ++ [] = _
    rw [List.append_nil, gathL_leaf]
  | h + 1, n + 1, p, d, L, S, hL, hs, hz, hd, hn => by
    have hp := hs p hL.page
    obtain ⟨i, l, S', ⟨rfl, hk'⟩, h2, rfl, h4, h5⟩ := hL
    have hk : Kids (Lies (RD A fr) h) l L S' := hk'
    have hrd := readT_of hon hp hl (show d ≤ 16 by omega) h2
    have hs' : ∀ x ∈ S', x < sz := fun x hx => hs x (List.mem_cons_of_mem _ hx)
    have hkid : Kids (fun p L S => Lies (RD A fr) h p L S ∧ ∀ x ∈ S, x < sz) l L S' := hk.mono fun p L S hsub hq => ⟨hq, fun x hx => hs' x (hsub x hx)⟩
    obtain ⟨b1, b2, b3⟩ : (kidsG (fun p => eachG A fr sz n p (d + 1)) l).1 = 0 ∧ (kidsG (fun p => eachG A fr sz n p (d + 1)) l).2.map (·.1) = S'.map (fun x : Nat => (x : Int)) ∧ ∀ kf, gathG kf (kidsG (fun p => eachG A fr sz n p (d + 1)) l).2 = L.filter fun p => !decide (ltB p.1 kf) := by
      clear h2 h4 h5 hrd hp hs hk hk'
      induction l generalizing L S' with
      | nil => obtain ⟨rfl, rfl⟩ := hkid; exact ⟨rfl, rfl, fun _ => rfl⟩
      | cons x l ih =>
        obtain ⟨L1, L2, S1, S2, rfl, rfl, ⟨h3, h3s⟩, _, _, h6⟩ := hkid
        obtain ⟨a1, a2, a3⟩ := each_spec hon hl h n x.page (d + 1) L1 S1 h3 h3s hz (by omega) (by omega)
        obtain ⟨b1, b2, b3⟩ := ih L2 S2 (fun x hx => hs' x (List.mem_append_right _ hx)) h6
        unfold kidsG
        rw [if_neg (by rw [a1]; simp)]
        exact ⟨b1, by rw [List.map_append, List.map_append, a2, b2], fun kf => by rw [gathG_app, a3, b3, List.filter_append]⟩
    unfold eachG
    rw [hrd]
    dsimp only
    refine ⟨b1, by rw [List.map_cons, List.map_cons, b2], fun kf => ?_⟩
    show gathL kf true l ++ gathG kf _ = _
    rw [b3]; rfl
theorem rise_take {L : List Pr} (hr : Rising L) (kt : Byt) : L.takeWhile (fun p => decide (cmpB p.1 kt < 0)) = L.filter fun p => decide (ltB p.1 kt) := by
  induction L with
  | nil => rfl
  | cons p L ih =>
    obtain ⟨h1, h2⟩ := List.pairwise_cons.1 hr
    have hd : decide (cmpB p.1 kt < 0) = decide (ltB p.1 kt) := by
      by_cases h : ltB p.1 kt
      · rw [decide_eq_true h, decide_eq_true (cmpB_lt.2 h)]
      · rw [decide_eq_false h, decide_eq_false (fun h2 => h (cmpB_lt.1 h2))]
    rw [List.takeWhile_cons, List.filter_cons, hd]
    by_cases h : ltB p.1 kt
    · rw [decide_eq_true h]
      simp only [if_true]
      rw [ih h2]
    · rw [decide_eq_false h]
      simp only [Bool.false_eq_true, if_false]
      refine (filter_none fun q hq => decide_eq_false fun h3 => h (ltB_trans (h1 q hq) h3)).symm
theorem upTo_spec {L : List Pr} (hr : Rising L) (kf kt : Byt) : upTo kt (L.filter fun p => !decide (ltB p.1 kf)) = filtP kf kt L := by
  unfold upTo filtP inR
  by_cases hk : kt = []
  · rw [if_pos hk, hk]
    simp
  · rw [if_neg hk, rise_take (hr.sublist List.filter_sublist), List.filter_filter]
    congr 1
    funext p
    rw [decide_eq_false (show ¬ kt.length = 0 from fun h => hk (List.eq_nil_of_length_eq_zero h)), Bool.false_or, Bool.and_comm]
/-- What is told of a root that stands. -/
structure Told (fr : Nat) (A : Dev) (P : List Nat) (root : Int) (L : List Pr) (S : List Nat) : Prop where
  may : mayE P.length root = 0
  rlo : -1 ≤ root
  rhi : root < P.length
  none : root = -1 ↔ L = []
  scan : ∀ kf kt, scanT A fr P.length root kf kt = (0, filtP kf kt L)
  walk : walkT A fr P.length root = (0, sortZ (S.map fun x : Nat => (x : Int)))
  num : (nodesG A fr P.length root).2.length = S.length
  get : ∀ key, getG A fr P.length key 18 root 0 = (0, getP L key)
  len : S.length ≤ 2 * L.length
theorem told {fr : Nat} {A : Dev} {P : List Nat} {root : Int} {L : List Pr} {S : List Nat} (hR : Root (RD A fr) root L S) (hon : A.on = true) (hl : fr + P.length ≤ A.B.length) (hP : P.length ≤ 2000) (hnd : S.Nodup) (hS : ∀ x ∈ S, x < P.length) (hr : Rising L) : Told fr A P root L S := by
  rcases hR with ⟨rfl, rfl, rfl⟩ | ⟨h, p, rfl, hL⟩
  · have hm : mayE P.length (-1) = 0 := by unfold mayE; rw [if_neg (by omega)]
    have hn : nodesG A fr P.length (-1) = (0, []) := by unfold nodesG; rw [if_pos rfl]
    refine ⟨hm, by omega, by omega, by simp, fun kf kt => ?_, ?_, by rw [hn]; rfl, fun key => ?_, Nat.zero_le _⟩
    · unfold scanT
      rw [if_neg (by rw [hm]; simp), hn, if_neg (by simp)]
      unfold upTo gathG filtP
      split <;> rfl
    · unfold walkT
      rw [if_neg (by rw [hm]; simp), hn, if_neg (by simp)]
      rfl
    · rw [getG_1, if_pos rfl]; rfl
  · have hp := hS p hL.page
    have hm : mayE P.length (p : Int) = 0 := by unfold mayE; rw [if_neg (by omega)]
    have hh := height hL hnd hS hP
    obtain ⟨e1, e2, e3⟩ := each_spec hon hl h 18 p 0 L S hL hS (by omega) (by omega) (by omega)
    have hn : nodesG A fr P.length (p : Int) = eachG A fr P.length 18 (p : Int) 0 := by unfold nodesG; rw [if_neg (by omega)]
    rw [← hn] at e1 e2 e3
    refine ⟨hm, by omega, by omega, ⟨fun h => by omega, fun h => absurd h hL.ne⟩, fun kf kt => ?_, ?_, ?_, fun key => ?_, ?_⟩
    · unfold scanT
      rw [if_neg (by rw [hm]; simp), if_neg (by rw [e1]; simp), e3, upTo_spec hr]
    · unfold walkT
      rw [if_neg (by rw [hm]; simp), if_neg (by rw [e1]; simp), e2]
    · have := congrArg List.length e2
      rwa [List.length_map, List.length_map] at this
    · exact get_spec key hon hl h 18 p 0 L S hL hr hS (by omega) (by omega)
    · have := hL.count.2; omega
end Go.Proofs.YtbkadlngijkmmaaGreatDoor

/- Plain law of the tree: put and cut of a root that stands; free pages. -/
namespace Go.Proofs.YtbkadlngijkmmaaGreatDoor
open Go.GV

theorem TreeAt.told {fr : Nat} {A : Dev} {P : List Nat} {root : Int} {L : List Pr} (T : TreeAt fr A P root L) (hon : A.on = true) (hl : fr + P.length ≤ A.B.length) (hP : P.length ≤ 2000) : ∃ S, Told fr A P root L S ∧ S.Nodup ∧ (∀ x : Nat, x ∈ S ↔ P[x]? = some 1 ∨ P[x]? = some 2) := by
  obtain ⟨S, hR, hnd, hS⟩ := T.lies
  exact ⟨S, Go.Proofs.YtbkadlngijkmmaaGreatDoor.told hR hon hl hP hnd (fun x hx => ((hS x).1 hx).elim (fun h => (List.getElem?_eq_some_iff.1 h).1) fun h => (List.getElem?_eq_some_iff.1 h).1) T.rise, hnd, hS⟩
theorem topC_few {fr : Nat} {c : Ch} {i : Bool} {M : List It} {m : Nat} (h : Few c.A m) : Few (topC fr c i M).2.1.A (m + 3) := by
  obtain ⟨-, -, q3, -⟩ := putS_bnd (fr := fr) (c := c) (i := i) (M := M) (m := m)
  have q3 := q3 h
  unfold topC
  split
  · exact h.mono (by omega)
  · split
    · exact q3.mono (by omega)
    · split
      · exact q3.mono (by omega)
      · split
        · exact (wrC_few q3).mono (by omega)
        · exact q3.mono (by omega)
theorem turnC_few {fr : Nat} {A : Dev} {P : List Nat} {root : Int} {key : Byt} {G : List It → List It} {m : Nat} (h : Few A m) : Few (turnC fr A P root key G).2.2.A (m + 40) := by
  obtain ⟨ed, hed⟩ : ∃ ed, ed = (if root = -1 then (0, ⟨A, P, [], []⟩, false, G []) else editC fr G key 18 ⟨A, P, [], []⟩ root.toNat 0 : Int × Ch × Bool × List It) := ⟨_, rfl⟩
  have hb : Few ed.2.1.A (m + 36) := by
    rw [hed]
    split
    · exact h.mono (by omega)
    · obtain ⟨x1, x2, x3⟩ := editC_bnd (fr := fr) (G := G) (key := key) (m := m) (n := 18) (c := ⟨A, P, [], []⟩) (p := root.toNat) (d := 0)
      exact x3 h
  have hturn : turnC fr A P root key G = if ed.1 ≠ 0 then (ed.1, root, overC ed.2.1 ed.1) else if (topC fr ed.2.1 ed.2.2.1 ed.2.2.2).1 ≠ 0 then ((topC fr ed.2.1 ed.2.2.1 ed.2.2.2).1, root, overC (topC fr ed.2.1 ed.2.2.1 ed.2.2.2).2.1 (topC fr ed.2.1 ed.2.2.1 ed.2.2.2).1) else (0, (topC fr ed.2.1 ed.2.2.1 ed.2.2.2).2.2, overC (topC fr ed.2.1 ed.2.2.1 ed.2.2.2).2.1 0) := by
    unfold turnC; rw [hed]
  rw [hturn]
  have ht := topC_few (fr := fr) (i := ed.2.2.1) (M := ed.2.2.2) hb
  split
  · exact hb.mono (by omega)
  · split
    · exact ht.mono (by omega)
    · exact ht.mono (by omega)
theorem hm24 {P : List Nat} (hP : P.length ≤ 2000) : ∀ h, h = 0 ∨ 2 ^ (h + 1) ≤ P.length + 1 → 2 * h + 3 ≤ 24 := fun h hh => by
  rcases hh with rfl | hh
  · omega
  · rcases Nat.lt_or_ge h 10 with h3 | h3
    · omega
    · have : 2 ^ 11 ≤ 2 ^ (h + 1) := Nat.pow_le_pow_right (by omega) (by omega)
      omega
/-- What a step of a tree that stands leaves. -/
structure Stepped (fr : Nat) (A : Dev) (P : List Nat) (root' : Int) (L' : List Pr) (A' : Dev) (P' : List Nat) (mx : Nat) : Prop where
  tree : TreeAt fr A' P' root' L'
  aft : After fr A P A' P'
  on : A'.on = true
  few : Few A' mx
theorem After.refl (fr : Nat) (A : Dev) (P : List Nat) : After fr A P A P := ⟨fun _ _ => rfl, rfl, fun h => h, rfl, rfl⟩
theorem turn_good {fr : Nat} {A : Dev} {P : List Nat} {root : Int} {L : List Pr} {key : Byt} {G : List It → List It} {g : List Pr → List Pr} (act : Acts key G g) (hr : ∀ L, Rising L → Rising (g L)) (T : TreeAt fr A P root L) (hon : A.on = true) (hl : fr + P.length ≤ A.B.length) (hP : P.length ≤ 2000) (hleft : A.left = -1) (hfree : 24 ≤ freeP P) {mx : Nat} (hfew : Few A mx) :
    (turnC fr A P root key G).1 = 0 ∧ Stepped fr A P (turnC fr A P root key G).2.1 (g L) (turnC fr A P root key G).2.2.A (turnC fr A P root key G).2.2.P (mx + 40) := by
  obtain ⟨h1, h2⟩ := turn_spec act hr T hon hl hP (hm24 hP)
  rcases h2 with ⟨h3, h4, h5⟩ | ⟨_, _, h3⟩
  · exact ⟨h3, h5, h1, h4, turnC_few hfew⟩
  · rcases h3 with ⟨_, h3⟩ | ⟨_, h3⟩
    · exact absurd hleft h3
    · omega
theorem put_good {fr : Nat} {A : Dev} {P : List Nat} {root : Int} {L : List Pr} {key val : Byt} (T : TreeAt fr A P root L) (hon : A.on = true) (hl : fr + P.length ≤ A.B.length) (hP : P.length ≤ 2000) (hleft : A.left = -1) (hfree : 24 ≤ freeP P) {mx : Nat} (hfew : Few A mx) :
    (rightK key.length val.length = false ∧ putT fr A P root key val = (1, root, A, P)) ∨ (rightK key.length val.length = true ∧ (putT fr A P root key val).1 = 0 ∧ Stepped fr A P (putT fr A P root key val).2.1 (putP L key val) (putT fr A P root key val).2.2.1 (putT fr A P root key val).2.2.2 (mx + 40)) := by
  obtain ⟨S, td, -, -⟩ := T.told hon hl hP
  unfold putT
  rw [if_neg (by rw [td.may]; simp)]
  by_cases hk : rightK key.length val.length = true
  · right
    rw [if_pos hk]
    have hk2 := hk
    unfold rightK at hk2
    simp only [Bool.and_eq_true, decide_eq_true_eq] at hk2
    obtain ⟨h1, h2⟩ := turn_good (acts_put hk2.1 hk2.2.1 hk2.2.2) (fun L h => putP_rising h key val) T hon hl hP hleft hfree hfew
    exact ⟨hk, h1, h2⟩
  · left
    rw [if_neg hk]
    exact ⟨by simpa using hk, rfl⟩
theorem cut_good {fr : Nat} {A : Dev} {P : List Nat} {root : Int} {L : List Pr} {key : Byt} (T : TreeAt fr A P root L) (hon : A.on = true) (hl : fr + P.length ≤ A.B.length) (hP : P.length ≤ 2000) (hleft : A.left = -1) (hfree : 24 ≤ freeP P) {mx : Nat} (hfew : Few A mx) :
    (rightK key.length 0 = false ∧ cutT fr A P root key = (1, root, false, A, P)) ∨ (rightK key.length 0 = true ∧ (cutT fr A P root key).1 = 0 ∧ (cutT fr A P root key).2.2.1 = (getP L key).isSome ∧ ((getP L key).isSome = false → (cutT fr A P root key).2.1 = root) ∧
      Stepped fr A P (cutT fr A P root key).2.1 (cutP L key) (cutT fr A P root key).2.2.2.1 (cutT fr A P root key).2.2.2.2 (mx + 40)) := by
  obtain ⟨S, td, -, -⟩ := T.told hon hl hP
  have hget : getT A fr P.length root key = if rightK key.length 0 = true then (0, getP L key) else (1, none) := by
    unfold getT
    rw [if_neg (by rw [td.may]; simp), td.get]
  unfold cutT
  rw [hget]
  by_cases hk : rightK key.length 0 = true
  · right
    rw [if_pos hk, if_neg (by simp)]
    cases hg : getP L key with
    | none =>
      rw [if_pos (show ((0, (none : Option Byt)) : Int × Option Byt).2.isSome = false from rfl), cutP_none hg]
      exact ⟨hk, rfl, rfl, fun _ => rfl, T, After.refl _ _ _, hon, hfew.mono (by omega)⟩
    | some u =>
      rw [if_neg (by simp)]
      obtain ⟨h1, h2⟩ := turn_good (acts_cut key) (fun L h => cutP_rising h key) T hon hl hP hleft hfree hfew
      exact ⟨hk, h1, by dsimp only; rw [decide_eq_true h1]; rfl, (fun h => by cases h), h2⟩
  · left
    rw [if_neg hk, if_pos (by simp)]
    exact ⟨by simpa using hk, rfl⟩
theorem get_good {fr : Nat} {A : Dev} {P : List Nat} {root : Int} {L : List Pr} {key : Byt} (T : TreeAt fr A P root L) (hon : A.on = true) (hl : fr + P.length ≤ A.B.length) (hP : P.length ≤ 2000) : getT A fr P.length root key = if rightK key.length 0 = true then (0, getP L key) else (1, none) := by
  obtain ⟨S, td, -, -⟩ := T.told hon hl hP
  unfold getT
  rw [if_neg (by rw [td.may]; simp), td.get]

end Go.Proofs.YtbkadlngijkmmaaGreatDoor

/- What a desk has, what it holds: the walks. -/
namespace Go.Proofs.YtbkadlngijkmmaaGreatDoor
open Go.GV
attribute [local irreducible] Wops W Wq Wt

/-! ### What is held -/
def heldB (P : List Nat) (k : Nat) : Bool := decide (P[k]? = some 1) || decide (P[k]? = some 2)
def heldL (P : List Nat) (k : Nat) : List Nat := (List.range k).filter (heldB P)
theorem heldL_succ (P : List Nat) (k : Nat) : heldL P (k + 1) = heldL P k ++ if heldB P k = true then [k] else [] := by
  unfold heldL
  rw [List.range_succ, List.filter_append]
  congr 1
  by_cases h : heldB P k = true
  · rw [if_pos h, List.filter_cons, h]; rfl
  · rw [if_neg h, List.filter_cons, show heldB P k = false by simpa using h]; rfl
end Go.Proofs.YtbkadlngijkmmaaGreatDoor

/- A desk does a step: the walk. -/
namespace Go.Proofs.YtbkadlngijkmmaaGreatDoor
open Go.GV
attribute [local irreducible] Wops W Wq Wt

section
variable {ops rest : List Oper} {Q : Exit → Env → World → Prop} {e : Env} {w : World} {dst : Option Tmp} {ty : TypeId} {pos : String} {af : Array Edge} {g : Option (Nat × Bool)} {r : Option Nat}
end

structure St7 where
  cut : Bool
  key : Byt
  val : Byt
  settle : Bool
/-- A step in memory. -/
structure Sm where
  ka : Option Addr
  kc : Nat
  va : Option Addr
  vc : Nat
  s : St7
def Sm.enc (m : Sm) : List Value := [.bool m.s.cut, .slice m.ka m.s.key.length m.kc, .slice m.va m.s.val.length m.vc, .bool m.s.settle]
theorem Sm.oneE (m : Sm) : ∀ v ∈ m.enc, oneCell v = true := fun v hv => by
  simp only [Sm.enc, List.mem_cons, List.not_mem_nil, or_false] at hv
  rcases hv with rfl | rfl | rfl | rfl <;> rfl
structure Sm.Ok (w : World) (M : Mut) (m : Sm) : Prop where
  k : Rdx w M m.ka m.s.key
  v : Rdx w M m.va m.s.val
  kc : m.s.key.length ≤ m.kc
  vc : m.s.val.length ≤ m.vc
  kl : m.s.key.length ≤ 200
  vl : m.s.val.length ≤ 500
def stepL (s : St7) (L : List Pr) : List Pr :=
  if s.cut = true then (if rightK s.key.length 0 = true then cutP L s.key else L) else if rightK s.key.length s.val.length = true then putP L s.key s.val else L
/-- What a step of a desk leaves. -/
structure Does (w0 : World) (bx bt bd bp ba : Nat) (A : Dev) (P : List Nat) (F : Mut) (L' : List Pr) (mx : Nat) (v : Value) (w' : World) : Prop where
  ex : ∃ (root' : Int) (a' : Option Addr) (c' : Nat) (A' : Dev) (P' : List Nat) (F' : Mut), v = .tuple #[.int .i64 root', .slice a' L'.length c', .bool true] ∧ Dk w' bx bt bd bp ba A' P' F' ∧ Grown (TM F ba bt bp []) (TM F' ba bt bp []) w0 w' ∧ Stepped 10 A P root' L' A' P' (mx + 40) ∧ Prs w' (TM F' ba bt bp []) a' L'.length c' L'
theorem Dk.step {w w' : World} {bx bt bd bp ba : Nat} {A A' : Dev} {P P' : List Nat} {F F' : Mut} (D : Dk w bx bt bd bp ba A P F) (T : Tx w' bt bd bp ba 10 A' P' F' []) (t : Grown (TM F ba bt bp []) (TM F' ba bt bp []) w w') : Dk w' bx bt bd bp ba A' P' F' :=
  ⟨t.keep D.dk D.nx, T, fun h => (t.2 bx h).elim D.nx fun h => by have := heap_lt D.dk; omega⟩
theorem Dk.call {w w' : World} {bx bt bd bp ba : Nat} {A : Dev} {P : List Nat} {F : Mut} (D : Dk w bx bt bd bp ba A P F) (hx : Ext [] w w') : Dk w' bx bt bd bp ba A P F := D.step (D.T.call hx) (.call0 hx)

end Go.Proofs.YtbkadlngijkmmaaGreatDoor

/- Pages settle; a desk stands; whether there is too much of the steps. -/
namespace Go.Proofs.YtbkadlngijkmmaaGreatDoor
open Go.GV
attribute [local irreducible] Wops W Wq Wt

/-! ### Settling -/
theorem settle_held (P : List Nat) (x : Nat) : ((P.map settleS)[x]? = some 1 ∨ (P.map settleS)[x]? = some 2) ↔ (P[x]? = some 1 ∨ P[x]? = some 2) := by
  rw [List.getElem?_map]
  cases P[x]? with
  | none => simp
  | some s =>
    simp only [Option.map_some, Option.some.injEq]
    unfold settleS
    split
    · omega
    · split
      · omega
      · exact Iff.rfl
theorem TreeAt.settle {fr : Nat} {A : Dev} {P : List Nat} {root : Int} {L : List Pr} (T : TreeAt fr A P root L) : TreeAt fr A (P.map settleS) root L := by
  obtain ⟨S, h1, h2, h3⟩ := T.lies
  exact ⟨⟨S, h1, h2, fun x => (h3 x).trans (settle_held P x).symm⟩, T.rise, T.ok⟩
theorem settle_count {P : List Nat} (hok : ∀ s ∈ P, s ≤ 3) : ∀ k, k ≤ P.length → (heldL P k).length + freeP ((P.map settleS).take k) = k
  | 0, _ => rfl
  | k + 1, hk => by
    have ih := settle_count hok k (by omega)
    obtain ⟨s, hs⟩ := get_some (l := P) (i := k) (by omega)
    have hs3 := hok s (List.mem_of_getElem? hs)
    have hq : (P.map settleS)[k]? = some (settleS s) := by rw [List.getElem?_map, hs]; rfl
    rw [heldL_succ, List.length_append, countP_snoc hq]
    have hb : heldB P k = (decide (s = 1) || decide (s = 2)) := by unfold heldB; rw [hs]; simp
    rw [hb]
    have h4 : s = 0 ∨ s = 1 ∨ s = 2 ∨ s = 3 := by omega
    rcases h4 with rfl | rfl | rfl | rfl
    · rw [if_neg (by decide), if_pos (by decide)]; simp only [List.length_nil]; omega
    · rw [if_pos (by decide), if_neg (by decide)]; simp only [List.length_cons, List.length_nil]; omega
    · rw [if_pos (by decide), if_neg (by decide)]; simp only [List.length_cons, List.length_nil]; omega
    · rw [if_neg (by decide), if_pos (by decide)]; simp only [List.length_nil]; omega
theorem settle_free {P S : List Nat} (hok : ∀ s ∈ P, s ≤ 3) (hnd : S.Nodup) (hS : ∀ x : Nat, x ∈ S ↔ P[x]? = some 1 ∨ P[x]? = some 2) : S.length + freeP (P.map settleS) = P.length := by
  have h1 := settle_count hok P.length (Nat.le_refl _)
  rw [List.take_of_length_le (by rw [List.length_map]; omega)] at h1
  have hperm : S.Perm (heldL P P.length) := by
    refine (List.perm_ext_iff_of_nodup hnd (List.nodup_range.filter _)).2 fun x => ?_
    rw [List.mem_filter, List.mem_range, hS]
    unfold heldB
    rw [Bool.or_eq_true, decide_eq_true_eq, decide_eq_true_eq]
    refine ⟨fun h => ⟨h.elim (fun h => (List.getElem?_eq_some_iff.1 h).1) fun h => (List.getElem?_eq_some_iff.1 h).1, h⟩, And.right⟩
  have h2 := hperm.length_eq
  omega
theorem rep0 {n x s : Nat} (h : (List.replicate n 0)[x]? = some s) : s = 0 := List.eq_of_mem_replicate (List.mem_of_getElem? h)
theorem new_tree (n : Nat) : TreeAt 10 (newD (10 + n)) (List.replicate n 0) (-1) [] := by
  refine ⟨⟨[], .inl ⟨rfl, rfl, rfl⟩, List.nodup_nil, fun x => ⟨(fun h => by cases h), fun h => ?_⟩⟩, List.Pairwise.nil, (fun p h => by cases h)⟩
  exfalso
  rcases h with h | h
  · have := rep0 h; omega
  · have := rep0 h; omega
theorem new_few7 (n : Nat) : Few (newD n) 0 := fun p h => by
  have h := List.eq_of_mem_replicate (show p ∈ List.replicate n (zeros, []) from h)
  rw [h]; exact Nat.le_refl _
theorem new_free (n : Nat) : freeP (List.replicate n 0) = n := by
  unfold freeP
  rw [List.countP_replicate]
  exact if_pos (by decide)
theorem stepL_len {s : St7} {L : List Pr} (h : Rising L) : (stepL s L).length ≤ L.length + 1 := by
  unfold stepL
  split
  · split
    · exact Nat.le_succ_of_le (cutP_len _ _)
    · omega
  · split
    · exact putP_len _ _ _ h
    · omega

/-! ### A desk that stands -/
structure Std (w0 w : World) (bx bt bd bp ba n : Nat) (root : Int) (L : List Pr) (i : Nat) (A : Dev) (P : List Nat) (F : Mut) : Prop where
  D : Dk w bx bt bd bp ba A P F
  T : TreeAt 10 A P root L
  on : A.on = true
  left : A.left = -1
  num : P.length = n
  blen : A.B.length = 10 + n
  few : Few A (40 * i)
  li : L.length ≤ i
  new : ∀ x, TM F ba bt bp [] x → w0.heap.size ≤ x
  hx : Ext [] w0 w
section
variable {w0 w w' : World} {bx bt bd bp ba n : Nat} {root : Int} {L : List Pr} {i : Nat} {A : Dev} {P : List Nat} {F : Mut}
theorem Std.call (s : Std w0 w bx bt bd bp ba n root L i A P F) (hx : Ext [] w w') : Std w0 w' bx bt bd bp ba n root L i A P F :=
  ⟨s.D.call hx, s.T, s.on, s.left, s.num, s.blen, s.few, s.li, s.new, s.hx.trans hx⟩
theorem Std.hl (s : Std w0 w bx bt bd bp ba n root L i A P F) : 10 + P.length ≤ A.B.length := by rw [s.num, s.blen]; exact Nat.le_refl _
theorem Std.settle (s : Std w0 w bx bt bd bp ba n root L i A P F) (h : PgAt w' bp ba (P.map settleS)) (hx : Ext [ba] w w') : Std w0 w' bx bt bd bp ba n root L i A (P.map settleS) F ∧ Grown (TM F ba bt bp []) (TM F ba bt bp []) w w' := by
  obtain ⟨h1, h2⟩ := s.D.T.page h hx
  exact ⟨⟨s.D.step h1 h2, s.T.settle, s.on, s.left, by rw [List.length_map]; exact s.num, s.blen, s.few, s.li, s.new, h2.1.new s.hx s.new⟩, h2⟩
theorem Std.told (s : Std w0 w bx bt bd bp ba n root L i A P F) (hn : n ≤ 2000) : ∃ S, Told 10 A P root L S ∧ S.Nodup ∧ (∀ x : Nat, x ∈ S ↔ P[x]? = some 1 ∨ P[x]? = some 2) := s.T.told s.on s.hl (by rw [s.num]; exact hn)
theorem Std.free (s : Std w0 w bx bt bd bp ba n root L i A P F) (hn : n ≤ 2000) : n ≤ freeP (P.map settleS) + 2 * i := by
  obtain ⟨S, td, hnd, hS⟩ := s.told hn
  have h1 := settle_free s.D.T.pg.ok hnd hS
  have h2 := td.len
  have h3 := s.li
  have h4 := s.num
  omega
theorem Std.step {root' : Int} {L' : List Pr} {A' : Dev} {P' : List Nat} {F' : Mut} (s : Std w0 w bx bt bd bp ba n root L i A P F) (D' : Dk w' bx bt bd bp ba A' P' F') (g : Grown (TM F ba bt bp []) (TM F' ba bt bp []) w w') (h : Stepped 10 A P root' L' A' P' (40 * i + 40)) (hl : L'.length ≤ L.length + 1) :
    Std w0 w' bx bt bd bp ba n root' L' (i + 1) A' P' F' := by
  obtain ⟨T', af, on', few'⟩ := h
  refine ⟨D', T', on', af.left s.left, af.len.trans s.num, af.blen.trans s.blen, few'.mono (by omega), ?_, fun x hx => ?_, g.1.new s.hx s.new⟩
  · have := s.li; omega
  · exact (g.2 x hx).elim (s.new x) fun h => Nat.le_trans s.hx.size h
theorem Std.does {t : St7} {v : Value} (s : Std w0 w bx bt bd bp ba n root L i A P F) (h : Does w bx bt bd bp ba A P F (stepL t L) (40 * i) v w') :
    ∃ root' a' c' A' P' F', v = .tuple #[.int .i64 root', .slice a' (stepL t L).length c', .bool true] ∧ Std w0 w' bx bt bd bp ba n root' (stepL t L) (i + 1) A' P' F' ∧ Prs w' (TM F' ba bt bp []) a' (stepL t L).length c' (stepL t L) ∧ Grown (TM F ba bt bp []) (TM F' ba bt bp []) w w' := by
  obtain ⟨root', a', c', A', P', F', hv, D', g, st, PL'⟩ := h.ex
  exact ⟨root', a', c', A', P', F', hv, s.step D' g st (stepL_len s.T.rise), PL', g⟩
/-- What is put. -/
theorem Std.put (s : Std w0 w bx bt bd bp ba n root L i A P F) (hn : n ≤ 2000) (hi : i ≤ 1000) (hfree : 24 ≤ freeP P) {ka va : Option Addr} {kc vc : Nat} {key val : Byt} (Rk : Rdx w (TM F ba bt bp []) ka key) (Rv : Rdx w (TM F ba bt bp []) va val) (hkc : key.length ≤ kc) (hvc : val.length ≤ vc) (hk : rightK key.length val.length = true) :
    Ret Tryz.prog 26 #[ptr bt, .int .i64 root, .slice ka key.length kc, .slice va val.length vc] w fun v w' => ∃ root' A' P' F', v = .tuple #[.int .i64 root', .int .i64 0] ∧ Std w0 w' bx bt bd bp ba n root' (putP L key val) (i + 1) A' P' F' ∧ After 10 A P A' P' ∧ Grown (TM F ba bt bp []) (TM F' ba bt bp []) w w' := by
  obtain ⟨S, td, -, -⟩ := s.told hn
  have hlo := td.rlo; have hhi := td.rhi; have hnum := s.num
  have hkl : key.length ≤ 32 := by unfold rightK at hk; simp only [Bool.and_eq_true, decide_eq_true_eq] at hk; omega
  have hgood := put_good (key := key) (val := val) s.T s.on s.hl (by omega) s.left hfree s.few
  rcases hgood with ⟨h, _⟩ | ⟨_, h1, h4⟩
  · rw [hk] at h; cases h
  · refine (put8_ok (by omega) s.D.T root (by omega) (by omega) ka va kc vc _ _ key val Rk Rv rfl rfl hkc hvc (by omega) s.few (by omega) (by rw [h1]; decide)).mono fun v w' ⟨F', hv, T', g⟩ => ?_
    rw [h1] at hv
    exact ⟨_, _, _, F', hv, s.step (s.D.step T' g) g h4 (putP_len _ _ _ s.T.rise), h4.aft, g⟩
/-- What is cut. -/
theorem Std.cut (s : Std w0 w bx bt bd bp ba n root L i A P F) (hn : n ≤ 2000) (hi : i ≤ 1000) (hfree : 24 ≤ freeP P) {ka : Option Addr} {kc : Nat} {key : Byt} (Rk : Rdx w (TM F ba bt bp []) ka key) (hk : rightK key.length 0 = true) :
    Ret Tryz.prog 27 #[ptr bt, .int .i64 root, .slice ka key.length kc] w fun v w' => ∃ root' A' P' F', v = .tuple #[.int .i64 root', .bool (getP L key).isSome, .int .i64 0] ∧ Std w0 w' bx bt bd bp ba n root' (cutP L key) (i + 1) A' P' F' ∧ After 10 A P A' P' ∧ ((getP L key).isSome = false → root' = root) ∧ Grown (TM F ba bt bp []) (TM F' ba bt bp []) w w' := by
  obtain ⟨S, td, -, -⟩ := s.told hn
  have hlo := td.rlo; have hhi := td.rhi; have hnum := s.num
  have hkl : key.length ≤ 32 := by unfold rightK at hk; simp only [Bool.and_eq_true, decide_eq_true_eq] at hk; omega
  have hgood := cut_good (key := key) s.T s.on s.hl (by omega) s.left hfree s.few
  rcases hgood with ⟨h, _⟩ | ⟨_, h1, h2, h3, h4⟩
  · rw [hk] at h; cases h
  · refine (cut8_ok (by omega) s.D.T root (by omega) (by omega) ka kc _ key Rk rfl (by omega) s.few (by omega) (by rw [h1]; decide)).mono fun v w' ⟨F', hv, T', g⟩ => ?_
    rw [h1, h2] at hv
    exact ⟨_, _, _, F', hv, s.step (s.D.step T' g) g h4 (Nat.le_succ_of_le (cutP_len _ _)), h4.aft, h3, g⟩
/-- What is there. -/
theorem Std.get (s : Std w0 w bx bt bd bp ba n root L i A P F) (hn : n ≤ 2000) (hi : i ≤ 1000) {ka : Option Addr} {kc : Nat} {key : Byt} (Rk : Rd w ka 1 B8 key) :
    Ret Tryz.prog 17 #[ptr bt, .int .i64 root, .slice ka key.length kc] w fun v w' => ∃ va vc u b e, v = .tuple #[.slice va (List.length u) vc, .bool b, .int .i64 e] ∧ Ext [] w w' ∧ Rdx w' (TM F ba bt bp []) va u ∧ (rightK key.length 0 = true → e = 0 ∧ b = (getP L key).isSome ∧ u = (getP L key).getD []) := by
  obtain ⟨S, td, -, -⟩ := s.told hn
  have hlo := td.rlo; have hhi := td.rhi; have hnum := s.num
  have hg := get_good (key := key) s.T s.on s.hl (by omega)
  refine (get7_ok s.D.T (by omega) root ⟨by omega, by omega⟩ ka kc _ key Rk rfl s.few (by omega)).mono fun v w' ⟨va, vc, u, hv, hx, X, hc, hu⟩ => ?_
  refine ⟨va, vc, u, _, _, hv, hx, ⟨X.1, X.2.imp id fun h hm => h (s.D.T.mlt _ hm)⟩, fun hk => ?_⟩
  rw [hu, hg, if_pos hk]
  exact ⟨rfl, rfl, rfl⟩
end
/-- As long as none is settled, none is dropped. -/
theorem free_young {P P' : List Nat} (h : P'.map backS = P.map backS) (h0 : ∀ s ∈ P, s = 0) : freeP (P'.map settleS) = freeP P' := by
  have h1 : ∀ s ∈ P', backS s = 0 := fun s hs => by
    have h2 : backS s ∈ P'.map backS := List.mem_map_of_mem hs
    rw [h] at h2
    obtain ⟨t, ht, he⟩ := List.mem_map.1 h2
    rw [← he, h0 t ht]; rfl
  unfold freeP
  rw [List.countP_map]
  refine List.countP_congr fun s hs => ?_
  have h3 := h1 s hs
  unfold backS at h3
  simp only [Function.comp_apply, decide_eq_true_eq]
  unfold settleS
  split at h3
  · rename_i h4; subst h4; decide
  · split at h3
    · cases h3
    · subst h3; decide

/-! ### Steps that are given -/
structure Sm.In (w : World) (m : Sm) : Prop where
  k : Rd w m.ka 1 B8 m.s.key
  v : Rd w m.va 1 B8 m.s.val
  kc : m.s.key.length ≤ m.kc
  vc : m.s.val.length ≤ m.vc
theorem Rdx.of0 {w0 w : World} {M : Mut} {a : Option Addr} {l : Byt} (R : Rd w0 a 1 B8 l) (hx : Ext [] w0 w) (hM : ∀ x, M x → w0.heap.size ≤ x) : Rdx w M a l := by
  refine ⟨R.ext0 hx, ?_⟩
  rcases rd_ltN R (by decide) (fun _ _ => rfl) with h | h
  · exact .inl h
  · exact .inr fun hm => by have := hM _ hm; omega
theorem Sm.In.ok {w0 w : World} {M : Mut} {m : Sm} (h : m.In w0) (hk : m.s.key.length ≤ 200) (hv : m.s.val.length ≤ 500) (hx : Ext [] w0 w) (hM : ∀ x, M x → w0.heap.size ≤ x) : m.Ok w M :=
  ⟨.of0 h.k hx hM, .of0 h.v hx hM, h.kc, h.vc, hk, hv⟩
def smallS (m : Sm) : Prop := m.s.key.length ≤ 200 ∧ m.s.val.length ≤ 500
def bigS (m : Sm) : Bool := decide (200 < m.s.key.length) || decide (500 < m.s.val.length)
def heavy7B (l : List Sm) : Bool := (l.take 500).any bigS || decide (300 < l.length)
end Go.Proofs.YtbkadlngijkmmaaGreatDoor

/- The chapter's examples. -/
namespace Go.Proofs.YtbkadlngijkmmaaGreatDoor
open Go.GV
theorem ag_34_TrG5 : aggB Tryz.prog 34 = some false := by kernel_rfl
theorem ca_14_TrG5 : callable Tryz.prog 14 = true := by kernel_rfl
theorem ca_17_TrG5 : callable Tryz.prog 17 = true := by kernel_rfl
theorem ca_26_TrG5 : callable Tryz.prog 26 = true := by kernel_rfl
theorem ca_27_TrG5 : callable Tryz.prog 27 = true := by kernel_rfl
theorem ca_33_TrG5 : callable Tryz.prog 33 = true := by kernel_rfl
theorem fo_36_2_TrG5 : fieldO Tryz.prog 36 2 = some 2 := by kernel_rfl
theorem un_26_TrG5 : Tryz.prog.underlying 26 = some (.pointer 36) := by kernel_rfl
attribute [local irreducible] Wops W Wq Wt

theorem b7_ok (l : Byt) (w : World) : Ret Tryz.prog 33 #[str l] w fun v w' => ∃ b c, v = .slice (some ⟨b, 0, none⟩) l.length c ∧ Rd w' (some ⟨b, 0, none⟩) 1 B8 l ∧ l.length ≤ c ∧ w.heap.size ≤ b ∧ Ext [] w w' := by
  obtain ⟨w0, rfl⟩ : ∃ w0, w0 = w := ⟨_, rfl⟩
  refine ret_of_W (fn := Tryz.f33) Tryz.func33 rfl [str l] rfl (by kernel_rfl) ?_
  refine W_rseq ?_
  refine op_assign rfl (.slice _ _ _) rfl ?_
  refine op_nil (at_then ?_)
  refine W_rseq ?_
  refine op_move rfl (.string _) rfl ?_
  refine op_bytes (l := l) rfl un_9 el_23 un_5 rfl ?_
  rintro b c w hb hc hx R
  refine op_assign rfl (.slice _ _ _) rfl ?_
  refine op_nil (at_then ?_)
  refine W_ret (leave1 (v := (.slice _ _ _)) rfl rfl rfl ?_)
  exact ⟨b, c, rfl, R, hc, hb, hx⟩
theorem Rdx.new {w w1 w2 : World} {M : Mut} {b : Nat} {l : Byt} (R : Rd w2 (some ⟨b, 0, none⟩) 1 B8 l) (hM : ∀ x, M x → x < w.heap.size) (hs : w.heap.size ≤ w1.heap.size) (hb : w1.heap.size ≤ b) : Rdx w2 M (some ⟨b, 0, none⟩) l :=
  ⟨R, .inr fun h => by have : b < w.heap.size := hM _ h; omega⟩
def kA : Byt := [97]
def kB : Byt := [98]
def vA : Byt := [49]

set_option maxRecDepth 20000 in
set_option maxHeartbeats 8000000 in
theorem works7_ok (w : World) : Ret Tryz.prog 13 #[] w fun v w' => v = .bool true ∧ Ext [] w w' := by
  obtain ⟨w0, rfl⟩ : ∃ w0, w0 = w := ⟨_, rfl⟩
  refine ret_of_W (fn := Tryz.f13) Tryz.func13 rfl [] rfl (by kernel_rfl) ?_
  refine W_rseq ?_
  refine op_assign rfl (.bool _) rfl ?_
  refine op_nil (at_then ?_)
  refine W_rseq ?_
  refine op_call rfl ca_14_TrG5 (opened_ok 40 (by omega) (by omega) w0) rfl ?_
  rintro v w ⟨bx, bt, bd, bp, ba, F, rfl, D, hx, hnew, -⟩
  refine op_assign rfl (.pointer _) rfl ?_
  refine op_nil (at_then ?_)
  refine W_seq ?_
  refine W_rseq ?_
  refine op_move rfl (.pointer _) rfl ?_
  refine op_eqlptr rfl un_26_TrG5 rfl ?_
  refine op_nil (at_then ?_)
  refine W_cond0 rfl ?_
  refine W_skip (at_then ?_)
  obtain ⟨w1, rfl⟩ : ∃ z, z = w := ⟨_, rfl⟩
  obtain ⟨A0, hA0⟩ : ∃ A, A = newD (10 + 40) := ⟨_, rfl⟩
  obtain ⟨P0, hP0⟩ : ∃ P, P = List.replicate 40 0 := ⟨_, rfl⟩
  have s1 : Std w0 w1 bx bt bd bp ba 40 (-1) [] 0 A0 P0 F := by
    rw [hA0, hP0]
    exact ⟨D, new_tree 40, rfl, rfl, List.length_replicate .., newD_len _, new_few7 _, Nat.le_refl _, hnew, hx⟩
  have hfree0 : 24 ≤ freeP P0 := by rw [hP0, new_free]; omega
  have hz0 : ∀ s ∈ P0, s = 0 := fun s hs => by rw [hP0] at hs; exact List.eq_of_mem_replicate hs
  have H := Ctx.start w1 []
  refine W_sseqz [([0, 1, 2, 3], 4), ([], 5), ([], 6), ([7, 8, 9, 10], 11)] (fun z => z.heap[bx]? = some (Bl 36 [ptr bd, ptr bp, ptr bt])) [] mixed (by kernel_rfl) (s1.D.dk) ?_
  refine seg_cons rfl rfl ?_
  refine t_move rfl (.pointer _) rfl ?_
  refine t_nilCheck rfl rfl ?_
  refine t_fieldAddr rfl fo_36_2_TrG5 rfl ?_
  first | refine t_ldb rfl ag_34_TrG5 rfl (fun _ _ => Ctx.start _ []) (by first | exact at0 | exact at1 | exact at2 | exact at3 | exact at4 | exact at5 | exact at6 | exact at7 | exact at8 | exact at9) rfl ?_ | refine t_ld rfl ag_34_TrG5 rfl (fun _ hx => (by rw [cell_bl hx]; rfl)) ?_
  refine t_nil ?_
  skip
  refine op_call rfl ca_33_TrG5 (b7_ok kA _) rfl ?_
  rintro v w2 ⟨b2, c2, rfl, R2, hc2, hb2, hx2⟩
  have s2 := (s1.call (Ext.drew [] w1)).call hx2
  refine op_nil (at_seg (s2.D.dk) ?_)
  refine seg_cons rfl rfl ?_
  refine t_nil ?_
  refine op_call rfl ca_33_TrG5 (b7_ok vA _) rfl ?_
  rintro v w3 ⟨b3, c3, rfl, R3, hc3, hb3, hx3⟩
  have s3 := s2.call hx3
  refine op_nil (at_seg (s3.D.dk) ?_)
  refine seg_cons rfl rfl ?_
  refine t_nil ?_
  refine op_call rfl ca_26_TrG5 (s3.put (by omega) (by omega) hfree0 (Rdx.new (R2.ext0 hx3) s1.D.T.mlt (Nat.le_refl _) hb2) (Rdx.new R3 s2.D.T.mlt (Nat.le_refl _) hb3) hc2 hc3 (by decide)) rfl ?_
  rintro v w4 ⟨r4, A4, P4, F4, rfl, s4, af4, -⟩
  refine op_nil (at_seg (s4.D.dk) ?_)
  refine seg_cons rfl rfl ?_
  refine t_move rfl (.tuple _) rfl ?_
  refine t_extract rfl rfl rfl ?_
  refine t_extract rfl rfl rfl ?_
  refine t_assign rfl (.int _ _) rfl ?_
  refine t_nil ?_
  refine op_assign rfl (.int _ _) rfl ?_
  refine op_nil (at_seg (s4.D.dk) ?_)
  refine seg_nil ?_
  have hL4 : putP [] kA vA = [(kA, vA)] := rfl
  rw [hL4] at s4
  have H := Ctx.start w4 []
  refine W_sseqz [([0, 1, 2, 3, 4], 5), ([], 6), ([7, 8, 9, 10, 11, 12], 13)] (fun z => z.heap[bx]? = some (Bl 36 [ptr bd, ptr bp, ptr bt])) [] mixed (by kernel_rfl) (s4.D.dk) ?_
  refine seg_cons rfl rfl ?_
  refine t_move rfl (.pointer _) rfl ?_
  refine t_nilCheck rfl rfl ?_
  refine t_fieldAddr rfl fo_36_2_TrG5 rfl ?_
  first | refine t_ldb rfl ag_34_TrG5 rfl (fun _ _ => Ctx.start _ []) (by first | exact at0 | exact at1 | exact at2 | exact at3 | exact at4 | exact at5 | exact at6 | exact at7 | exact at8 | exact at9) rfl ?_ | refine t_ld rfl ag_34_TrG5 rfl (fun _ hx => (by rw [cell_bl hx]; rfl)) ?_
  refine t_move rfl (.int _ _) rfl ?_
  refine t_nil ?_
  skip
  refine op_call rfl ca_33_TrG5 (b7_ok kA _) rfl ?_
  rintro v w5 ⟨b5, c5, rfl, R5, hc5, hb5, hx5⟩
  have s5 := (s4.call (Ext.drew [] w4)).call hx5
  refine op_nil (at_seg (s5.D.dk) ?_)
  refine seg_cons rfl rfl ?_
  refine t_nil ?_
  refine op_call rfl ca_17_TrG5 (s5.get (by omega) (by omega) R5) rfl ?_
  rintro v w6 ⟨a6, c6, u6, g6, e6, rfl, hx6, R6, h6⟩
  have s6 := s5.call hx6
  refine op_nil (at_seg (s6.D.dk) ?_)
  refine seg_cons rfl rfl ?_
  refine t_move rfl (.tuple _) rfl ?_
  refine t_extract rfl rfl rfl ?_
  refine t_extract rfl rfl rfl ?_
  refine t_extract rfl rfl rfl ?_
  refine t_assign rfl (.slice _ _ _) rfl ?_
  refine t_assign rfl (.bool _) rfl ?_
  refine t_nil ?_
  refine op_assign rfl (.int _ _) rfl ?_
  refine op_nil (at_seg (s6.D.dk) ?_)
  refine seg_nil ?_
  obtain ⟨rfl, hg6, hu6⟩ := h6 (by decide)
  rw [show getP [(kA, vA)] kA = some vA from rfl] at hg6 hu6
  obtain rfl : g6 = true := hg6
  obtain rfl : u6 = vA := hu6
  have H := Ctx.start w6 []
  refine W_sseqz [([0, 1, 2, 3, 4], 5), ([], 6), ([7, 8, 9, 10, 11, 12], 13)] (fun z => z.heap[bx]? = some (Bl 36 [ptr bd, ptr bp, ptr bt])) [] mixed (by kernel_rfl) (s6.D.dk) ?_
  refine seg_cons rfl rfl ?_
  refine t_move rfl (.pointer _) rfl ?_
  refine t_nilCheck rfl rfl ?_
  refine t_fieldAddr rfl fo_36_2_TrG5 rfl ?_
  first | refine t_ldb rfl ag_34_TrG5 rfl (fun _ _ => Ctx.start _ []) (by first | exact at0 | exact at1 | exact at2 | exact at3 | exact at4 | exact at5 | exact at6 | exact at7 | exact at8 | exact at9) rfl ?_ | refine t_ld rfl ag_34_TrG5 rfl (fun _ hx => (by rw [cell_bl hx]; rfl)) ?_
  refine t_move rfl (.int _ _) rfl ?_
  refine t_nil ?_
  skip
  refine op_call rfl ca_33_TrG5 (b7_ok kB _) rfl ?_
  rintro v w7 ⟨b7, c7, rfl, R7, hc7, hb7, hx7⟩
  have s7 := (s6.call (Ext.drew [] w6)).call hx7
  refine op_nil (at_seg (s7.D.dk) ?_)
  refine seg_cons rfl rfl ?_
  refine t_nil ?_
  refine op_call rfl ca_17_TrG5 (s7.get (by omega) (by omega) R7) rfl ?_
  rintro v w8 ⟨a8, c8, u8, g8, e8, rfl, hx8, R8, h8⟩
  have s8 := s7.call hx8
  refine op_nil (at_seg (s8.D.dk) ?_)
  refine seg_cons rfl rfl ?_
  refine t_move rfl (.tuple _) rfl ?_
  refine t_extract rfl rfl rfl ?_
  refine t_extract rfl rfl rfl ?_
  refine t_extract rfl rfl rfl ?_
  refine t_assign rfl (.slice _ _ _) rfl ?_
  refine t_assign rfl (.bool _) rfl ?_
  refine t_nil ?_
  refine op_assign rfl (.int _ _) rfl ?_
  refine op_nil (at_seg (s8.D.dk) ?_)
  refine seg_nil ?_
  obtain ⟨rfl, hg8, hu8⟩ := h8 (by decide)
  rw [show getP [(kA, vA)] kB = none from rfl] at hg8 hu8
  obtain rfl : g8 = false := hg8
  obtain rfl : u8 = [] := hu8
  obtain ⟨S4, td4, hnd4, hS4⟩ := s4.told (by omega)
  have hset := settle_free s4.D.T.pg.ok hnd4 hS4
  rw [free_young af4.back hz0] at hset
  have hlen4 := td4.len
  have hnum4 := s4.num
  rw [show [(kA, vA)].length = 1 from rfl] at hlen4
  have hfree4 : 24 ≤ freeP P4 := by omega
  have hr4 : 0 ≤ r4 := by
    have h1 := td4.rlo
    have h2 : r4 ≠ -1 := fun h => by have h := td4.none.1 h; cases h
    omega
  have H := Ctx.start w8 []
  refine W_sseqz [([0, 1, 2, 3, 4], 5), ([], 6), ([7, 8, 9, 10, 11, 12], 13)] (fun z => z.heap[bx]? = some (Bl 36 [ptr bd, ptr bp, ptr bt])) [] mixed (by kernel_rfl) (s8.D.dk) ?_
  refine seg_cons rfl rfl ?_
  refine t_move rfl (.pointer _) rfl ?_
  refine t_nilCheck rfl rfl ?_
  refine t_fieldAddr rfl fo_36_2_TrG5 rfl ?_
  first | refine t_ldb rfl ag_34_TrG5 rfl (fun _ _ => Ctx.start _ []) (by first | exact at0 | exact at1 | exact at2 | exact at3 | exact at4 | exact at5 | exact at6 | exact at7 | exact at8 | exact at9) rfl ?_ | refine t_ld rfl ag_34_TrG5 rfl (fun _ hx => (by rw [cell_bl hx]; rfl)) ?_
  refine t_move rfl (.int _ _) rfl ?_
  refine t_nil ?_
  skip
  refine op_call rfl ca_33_TrG5 (b7_ok kB _) rfl ?_
  rintro v w9 ⟨b9, c9, rfl, R9, hc9, hb9, hx9⟩
  have s9 := (s8.call (Ext.drew [] w8)).call hx9
  refine op_nil (at_seg (s9.D.dk) ?_)
  refine seg_cons rfl rfl ?_
  refine t_nil ?_
  refine op_call rfl ca_27_TrG5 (s9.cut (by omega) (by omega) hfree4 (Rdx.new R9 s8.D.T.mlt (Nat.le_refl _) hb9) (by decide)) rfl ?_
  rintro v w10 ⟨r10, A10, P10, F10, rfl, s10, af10, hr10, g10⟩
  refine op_nil (at_seg (s10.D.dk) ?_)
  refine seg_cons rfl rfl ?_
  refine t_move rfl (.tuple _) rfl ?_
  refine t_extract rfl rfl rfl ?_
  refine t_extract rfl rfl rfl ?_
  refine t_extract rfl rfl rfl ?_
  refine t_assign rfl (.int _ _) rfl ?_
  refine t_assign rfl (.bool _) rfl ?_
  refine t_nil ?_
  refine op_assign rfl (.int _ _) rfl ?_
  refine op_nil (at_seg (s10.D.dk) ?_)
  refine seg_nil ?_
  obtain rfl : r10 = r4 := hr10 rfl
  rw [show cutP [(kA, vA)] kB = [(kA, vA)] from rfl] at s10
  rw [show (getP [(kA, vA)] kB).isSome = false from rfl]
  obtain ⟨S10, td10, hnd10, hS10⟩ := s10.told (by omega)
  have hset10 := settle_free s10.D.T.pg.ok hnd10 hS10
  rw [free_young (af10.back.trans af4.back) hz0] at hset10
  have hlen10 := td10.len
  have hnum10 := s10.num
  rw [show [(kA, vA)].length = 1 from rfl] at hlen10
  have hfree10 : 24 ≤ freeP P10 := by omega
  have H := Ctx.start w10 []
  refine W_sseqz [([0, 1, 2, 3, 4], 5), ([], 6), ([7, 8, 9, 10, 11, 12], 13)] (fun z => z.heap[bx]? = some (Bl 36 [ptr bd, ptr bp, ptr bt])) [] mixed (by kernel_rfl) (s10.D.dk) ?_
  refine seg_cons rfl rfl ?_
  refine t_move rfl (.pointer _) rfl ?_
  refine t_nilCheck rfl rfl ?_
  refine t_fieldAddr rfl fo_36_2_TrG5 rfl ?_
  first | refine t_ldb rfl ag_34_TrG5 rfl (fun _ _ => Ctx.start _ []) (by first | exact at0 | exact at1 | exact at2 | exact at3 | exact at4 | exact at5 | exact at6 | exact at7 | exact at8 | exact at9) rfl ?_ | refine t_ld rfl ag_34_TrG5 rfl (fun _ hx => (by rw [cell_bl hx]; rfl)) ?_
  refine t_move rfl (.int _ _) rfl ?_
  refine t_nil ?_
  skip
  refine op_call rfl ca_33_TrG5 (b7_ok kA _) rfl ?_
  rintro v w11 ⟨b11, c11, rfl, R11, hc11, hb11, hx11⟩
  have s11 := (s10.call (Ext.drew [] w10)).call hx11
  refine op_nil (at_seg (s11.D.dk) ?_)
  refine seg_cons rfl rfl ?_
  refine t_nil ?_
  refine op_call rfl ca_27_TrG5 (s11.cut (by omega) (by omega) hfree10 (Rdx.new R11 s10.D.T.mlt (Nat.le_refl _) hb11) (by decide)) rfl ?_
  rintro v w12 ⟨r12, A12, P12, F12, rfl, s12, -, -, g12⟩
  refine op_nil (at_seg (s12.D.dk) ?_)
  refine seg_cons rfl rfl ?_
  refine t_move rfl (.tuple _) rfl ?_
  refine t_extract rfl rfl rfl ?_
  refine t_extract rfl rfl rfl ?_
  refine t_extract rfl rfl rfl ?_
  refine t_assign rfl (.int _ _) rfl ?_
  refine t_assign rfl (.bool _) rfl ?_
  refine t_nil ?_
  refine op_assign rfl (.int _ _) rfl ?_
  refine op_nil (at_seg (s12.D.dk) ?_)
  refine seg_nil ?_
  rw [show cutP [(kA, vA)] kA = [] from rfl] at s12
  rw [show (getP [(kA, vA)] kA).isSome = true from rfl]
  obtain ⟨S12, td12, -, -⟩ := s12.told (by omega)
  obtain rfl : r12 = -1 := td12.none.2 rfl
  have X8 := R6.turn (.call0 (((Ext.drew [] w6).trans hx7).trans hx8))
  have X10 := (X8.turn (.call0 ((Ext.drew [] w8).trans hx9))).turn g10
  have X12 := (X10.turn (.call0 ((Ext.drew [] w10).trans hx11))).turn g12
  refine W_rseq ?_
  refine op_move rfl (.int _ _) rfl ?_
  refine op_eql rfl rfl rfl ?_
  refine op_move rfl (.bool _) rfl ?_
  refine op_move rfl (.int _ _) rfl ?_
  refine op_geq rfl rfl rfl ?_
  rw [decide_eq_true hr4]
  refine op_pick1 rfl rfl (.bool _) rfl ?_
  refine op_move rfl (.bool _) rfl ?_
  refine op_move rfl (.slice _ _ _) rfl ?_
  refine op_back (l := vA) rfl el_23 un_5 un_9 rfl X12.1 ?_
  refine op_streq (l := vA) (m := [49]) rfl rfl rfl ?_
  rw [show decide (vA = [49]) = true from rfl]
  refine op_pick1 rfl rfl (.bool _) rfl ?_
  refine op_move rfl (.bool _) rfl ?_
  refine op_move rfl (.bool _) rfl ?_
  refine op_pick1 rfl rfl (.bool _) rfl ?_
  refine op_move rfl (.bool _) rfl ?_
  refine op_move rfl (.int _ _) rfl ?_
  refine op_eql rfl rfl rfl ?_
  refine op_pick1 rfl rfl (.bool _) rfl ?_
  refine op_move rfl (.bool _) rfl ?_
  refine op_move rfl (.bool _) rfl ?_
  refine op_not rfl rfl ?_
  refine op_pick1 rfl rfl (.bool _) rfl ?_
  refine op_move rfl (.bool _) rfl ?_
  refine op_move rfl (.int _ _) rfl ?_
  refine op_eql rfl rfl rfl ?_
  refine op_pick1 rfl rfl (.bool _) rfl ?_
  refine op_move rfl (.bool _) rfl ?_
  refine op_move rfl (.int _ _) rfl ?_
  refine op_move rfl (.int _ _) rfl ?_
  refine op_eql rfl rfl rfl ?_
  rw [show decide (r10 = r10) = true from decide_eq_true rfl]
  refine op_pick1 rfl rfl (.bool _) rfl ?_
  refine op_move rfl (.bool _) rfl ?_
  refine op_move rfl (.bool _) rfl ?_
  refine op_not rfl rfl ?_
  refine op_pick1 rfl rfl (.bool _) rfl ?_
  refine op_move rfl (.bool _) rfl ?_
  refine op_move rfl (.int _ _) rfl ?_
  refine op_eql rfl rfl rfl ?_
  refine op_pick1 rfl rfl (.bool _) rfl ?_
  refine op_move rfl (.bool _) rfl ?_
  refine op_move rfl (.int _ _) rfl ?_
  refine op_eql rfl rfl rfl ?_
  refine op_pick1 rfl rfl (.bool _) rfl ?_
  refine op_move rfl (.bool _) rfl ?_
  refine op_move rfl (.bool _) rfl ?_
  refine op_pick1 rfl rfl (.bool _) rfl ?_
  refine op_move rfl (.bool _) rfl ?_
  refine op_move rfl (.int _ _) rfl ?_
  refine op_eql rfl rfl rfl ?_
  refine op_pick1 rfl rfl (.bool _) rfl ?_
  refine op_assign rfl (.bool _) rfl ?_
  refine op_nil (at_then ?_)
  refine W_ret (leave1 (v := (.bool _)) rfl rfl rfl ?_)
  exact ⟨rfl, s12.hx⟩

end Go.Proofs.YtbkadlngijkmmaaGreatDoor

/- What is done without a tree, and with roots that are none. -/
namespace Go.Proofs.YtbkadlngijkmmaaGreatDoor
open Go.GV
theorem ag_28_TrG6 : aggB Tryz.prog 28 = some false := by kernel_rfl
theorem ag_31_TrG6 : aggB Tryz.prog 31 = some false := by kernel_rfl
theorem ca_13_TrG6 : callable Tryz.prog 13 = true := by kernel_rfl
theorem ca_17_TrG6 : callable Tryz.prog 17 = true := by kernel_rfl
theorem ca_23_TrG6 : callable Tryz.prog 23 = true := by kernel_rfl
theorem ca_26_TrG6 : callable Tryz.prog 26 = true := by kernel_rfl
theorem ca_27_TrG6 : callable Tryz.prog 27 = true := by kernel_rfl
theorem ca_28_TrG6 : callable Tryz.prog 28 = true := by kernel_rfl
theorem ca_29_TrG6 : callable Tryz.prog 29 = true := by kernel_rfl
theorem ca_30_TrG6 : callable Tryz.prog 30 = true := by kernel_rfl
theorem ca_31_TrG6 : callable Tryz.prog 31 = true := by kernel_rfl
theorem ca_32_TrG6 : callable Tryz.prog 32 = true := by kernel_rfl
theorem ca_33_TrG6 : callable Tryz.prog 33 = true := by kernel_rfl
theorem ca_64_TrG6 : callable Tryz.prog 64 = true := by kernel_rfl
theorem el_28_TrG6 : elemT Tryz.prog 28 = some 70 := by kernel_rfl
theorem sz_28_TrG6 : tsize Tryz.prog 28 = some 1 := by kernel_rfl
theorem sz_31_TrG6 : tsize Tryz.prog 31 = some 1 := by kernel_rfl
theorem un_33_TrG6 : Tryz.prog.underlying 33 = some (.pointer 111) := by kernel_rfl
theorem un_34_TrG6 : Tryz.prog.underlying 34 = some (.pointer 146) := by kernel_rfl
theorem zc_28_TrG6 : zcells Tryz.prog 28 = some ([.slice none 0 0]) := by kernel_rfl
theorem zc_31_TrG6 : zcells Tryz.prog 31 = some ([.int .i64 0]) := by kernel_rfl
theorem zc_57_TrG6 : zcells Tryz.prog 57 = some ([.slice none 0 0]) := by kernel_rfl
attribute [local irreducible] Wops W Wq Wt

theorem get7_nil (root : Int) (ka : Option Addr) (kn kc : Nat) (w : World) : Ret Tryz.prog 17 #[.pointer none, .int .i64 root, .slice ka kn kc] w fun v w' => v = .tuple #[.slice none 0 0, .bool false, .int .i64 2] ∧ Ext [] w w' := by
  obtain ⟨w0, rfl⟩ : ∃ w0, w0 = w := ⟨_, rfl⟩
  refine ret_of_W (fn := Tryz.f17) Tryz.func17 rfl [.pointer none, .int .i64 root, .slice ka kn kc] rfl (by kernel_rfl) ?_
  refine W_rseq ?_
  refine op_assign rfl (.slice _ _ _) rfl ?_
  refine op_assign rfl (.bool _) rfl ?_
  refine op_assign rfl (.int _ _) rfl ?_
  refine op_nil (at_then ?_)
  refine W_seq ?_
  refine W_rseq ?_
  refine op_move rfl (.pointer _) rfl ?_
  refine op_move rfl (.int _ _) rfl ?_
  refine op_call rfl ca_64_TrG6 (may7_nil root _) rfl ?_
  rintro v w ⟨rfl, rfl⟩
  refine op_assign rfl (.int _ _) rfl ?_
  refine op_nil (at_then ?_)
  refine W_rseq ?_
  refine op_move rfl (.int _ _) rfl ?_
  refine op_neq rfl rfl rfl ?_
  refine op_nil (at_then ?_)
  refine W_cond1 rfl ?_
  refine W_rseq ?_
  refine op_move rfl (.int _ _) rfl ?_
  refine op_assign rfl (.slice _ _ _) rfl ?_
  refine op_assign rfl (.bool _) rfl ?_
  refine op_assign rfl (.int _ _) rfl ?_
  refine op_nil (at_then ?_)
  refine W_ret (ret_then (leave3 (v1 := (.slice _ _ _)) (v2 := (.bool _)) (v3 := (.int _ _)) rfl rfl rfl rfl rfl ?_))
  exact ⟨rfl, Ext.refl _ _⟩
theorem put7_nil (root : Int) (ka va : Option Addr) (kn kc vn vc : Nat) (w : World) : Ret Tryz.prog 26 #[.pointer none, .int .i64 root, .slice ka kn kc, .slice va vn vc] w fun v w' => v = .tuple #[.int .i64 root, .int .i64 2] ∧ Ext [] w w' := by
  obtain ⟨w0, rfl⟩ : ∃ w0, w0 = w := ⟨_, rfl⟩
  have H := Ctx.start w0 []
  refine ret_of_W (fn := Tryz.f26) Tryz.func26 rfl [.pointer none, .int .i64 root, .slice ka kn kc, .slice va vn vc] rfl (by kernel_rfl) ?_
  refine W_rseq ?_
  refine op_box rfl _ (.slice _ _ _) rfl rfl H ?_
  rintro b6 w - H
  refine op_box rfl _ (.slice _ _ _) rfl rfl H ?_
  rintro b7 w - H
  refine op_assign rfl (.int _ _) rfl ?_
  refine op_assign rfl (.int _ _) rfl ?_
  refine op_nil (at_then ?_)
  refine W_seq ?_
  refine W_rseq ?_
  refine op_move rfl (.pointer _) rfl ?_
  refine op_move rfl (.int _ _) rfl ?_
  refine op_call rfl ca_64_TrG6 (may7_nil root _) rfl ?_
  rintro v w2 ⟨rfl, rfl⟩
  refine op_assign rfl (.int _ _) rfl ?_
  refine op_nil (at_then ?_)
  refine W_rseq ?_
  refine op_move rfl (.int _ _) rfl ?_
  refine op_neq rfl rfl rfl ?_
  refine op_nil (at_then ?_)
  refine W_cond1 rfl ?_
  refine W_rseq ?_
  refine op_move rfl (.int _ _) rfl ?_
  refine op_move rfl (.int _ _) rfl ?_
  refine op_assign rfl (.int _ _) rfl ?_
  refine op_assign rfl (.int _ _) rfl ?_
  refine op_nil (at_then ?_)
  refine W_ret (ret_then (leave2 (v1 := (.int _ _)) (v2 := (.int _ _)) rfl rfl rfl rfl ?_))
  exact ⟨rfl, H.ext⟩
theorem cut7_nil (root : Int) (ka : Option Addr) (kn kc : Nat) (w : World) : Ret Tryz.prog 27 #[.pointer none, .int .i64 root, .slice ka kn kc] w fun v w' => v = .tuple #[.int .i64 root, .bool false, .int .i64 2] ∧ Ext [] w w' := by
  obtain ⟨w0, rfl⟩ : ∃ w0, w0 = w := ⟨_, rfl⟩
  have H := Ctx.start w0 []
  refine ret_of_W (fn := Tryz.f27) Tryz.func27 rfl [.pointer none, .int .i64 root, .slice ka kn kc] rfl (by kernel_rfl) ?_
  refine W_rseq ?_
  refine op_box rfl _ (.slice _ _ _) rfl rfl H ?_
  rintro b5 w - H
  refine op_assign rfl (.int _ _) rfl ?_
  refine op_assign rfl (.bool _) rfl ?_
  refine op_assign rfl (.int _ _) rfl ?_
  refine op_nil (at_then ?_)
  refine W_rseq ?_
  refine op_move rfl (.pointer _) rfl ?_
  refine op_move rfl (.int _ _) rfl ?_
  refine op_ldb rfl ag_23 rfl H (by first | exact at0 | exact at1 | exact at2 | exact at3 | exact at4 | exact at5 | exact at6 | exact at7 | exact at8 | exact at9) rfl ?_
  refine op_call rfl ca_17_TrG6 (get7_nil root ka kn kc _) rfl ?_
  rintro v w2 ⟨rfl, hx17⟩
  replace H := H.call hx17
  refine op_move rfl (.tuple _) rfl ?_
  refine op_extract rfl rfl rfl ?_
  refine op_extract rfl rfl rfl ?_
  refine op_extract rfl rfl rfl ?_
  refine op_assign rfl (.slice _ _ _) rfl ?_
  refine op_assign rfl (.bool _) rfl ?_
  refine op_assign rfl (.int _ _) rfl ?_
  refine op_nil (at_then ?_)
  refine W_seq ?_
  refine W_rseq ?_
  refine op_move rfl (.int _ _) rfl ?_
  refine op_neq rfl rfl rfl ?_
  refine op_move rfl (.bool _) rfl ?_
  refine op_skip rfl ?_
  refine op_skip rfl ?_
  refine op_pick1 rfl rfl (.bool _) rfl ?_
  refine op_nil (at_then ?_)
  refine W_cond1 rfl ?_
  refine W_rseq ?_
  refine op_move rfl (.int _ _) rfl ?_
  refine op_move rfl (.int _ _) rfl ?_
  refine op_assign rfl (.int _ _) rfl ?_
  refine op_assign rfl (.bool _) rfl ?_
  refine op_assign rfl (.int _ _) rfl ?_
  refine op_nil (at_then ?_)
  refine W_ret (ret_then (leave3 (v1 := (.int _ _)) (v2 := (.bool _)) (v3 := (.int _ _)) rfl rfl rfl rfl rfl ?_))
  exact ⟨rfl, H.ext⟩
theorem scan7_nil (root : Int) (fa ta : Option Addr) (fn' fc tn tc : Nat) (w : World) : Ret Tryz.prog 23 #[.pointer none, .int .i64 root, .slice fa fn' fc, .slice ta tn tc] w fun v w' => v = .tuple #[.slice none 0 0, .int .i64 2] ∧ Ext [] w w' := by
  obtain ⟨w0, rfl⟩ : ∃ w0, w0 = w := ⟨_, rfl⟩
  have H := Ctx.start w0 []
  refine ret_of_WM (fn := Tryz.f23) Tryz.func23 rfl [.pointer none, .int .i64 root, .slice fa fn' fc, .slice ta tn tc] rfl (by kernel_rfl) ?_
  refine W_rseq ?_
  refine op_box rfl _ (.slice _ _ _) rfl rfl H ?_
  rintro b6 w - H
  refine op_alloc rfl zc_28_TrG6 H ?_
  rintro b8 w - H
  refine op_alloc rfl zc_31_TrG6 H ?_
  rintro b9 w - H
  refine op_nil (at_then ?_)
  refine W_seq ?_
  refine W_rseq ?_
  refine op_move rfl (.pointer _) rfl ?_
  refine op_move rfl (.int _ _) rfl ?_
  refine op_call rfl ca_64_TrG6 (may7_nil root _) rfl ?_
  rintro v w2 ⟨rfl, rfl⟩
  refine op_assign rfl (.int _ _) rfl ?_
  refine op_nil (at_then ?_)
  refine W_rseq ?_
  refine op_move rfl (.int _ _) rfl ?_
  refine op_neq rfl rfl rfl ?_
  refine op_nil (at_then ?_)
  refine W_cond1 rfl ?_
  refine W_rseq ?_
  refine op_move rfl (.int _ _) rfl ?_
  refine op_stb (.slice _ _ _) rfl sz_28_TrG6 rfl rfl rfl H (by first | exact at0 | exact at1 | exact at2 | exact at3 | exact at4 | exact at5 | exact at6 | exact at7 | exact at8 | exact at9) (by first | decide | (simp; done) | (simp; omega)) ?_
  rintro w H
  refine op_stb (.int _ _) rfl sz_31_TrG6 rfl rfl rfl H (by first | exact at0 | exact at1 | exact at2 | exact at3 | exact at4 | exact at5 | exact at6 | exact at7 | exact at8 | exact at9) (by first | decide | (simp; done) | (simp; omega)) ?_
  rintro w H
  refine op_nil (at_then ?_)
  refine W_ret (ret_then ?_)
  refine leaveM2cc rfl rfl rfl ag_28_TrG6 ag_31_TrG6 ?_
  exact ⟨_, _, _, _, _, _, H.get at1, H.get at0, rfl, H.ext⟩
theorem walk7_nil (root : Int) (w : World) : Ret Tryz.prog 28 #[.pointer none, .int .i64 root] w fun v w' => v = .tuple #[.slice none 0 0, .int .i64 2] ∧ Ext [] w w' := by
  obtain ⟨w0, rfl⟩ : ∃ w0, w0 = w := ⟨_, rfl⟩
  have H := Ctx.start w0 []
  refine ret_of_WM (fn := Tryz.f28) Tryz.func28 rfl [.pointer none, .int .i64 root] rfl (by kernel_rfl) ?_
  refine W_rseq ?_
  refine op_alloc rfl zc_57_TrG6 H ?_
  rintro b4 w - H
  refine op_alloc rfl zc_31_TrG6 H ?_
  rintro b5 w - H
  refine op_nil (at_then ?_)
  refine W_seq ?_
  refine W_rseq ?_
  refine op_move rfl (.pointer _) rfl ?_
  refine op_move rfl (.int _ _) rfl ?_
  refine op_call rfl ca_64_TrG6 (may7_nil root _) rfl ?_
  rintro v w2 ⟨rfl, rfl⟩
  refine op_assign rfl (.int _ _) rfl ?_
  refine op_nil (at_then ?_)
  refine W_rseq ?_
  refine op_move rfl (.int _ _) rfl ?_
  refine op_neq rfl rfl rfl ?_
  refine op_nil (at_then ?_)
  refine W_cond1 rfl ?_
  refine W_rseq ?_
  refine op_move rfl (.int _ _) rfl ?_
  refine op_stb (.slice _ _ _) rfl sz_57 rfl rfl rfl H (by first | exact at0 | exact at1 | exact at2 | exact at3 | exact at4 | exact at5 | exact at6 | exact at7 | exact at8 | exact at9) (by first | decide | (simp; done) | (simp; omega)) ?_
  rintro w H
  refine op_stb (.int _ _) rfl sz_31_TrG6 rfl rfl rfl H (by first | exact at0 | exact at1 | exact at2 | exact at3 | exact at4 | exact at5 | exact at6 | exact at7 | exact at8 | exact at9) (by first | decide | (simp; done) | (simp; omega)) ?_
  rintro w H
  refine op_nil (at_then ?_)
  refine W_ret (ret_then ?_)
  refine leaveM2cc rfl rfl rfl ag_57 ag_31_TrG6 ?_
  exact ⟨_, _, _, _, _, _, H.get at1, H.get at0, rfl, H.ext⟩
theorem build7_nil (la : Option Addr) (ln lc : Nat) (w : World) : Ret Tryz.prog 29 #[.pointer none, .slice la ln lc] w fun v w' => v = .tuple #[.int .i64 (-1), .int .i64 2] ∧ Ext [] w w' := by
  obtain ⟨w0, rfl⟩ : ∃ w0, w0 = w := ⟨_, rfl⟩
  have H := Ctx.start w0 []
  refine ret_of_WD (fn := Tryz.f29) Tryz.func29 rfl [.pointer none, .slice la ln lc] rfl (by kernel_rfl) ?_
  refine W_rseq ?_
  refine op_assign rfl (.int _ _) rfl ?_
  refine op_alloc rfl zc_31_TrG6 H ?_
  rintro b5 w - H
  refine op_nil (at_then ?_)
  refine W_seq ?_
  refine W_rseq ?_
  refine op_move rfl (.pointer _) rfl ?_
  refine op_eqlptr rfl un_34_TrG6 rfl ?_
  refine op_nil (at_then ?_)
  refine W_cond1 rfl ?_
  refine W_rseq ?_
  refine op_assign rfl (.int _ _) rfl ?_
  refine op_stb (.int _ _) rfl sz_31_TrG6 rfl rfl rfl H (by first | exact at0 | exact at1 | exact at2 | exact at3 | exact at4 | exact at5 | exact at6 | exact at7 | exact at8 | exact at9) (by first | decide | (simp; done) | (simp; omega)) ?_
  rintro w H
  refine op_nil (at_then ?_)
  refine W_ret (ret_then ?_)
  exact fun tmps ht => ⟨_, res2c (k := 0) rfl ht rfl rfl ag_31_TrG6 (H.get at0), rfl, H.ext⟩
section
variable {w : World} {bt bd bp ba fr : Nat} {A : Dev} {P : List Nat} {F : Mut}
theorem scan7_bad (T : Tx w bt bd bp ba fr A P F []) (root : Int) (hm : mayE P.length root = 1) (fa ta : Option Addr) (fn' fc tn tc : Nat) : Ret Tryz.prog 23 #[ptr bt, .int .i64 root, .slice fa fn' fc, .slice ta tn tc] w fun v w' => v = .tuple #[.slice none 0 0, .int .i64 1] ∧ Ext [] w w' := by
  obtain ⟨w0, rfl⟩ : ∃ w0, w0 = w := ⟨_, rfl⟩
  have H := Ctx.start w0 []
  refine ret_of_WM (fn := Tryz.f23) Tryz.func23 rfl [.pointer (some ⟨bt, 0, none⟩), .int .i64 root, .slice fa fn' fc, .slice ta tn tc] rfl (by kernel_rfl) ?_
  refine W_rseq ?_
  refine op_box rfl _ (.slice _ _ _) rfl rfl H ?_
  rintro b6 w - H
  refine op_alloc rfl zc_28_TrG6 H ?_
  rintro b8 w - H
  refine op_alloc rfl zc_31_TrG6 H ?_
  rintro b9 w - H
  refine op_nil (at_then ?_)
  refine W_seq ?_
  refine W_rseq ?_
  refine op_move rfl (.pointer _) rfl ?_
  refine op_move rfl (.int _ _) rfl ?_
  refine op_call rfl ca_64_TrG6 (may7_ok (T.call H.ext) root) rfl ?_
  rintro v w2 ⟨rfl, rfl⟩
  rw [hm]
  refine op_assign rfl (.int _ _) rfl ?_
  refine op_nil (at_then ?_)
  refine W_rseq ?_
  refine op_move rfl (.int _ _) rfl ?_
  refine op_neq rfl rfl rfl ?_
  refine op_nil (at_then ?_)
  refine W_cond1 rfl ?_
  refine W_rseq ?_
  refine op_move rfl (.int _ _) rfl ?_
  refine op_stb (.slice _ _ _) rfl sz_28_TrG6 rfl rfl rfl H (by first | exact at0 | exact at1 | exact at2 | exact at3 | exact at4 | exact at5 | exact at6 | exact at7 | exact at8 | exact at9) (by first | decide | (simp; done) | (simp; omega)) ?_
  rintro w H
  refine op_stb (.int _ _) rfl sz_31_TrG6 rfl rfl rfl H (by first | exact at0 | exact at1 | exact at2 | exact at3 | exact at4 | exact at5 | exact at6 | exact at7 | exact at8 | exact at9) (by first | decide | (simp; done) | (simp; omega)) ?_
  rintro w H
  refine op_nil (at_then ?_)
  refine W_ret (ret_then ?_)
  refine leaveM2cc rfl rfl rfl ag_28_TrG6 ag_31_TrG6 ?_
  exact ⟨_, _, _, _, _, _, H.get at1, H.get at0, rfl, H.ext⟩
theorem walk7_bad (T : Tx w bt bd bp ba fr A P F []) (root : Int) (hm : mayE P.length root = 1) : Ret Tryz.prog 28 #[ptr bt, .int .i64 root] w fun v w' => v = .tuple #[.slice none 0 0, .int .i64 1] ∧ Ext [] w w' := by
  obtain ⟨w0, rfl⟩ : ∃ w0, w0 = w := ⟨_, rfl⟩
  have H := Ctx.start w0 []
  refine ret_of_WM (fn := Tryz.f28) Tryz.func28 rfl [.pointer (some ⟨bt, 0, none⟩), .int .i64 root] rfl (by kernel_rfl) ?_
  refine W_rseq ?_
  refine op_alloc rfl zc_57_TrG6 H ?_
  rintro b4 w - H
  refine op_alloc rfl zc_31_TrG6 H ?_
  rintro b5 w - H
  refine op_nil (at_then ?_)
  refine W_seq ?_
  refine W_rseq ?_
  refine op_move rfl (.pointer _) rfl ?_
  refine op_move rfl (.int _ _) rfl ?_
  refine op_call rfl ca_64_TrG6 (may7_ok (T.call H.ext) root) rfl ?_
  rintro v w2 ⟨rfl, rfl⟩
  rw [hm]
  refine op_assign rfl (.int _ _) rfl ?_
  refine op_nil (at_then ?_)
  refine W_rseq ?_
  refine op_move rfl (.int _ _) rfl ?_
  refine op_neq rfl rfl rfl ?_
  refine op_nil (at_then ?_)
  refine W_cond1 rfl ?_
  refine W_rseq ?_
  refine op_move rfl (.int _ _) rfl ?_
  refine op_stb (.slice _ _ _) rfl sz_57 rfl rfl rfl H (by first | exact at0 | exact at1 | exact at2 | exact at3 | exact at4 | exact at5 | exact at6 | exact at7 | exact at8 | exact at9) (by first | decide | (simp; done) | (simp; omega)) ?_
  rintro w H
  refine op_stb (.int _ _) rfl sz_31_TrG6 rfl rfl rfl H (by first | exact at0 | exact at1 | exact at2 | exact at3 | exact at4 | exact at5 | exact at6 | exact at7 | exact at8 | exact at9) (by first | decide | (simp; done) | (simp; omega)) ?_
  rintro w H
  refine op_nil (at_then ?_)
  refine W_ret (ret_then ?_)
  refine leaveM2cc rfl rfl rfl ag_57 ag_31_TrG6 ?_
  exact ⟨_, _, _, _, _, _, H.get at1, H.get at0, rfl, H.ext⟩
theorem get7_bad (T : Tx w bt bd bp ba fr A P F []) (root : Int) (hm : mayE P.length root = 1) (ka : Option Addr) (kn kc : Nat) : Ret Tryz.prog 17 #[ptr bt, .int .i64 root, .slice ka kn kc] w fun v w' => v = .tuple #[.slice none 0 0, .bool false, .int .i64 1] ∧ Ext [] w w' := by
  obtain ⟨w0, rfl⟩ : ∃ w0, w0 = w := ⟨_, rfl⟩
  refine ret_of_W (fn := Tryz.f17) Tryz.func17 rfl [.pointer (some ⟨bt, 0, none⟩), .int .i64 root, .slice ka kn kc] rfl (by kernel_rfl) ?_
  refine W_rseq ?_
  refine op_assign rfl (.slice _ _ _) rfl ?_
  refine op_assign rfl (.bool _) rfl ?_
  refine op_assign rfl (.int _ _) rfl ?_
  refine op_nil (at_then ?_)
  refine W_seq ?_
  refine W_rseq ?_
  refine op_move rfl (.pointer _) rfl ?_
  refine op_move rfl (.int _ _) rfl ?_
  refine op_call rfl ca_64_TrG6 (may7_ok T root) rfl ?_
  rintro v w ⟨rfl, rfl⟩
  rw [hm]
  refine op_assign rfl (.int _ _) rfl ?_
  refine op_nil (at_then ?_)
  refine W_rseq ?_
  refine op_move rfl (.int _ _) rfl ?_
  refine op_neq rfl rfl rfl ?_
  refine op_nil (at_then ?_)
  refine W_cond1 rfl ?_
  refine W_rseq ?_
  refine op_move rfl (.int _ _) rfl ?_
  refine op_assign rfl (.slice _ _ _) rfl ?_
  refine op_assign rfl (.bool _) rfl ?_
  refine op_assign rfl (.int _ _) rfl ?_
  refine op_nil (at_then ?_)
  refine W_ret (ret_then (leave3 (v1 := (.slice _ _ _)) (v2 := (.bool _)) (v3 := (.int _ _)) rfl rfl rfl rfl rfl ?_))
  exact ⟨rfl, Ext.refl _ _⟩
end
theorem tnew_nil1 (x : Option Addr) (frm : Int) (w : World) : Ret Tryz.prog 32 #[.pointer none, .pointer x, .int .i64 frm] w fun v w' => v = .tuple #[.pointer none, .int .i64 2] ∧ Ext [] w w' := by
  obtain ⟨w0, rfl⟩ : ∃ w0, w0 = w := ⟨_, rfl⟩
  refine ret_of_W (fn := Tryz.f32) Tryz.func32 rfl [.pointer none, .pointer x, .int .i64 frm] rfl (by kernel_rfl) ?_
  refine W_rseq ?_
  refine op_assign rfl (.pointer _) rfl ?_
  refine op_assign rfl (.int _ _) rfl ?_
  refine op_nil (at_then ?_)
  refine W_seq ?_
  refine W_block ?_
  refine W_rseq ?_
  refine op_move rfl (.pointer _) rfl ?_
  refine op_eqlptr rfl un_32 rfl ?_
  refine op_move rfl (.bool _) rfl ?_
  refine op_skip rfl ?_
  refine op_skip rfl ?_
  refine op_pick1 rfl rfl (.bool _) rfl ?_
  refine op_assign rfl (.bool _) rfl ?_
  refine op_nil (at_then ?_)
  refine W_cond1 rfl ?_
  refine W_rseq ?_
  refine op_assign rfl (.pointer _) rfl ?_
  refine op_assign rfl (.int _ _) rfl ?_
  refine op_nil (at_then ?_)
  refine W_ret (ret_block (ret_then (leave2 (v1 := (.pointer _)) (v2 := (.int _ _)) rfl rfl rfl rfl ?_)))
  exact ⟨rfl, Ext.refl _ _⟩
theorem tnew_nil2 (b : Nat) (frm : Int) (w : World) : Ret Tryz.prog 32 #[ptr b, .pointer none, .int .i64 frm] w fun v w' => v = .tuple #[.pointer none, .int .i64 2] ∧ Ext [] w w' := by
  obtain ⟨w0, rfl⟩ : ∃ w0, w0 = w := ⟨_, rfl⟩
  refine ret_of_W (fn := Tryz.f32) Tryz.func32 rfl [.pointer (some ⟨b, 0, none⟩), .pointer none, .int .i64 frm] rfl (by kernel_rfl) ?_
  refine W_rseq ?_
  refine op_assign rfl (.pointer _) rfl ?_
  refine op_assign rfl (.int _ _) rfl ?_
  refine op_nil (at_then ?_)
  refine W_seq ?_
  refine W_block ?_
  refine W_rseq ?_
  refine op_move rfl (.pointer _) rfl ?_
  refine op_eqlptr rfl un_32 rfl ?_
  refine op_move rfl (.bool _) rfl ?_
  refine op_move rfl (.pointer _) rfl ?_
  refine op_eqlptr rfl un_33_TrG6 rfl ?_
  refine op_pick0 rfl rfl (.bool _) rfl ?_
  refine op_assign rfl (.bool _) rfl ?_
  refine op_nil (at_then ?_)
  refine W_cond1 rfl ?_
  refine W_rseq ?_
  refine op_assign rfl (.pointer _) rfl ?_
  refine op_assign rfl (.int _ _) rfl ?_
  refine op_nil (at_then ?_)
  refine W_ret (ret_block (ret_then (leave2 (v1 := (.pointer _)) (v2 := (.int _ _)) rfl rfl rfl rfl ?_)))
  exact ⟨rfl, Ext.refl _ _⟩

theorem tnew_form {C : Prop} {X Y : Nat → Prop} {v : Value} (h : (C ∧ v = .tuple #[.pointer none, .int .i64 1]) ∨ (¬ C ∧ ∃ bt, v = .tuple #[ptr bt, .int .i64 0] ∧ X bt ∧ Y bt)) :
    ∃ p e, v = .tuple #[.pointer p, .int .i64 e] ∧ ((C ∧ p = none ∧ e = 1) ∨ (¬ C ∧ ∃ bt, p = some ⟨bt, 0, none⟩ ∧ e = 0 ∧ X bt ∧ Y bt)) := by
  rcases h with ⟨h, rfl⟩ | ⟨h, bt, rfl, h1, h2⟩
  · exact ⟨_, _, rfl, .inl ⟨h, rfl, rfl⟩⟩
  · exact ⟨_, _, rfl, .inr ⟨h, bt, rfl, rfl, h1, h2⟩⟩

set_option maxRecDepth 20000 in
set_option maxHeartbeats 8000000 in
theorem treeNil_ok (root frm : Int) (ka va : Option Addr) (kc vc kn vn : Nat) (h1 : -9223372036854775808 ≤ frm) (h2 : frm ≤ 9223372036854775807) (w : World) :
    Ret Tryz.prog 4 #[.int .i64 root, .int .i64 frm, .slice ka kn kc, .slice va vn vc] w fun v w' => v = .bool true ∧ Ext [] w w' := by
  obtain ⟨w0, rfl⟩ : ∃ w0, w0 = w := ⟨_, rfl⟩
  refine ret_of_W (fn := Tryz.f4) Tryz.func4 rfl [.int .i64 root, .int .i64 frm, .slice ka kn kc, .slice va vn vc] rfl (by kernel_rfl) ?_
  refine W_rseq ?_
  refine op_assign rfl (.bool _) rfl ?_
  refine op_nil (at_then ?_)
  refine W_seq ?_
  refine W_rseq (Wops_join (α := Unit) 560750930165760 (fun _ => [(48, .bool (decide (200 < kn) || decide (500 < vn)))]) (fun _ w' => w0 = w') rfl ?_ ?_)
  · refine op_move rfl (.slice _ _ _) rfl ?_
    refine op_len rfl el_23 rfl ?_
    refine op_gtr rfl rfl rfl ?_
    refine op_move rfl (.bool _) rfl ?_
    refine Wops_split 44 rfl ?_ ?_
    · intro h1
      replace h1 := dec_t h1
      refine op_skip rfl ?_
      refine op_skip rfl ?_
      refine op_skip rfl ?_
      refine op_pick1 rfl rfl (.bool _) rfl ?_
      refine op_nil ?_
      exact ⟨rfl, (), rfl, ⟨congrArg Value.bool (by rw [Bool.eq_iff_iff]; simp_all; try omega), trivial⟩, rfl⟩
    · intro h2
      replace h2 := dec_f h2
      refine op_move rfl (.slice _ _ _) rfl ?_
      refine op_len rfl el_23 rfl ?_
      refine op_gtr rfl rfl rfl ?_
      refine op_pick0 rfl rfl (.bool _) rfl ?_
      refine op_nil ?_
      exact ⟨rfl, (), rfl, ⟨congrArg Value.bool (by rw [Bool.eq_iff_iff]; simp_all; try omega), trivial⟩, rfl⟩
  rintro - j48 w rfl
  refine W_cond _ rfl ?_ ?_
  · intro hA
    refine W_rseq ?_
    refine op_call rfl ca_13_TrG6 (works7_ok _) rfl ?_
    rintro v w ⟨rfl, hxw⟩
    refine op_assign rfl (.bool _) rfl ?_
    refine op_nil (at_then ?_)
    refine W_ret (ret_then (leave1 (v := (.bool _)) rfl rfl rfl ?_))
    exact ⟨rfl, hxw⟩
  · intro hA
    refine W_skip (at_then ?_)
    refine W_rseq ?_
    refine op_assign rfl (.pointer _) rfl ?_
    refine op_nil (at_then ?_)
    refine W_rseq ?_
    refine op_move rfl (.pointer _) rfl ?_
    refine op_move rfl (.int _ _) rfl ?_
    refine op_move rfl (.slice _ _ _) rfl ?_
    refine op_call rfl ca_17_TrG6 (get7_nil root ka kn kc _) rfl ?_
    rintro v w1 ⟨rfl, hx1⟩
    refine op_move rfl (.tuple _) rfl ?_
    refine op_extract rfl rfl rfl ?_
    refine op_extract rfl rfl rfl ?_
    refine op_extract rfl rfl rfl ?_
    refine op_assign rfl (.slice _ _ _) rfl ?_
    refine op_assign rfl (.bool _) rfl ?_
    refine op_assign rfl (.int _ _) rfl ?_
    refine op_nil (at_then ?_)
    refine W_rseq ?_
    refine op_move rfl (.pointer _) rfl ?_
    refine op_move rfl (.int _ _) rfl ?_
    refine op_move rfl (.slice _ _ _) rfl ?_
    refine op_move rfl (.slice _ _ _) rfl ?_
    refine op_call rfl ca_26_TrG6 (put7_nil root ka va kn kc vn vc _) rfl ?_
    rintro v w2 ⟨rfl, hx2⟩
    refine op_move rfl (.tuple _) rfl ?_
    refine op_extract rfl rfl rfl ?_
    refine op_extract rfl rfl rfl ?_
    refine op_assign rfl (.int _ _) rfl ?_
    refine op_assign rfl (.int _ _) rfl ?_
    refine op_nil (at_then ?_)
    refine W_rseq ?_
    refine op_move rfl (.pointer _) rfl ?_
    refine op_move rfl (.int _ _) rfl ?_
    refine op_move rfl (.slice _ _ _) rfl ?_
    refine op_call rfl ca_27_TrG6 (cut7_nil root ka kn kc _) rfl ?_
    rintro v w3 ⟨rfl, hx3⟩
    refine op_move rfl (.tuple _) rfl ?_
    refine op_extract rfl rfl rfl ?_
    refine op_extract rfl rfl rfl ?_
    refine op_extract rfl rfl rfl ?_
    refine op_assign rfl (.int _ _) rfl ?_
    refine op_assign rfl (.bool _) rfl ?_
    refine op_assign rfl (.int _ _) rfl ?_
    refine op_nil (at_then ?_)
    refine W_rseq ?_
    refine op_move rfl (.pointer _) rfl ?_
    refine op_move rfl (.int _ _) rfl ?_
    refine op_call rfl ca_23_TrG6 (scan7_nil root none none 0 0 0 0 _) rfl ?_
    rintro v w4 ⟨rfl, hx4⟩
    refine op_move rfl (.tuple _) rfl ?_
    refine op_extract rfl rfl rfl ?_
    refine op_extract rfl rfl rfl ?_
    refine op_assign rfl (.slice _ _ _) rfl ?_
    refine op_assign rfl (.int _ _) rfl ?_
    refine op_nil (at_then ?_)
    refine W_rseq ?_
    refine op_move rfl (.pointer _) rfl ?_
    refine op_move rfl (.int _ _) rfl ?_
    refine op_call rfl ca_28_TrG6 (walk7_nil root _) rfl ?_
    rintro v w5 ⟨rfl, hx5⟩
    refine op_move rfl (.tuple _) rfl ?_
    refine op_extract rfl rfl rfl ?_
    refine op_extract rfl rfl rfl ?_
    refine op_assign rfl (.slice _ _ _) rfl ?_
    refine op_assign rfl (.int _ _) rfl ?_
    refine op_nil (at_then ?_)
    refine W_rseq ?_
    refine op_move rfl (.pointer _) rfl ?_
    refine op_call rfl ca_29_TrG6 (build7_nil none 0 0 _) rfl ?_
    rintro v w6 ⟨rfl, hx6⟩
    refine op_move rfl (.tuple _) rfl ?_
    refine op_extract rfl rfl rfl ?_
    refine op_extract rfl rfl rfl ?_
    refine op_assign rfl (.int _ _) rfl ?_
    refine op_assign rfl (.int _ _) rfl ?_
    refine op_nil (at_then ?_)
    refine W_seq ?_
    refine W_rseq ?_
    refine op_move rfl (.bool _) rfl ?_
    refine op_move rfl (.bool _) rfl ?_
    refine op_move rfl (.bool _) rfl ?_
    refine op_pick0 rfl rfl (.bool _) rfl ?_
    refine op_move rfl (.bool _) rfl ?_
    refine op_move rfl (.int _ _) rfl ?_
    refine op_neq rfl rfl rfl ?_
    refine op_pick0 rfl rfl (.bool _) rfl ?_
    refine op_move rfl (.bool _) rfl ?_
    refine op_move rfl (.int _ _) rfl ?_
    refine op_neq rfl rfl rfl ?_
    refine op_pick0 rfl rfl (.bool _) rfl ?_
    refine op_move rfl (.bool _) rfl ?_
    refine op_move rfl (.int _ _) rfl ?_
    refine op_neq rfl rfl rfl ?_
    refine op_pick0 rfl rfl (.bool _) rfl ?_
    refine op_move rfl (.bool _) rfl ?_
    refine op_move rfl (.int _ _) rfl ?_
    refine op_neq rfl rfl rfl ?_
    refine op_pick0 rfl rfl (.bool _) rfl ?_
    refine op_move rfl (.bool _) rfl ?_
    refine op_move rfl (.int _ _) rfl ?_
    refine op_neq rfl rfl rfl ?_
    refine op_pick0 rfl rfl (.bool _) rfl ?_
    refine op_move rfl (.bool _) rfl ?_
    refine op_move rfl (.int _ _) rfl ?_
    refine op_neq rfl rfl rfl ?_
    refine op_pick0 rfl rfl (.bool _) rfl ?_
    refine op_move rfl (.bool _) rfl ?_
    refine op_move rfl (.slice _ _ _) rfl ?_
    refine op_len rfl el_28_TrG6 rfl ?_
    refine op_move rfl (.slice _ _ _) rfl ?_
    refine op_len rfl el_57 rfl ?_
    refine op_add_i64 rfl rfl rfl (by omega) (by omega) ?_
    refine op_neq rfl rfl rfl ?_
    refine op_pick0 rfl rfl (.bool _) rfl ?_
    refine op_nil (at_then ?_)
    refine W_cond0 rfl ?_
    refine W_skip (at_then ?_)
    refine W_rseq ?_
    refine op_call rfl ca_30_TrG6 (dnew_ok ((20 : Nat) : Int) w6) rfl ?_
    rintro v w7 ⟨hx7, hd⟩
    obtain ⟨bd, rfl, DA⟩ := newd_of (n := 10) (by omega) (by omega) hd
    refine op_move rfl (.tuple _) rfl ?_
    refine op_extract rfl rfl rfl ?_
    refine op_extract rfl rfl rfl ?_
    refine op_assign rfl (.pointer _) rfl ?_
    refine op_assign rfl (.int _ _) rfl ?_
    refine op_nil (at_then ?_)
    refine W_rseq ?_
    refine op_call rfl ca_31_TrG6 (pnew_ok 8 (by omega) (by omega) w7) rfl ?_
    rintro v w8 ⟨bp, ba, rfl, PA, hx8, hbp, hba⟩
    have DA2 := DA.keep0 hx8
    refine op_move rfl (.tuple _) rfl ?_
    refine op_extract rfl rfl rfl ?_
    refine op_extract rfl rfl rfl ?_
    refine op_assign rfl (.pointer _) rfl ?_
    refine op_assign rfl (.int _ _) rfl ?_
    refine op_nil (at_then ?_)
    refine W_seq ?_
    refine W_rseq ?_
    refine op_move rfl (.int _ _) rfl ?_
    refine op_neq rfl rfl rfl ?_
    refine op_move rfl (.bool _) rfl ?_
    refine op_move rfl (.int _ _) rfl ?_
    refine op_neq rfl rfl rfl ?_
    refine op_pick0 rfl rfl (.bool _) rfl ?_
    refine op_move rfl (.bool _) rfl ?_
    refine op_move rfl (.pointer _) rfl ?_
    refine op_eqlptr rfl un_32 rfl ?_
    refine op_pick0 rfl rfl (.bool _) rfl ?_
    refine op_move rfl (.bool _) rfl ?_
    refine op_move rfl (.pointer _) rfl ?_
    refine op_eqlptr rfl un_33_TrG6 rfl ?_
    refine op_pick0 rfl rfl (.bool _) rfl ?_
    refine op_nil (at_then ?_)
    refine W_cond0 rfl ?_
    refine W_skip (at_then ?_)
    refine W_rseq ?_
    refine op_move rfl (.pointer _) rfl ?_
    refine op_move rfl (.pointer _) rfl ?_
    refine op_move rfl (.int _ _) rfl ?_
    refine op_call rfl ca_32_TrG6 (tnew_ok DA2 PA frm h1 h2) rfl ?_
    rintro v w9 ⟨hx9, hv⟩
    rw [newD_len, List.length_replicate] at hv
    obtain ⟨p9, e9, rfl, hv9⟩ := tnew_form hv
    refine op_move rfl (.tuple _) rfl ?_
    refine op_extract rfl rfl rfl ?_
    refine op_extract rfl rfl rfl ?_
    refine op_assign rfl (.pointer _) rfl ?_
    refine op_assign rfl (.int _ _) rfl ?_
    refine op_nil (at_then ?_)
    refine W_seq ?_
    have hx09 := ((((((((hx1.trans hx2).trans hx3).trans hx4).trans hx5).trans hx6).trans hx7).trans hx8).trans hx9)
    rcases hv9 with ⟨hc, rfl, rfl⟩ | ⟨hc, bt, rfl, rfl, hbt, hbtn⟩
    · skip
      refine W_rseq (Wops_join (α := Unit) 5754662696990430240427009028820364389895234387968 (fun _ => [(161, .bool (true))]) (fun _ w' => w9 = w') rfl ?_ ?_)
      · refine op_move rfl (.int _ _) rfl ?_
        refine op_lss rfl rfl rfl ?_
        refine op_move rfl (.bool _) rfl ?_
        refine Wops_split 158 rfl ?_ ?_
        · intro h3
          replace h3 := dec_t h3
          refine op_skip rfl ?_
          refine op_skip rfl ?_
          refine op_pick1 rfl rfl (.bool _) rfl ?_
          refine op_nil ?_
          exact ⟨rfl, (), rfl, ⟨congrArg Value.bool (by first | rfl | exact decide_eq_true (by omega)), trivial⟩, rfl⟩
        · intro h4
          replace h4 := dec_f h4
          refine op_move rfl (.int _ _) rfl ?_
          refine op_gtr rfl rfl rfl ?_
          refine op_pick0 rfl rfl (.bool _) rfl ?_
          refine op_nil ?_
          exact ⟨rfl, (), rfl, ⟨congrArg Value.bool (by first | rfl | exact decide_eq_true (by omega)), trivial⟩, rfl⟩
      rintro - j161 w rfl
      refine W_cond1 rfl ?_
      refine W_rseq ?_
      refine op_move rfl (.pointer _) rfl ?_
      refine op_eqlptr rfl un_34_TrG6 rfl ?_
      refine op_move rfl (.bool _) rfl ?_
      refine op_move rfl (.int _ _) rfl ?_
      refine op_eql rfl rfl rfl ?_
      refine op_pick1 rfl rfl (.bool _) rfl ?_
      refine op_move rfl (.bool _) rfl ?_
      refine op_call rfl ca_13_TrG6 (works7_ok _) rfl ?_
      rintro v w ⟨rfl, hxw⟩
      refine op_pick1 rfl rfl (.bool _) rfl ?_
      refine op_assign rfl (.bool _) rfl ?_
      refine op_nil (at_then ?_)
      refine W_ret (ret_then (leave1 (v := (.bool _)) rfl rfl rfl ?_))
      exact ⟨rfl, hx09.trans hxw⟩
    · skip
      refine W_rseq (Wops_join (α := Unit) 5754662696990430240427009028820364389895234387968 (fun _ => [(161, .bool (false))]) (fun _ w' => w9 = w') rfl ?_ ?_)
      · refine op_move rfl (.int _ _) rfl ?_
        refine op_lss rfl rfl rfl ?_
        refine op_move rfl (.bool _) rfl ?_
        refine Wops_split 158 rfl ?_ ?_
        · intro h5
          replace h5 := dec_t h5
          refine op_skip rfl ?_
          refine op_skip rfl ?_
          refine op_pick1 rfl rfl (.bool _) rfl ?_
          refine op_nil ?_
          exact ⟨rfl, (), rfl, ⟨congrArg Value.bool (by first | exact decide_eq_false (by omega) | omega), trivial⟩, rfl⟩
        · intro h6
          replace h6 := dec_f h6
          refine op_move rfl (.int _ _) rfl ?_
          refine op_gtr rfl rfl rfl ?_
          refine op_pick0 rfl rfl (.bool _) rfl ?_
          refine op_nil ?_
          exact ⟨rfl, (), rfl, ⟨congrArg Value.bool (by first | exact decide_eq_false (by omega) | omega), trivial⟩, rfl⟩
      rintro - j161 w rfl
      refine W_cond0 rfl ?_
      refine W_skip (at_then ?_)
      refine W_rseq ?_
      refine op_move rfl (.pointer _) rfl ?_
      refine op_move rfl (.int _ _) rfl ?_
      refine op_call rfl ca_32_TrG6 (tnew_nil1 (some ⟨bp, 0, none⟩) frm _) rfl ?_
      rintro v w10 ⟨rfl, hx10⟩
      refine op_move rfl (.tuple _) rfl ?_
      refine op_extract rfl rfl rfl ?_
      refine op_extract rfl rfl rfl ?_
      refine op_assign rfl (.pointer _) rfl ?_
      refine op_assign rfl (.int _ _) rfl ?_
      refine op_nil (at_then ?_)
      refine W_rseq ?_
      refine op_move rfl (.pointer _) rfl ?_
      refine op_move rfl (.int _ _) rfl ?_
      refine op_call rfl ca_32_TrG6 (tnew_nil2 bd frm _) rfl ?_
      rintro v w11 ⟨rfl, hx11⟩
      refine op_move rfl (.tuple _) rfl ?_
      refine op_extract rfl rfl rfl ?_
      refine op_extract rfl rfl rfl ?_
      refine op_assign rfl (.pointer _) rfl ?_
      refine op_assign rfl (.int _ _) rfl ?_
      refine op_nil (at_then ?_)
      refine W_seq ?_
      refine W_rseq ?_
      refine op_move rfl (.pointer _) rfl ?_
      refine op_eqlptr rfl un_34_TrG6 rfl ?_
      refine op_move rfl (.bool _) rfl ?_
      refine op_move rfl (.int _ _) rfl ?_
      refine op_neq rfl rfl rfl ?_
      refine op_pick0 rfl rfl (.bool _) rfl ?_
      refine op_move rfl (.bool _) rfl ?_
      refine op_move rfl (.int _ _) rfl ?_
      refine op_neq rfl rfl rfl ?_
      refine op_pick0 rfl rfl (.bool _) rfl ?_
      refine op_move rfl (.bool _) rfl ?_
      refine op_move rfl (.int _ _) rfl ?_
      refine op_neq rfl rfl rfl ?_
      refine op_pick0 rfl rfl (.bool _) rfl ?_
      refine op_nil (at_then ?_)
      refine W_cond0 rfl ?_
      refine W_skip (at_then ?_)
      refine W_seq ?_
      refine W_rseq (Wops_join (α := Unit) 12654637098539548419892951477186655494862348576039493577998336 (fun _ => [(202, .bool (decide (-1 ≤ root) && decide (root < 8)))]) (fun _ w' => w11 = w') rfl ?_ ?_)
      · refine op_move rfl (.int _ _) rfl ?_
        refine op_geq rfl rfl rfl ?_
        refine op_move rfl (.bool _) rfl ?_
        refine Wops_split 199 rfl ?_ ?_
        · intro h7
          replace h7 := dec_t h7
          refine op_move rfl (.int _ _) rfl ?_
          refine op_lss rfl rfl rfl ?_
          refine op_pick1 rfl rfl (.bool _) rfl ?_
          refine op_nil ?_
          exact ⟨rfl, (), rfl, ⟨congrArg Value.bool (by rw [Bool.eq_iff_iff]; simp_all; try omega), trivial⟩, rfl⟩
        · intro h8
          replace h8 := dec_f h8
          refine op_skip rfl ?_
          refine op_skip rfl ?_
          refine op_pick0 rfl rfl (.bool _) rfl ?_
          refine op_nil ?_
          exact ⟨rfl, (), rfl, ⟨congrArg Value.bool (by rw [Bool.eq_iff_iff]; simp_all; try omega), trivial⟩, rfl⟩
      rintro - j202 w rfl
      refine W_cond _ rfl ?_ ?_
      · intro hB
        refine W_rseq ?_
        refine op_call rfl ca_13_TrG6 (works7_ok _) rfl ?_
        rintro v w ⟨rfl, hxw⟩
        refine op_assign rfl (.bool _) rfl ?_
        refine op_nil (at_then ?_)
        refine W_ret (ret_then (leave1 (v := (.bool _)) rfl rfl rfl ?_))
        exact ⟨rfl, ((hx09.trans hx10).trans hx11).trans hxw⟩
      · intro hB
        have hm : mayE (List.replicate 8 0).length root = 1 := by
          unfold mayE
          rw [List.length_replicate, if_pos]
          simp only [Bool.and_eq_false_iff, decide_eq_false_iff_not] at hB
          omega
        obtain ⟨n, hn⟩ : ∃ n : Nat, frm = n := ⟨frm.toNat, by omega⟩
        subst hn
        have hbt9 := heap_lt hbt
        have s1 := hx7.size
        have s2 := hx8.size
        have hbp2 := heap_lt PA.hd
        have hba2 := heap_lt PA.st
        have hx911 := hx10.trans hx11
        have hx811 := hx9.trans hx911
        have T : Tx w11 bt bd bp ba n (newD 20) (List.replicate 8 0) (fun x => w6.heap.size ≤ x ∧ x < w7.heap.size) [] := by
          refine ⟨?_, PA.keep hx811 (by simp) (by simp), DA2.keep0 hx811, (fun x h => by cases h), List.Pairwise.nil, (fun x h => by cases h), ⟨fun h => by omega, by omega⟩, fun h => by omega, fun h => by omega, fun x h => by have := hx811.size; omega⟩
          rw [hx911.block bt hbt9 (by simp)]; exact hbt
        refine W_skip (at_then ?_)
        refine W_rseq ?_
        refine op_move rfl (.pointer _) rfl ?_
        refine op_move rfl (.int _ _) rfl ?_
        refine op_call rfl ca_28_TrG6 (walk7_bad T root hm) rfl ?_
        rintro v w12 ⟨rfl, hx12⟩
        have T12 := T.call hx12
        refine op_move rfl (.tuple _) rfl ?_
        refine op_extract rfl rfl rfl ?_
        refine op_extract rfl rfl rfl ?_
        refine op_assign rfl (.slice _ _ _) rfl ?_
        refine op_assign rfl (.int _ _) rfl ?_
        refine op_nil (at_then ?_)
        refine W_rseq ?_
        refine op_move rfl (.pointer _) rfl ?_
        refine op_move rfl (.int _ _) rfl ?_
        refine op_call rfl ca_23_TrG6 (scan7_bad T12 root hm none none 0 0 0 0) rfl ?_
        rintro v w13 ⟨rfl, hx13⟩
        have T13 := T12.call hx13
        refine op_move rfl (.tuple _) rfl ?_
        refine op_extract rfl rfl rfl ?_
        refine op_extract rfl rfl rfl ?_
        refine op_assign rfl (.slice _ _ _) rfl ?_
        refine op_assign rfl (.int _ _) rfl ?_
        refine op_nil (at_then ?_)
        refine W_rseq ?_
        refine op_move rfl (.pointer _) rfl ?_
        refine op_move rfl (.int _ _) rfl ?_
        refine op_call rfl ca_33_TrG6 (b7_ok kA _) rfl ?_
        rintro v w14 ⟨b14, c14, rfl, R14, hc14, hb14, hx14⟩
        have T14 := T13.call hx14
        refine op_call rfl ca_17_TrG6 (get7_bad T14 root hm _ _ _) rfl ?_
        rintro v w15 ⟨rfl, hx15⟩
        refine op_move rfl (.tuple _) rfl ?_
        refine op_extract rfl rfl rfl ?_
        refine op_extract rfl rfl rfl ?_
        refine op_extract rfl rfl rfl ?_
        refine op_assign rfl (.slice _ _ _) rfl ?_
        refine op_assign rfl (.bool _) rfl ?_
        refine op_assign rfl (.int _ _) rfl ?_
        refine op_nil (at_then ?_)
        refine W_rseq ?_
        refine op_move rfl (.int _ _) rfl ?_
        refine op_eql rfl rfl rfl ?_
        refine op_move rfl (.bool _) rfl ?_
        refine op_move rfl (.int _ _) rfl ?_
        refine op_eql rfl rfl rfl ?_
        refine op_pick1 rfl rfl (.bool _) rfl ?_
        refine op_move rfl (.bool _) rfl ?_
        refine op_move rfl (.int _ _) rfl ?_
        refine op_eql rfl rfl rfl ?_
        refine op_pick1 rfl rfl (.bool _) rfl ?_
        refine op_move rfl (.bool _) rfl ?_
        refine op_call rfl ca_13_TrG6 (works7_ok _) rfl ?_
        rintro v w ⟨rfl, hxw2⟩
        refine op_pick1 rfl rfl (.bool _) rfl ?_
        refine op_assign rfl (.bool _) rfl ?_
        refine op_nil (at_then ?_)
        refine W_ret (leave1 (v := (.bool _)) rfl rfl rfl ?_)
        exact ⟨rfl, ((((((hx09.trans hx911).trans hx12).trans hx13).trans hx14).trans hx15).trans hxw2)⟩

end Go.Proofs.YtbkadlngijkmmaaGreatDoor

/- From the form's readings of arguments to ours, and the post of a law that answers true and turns nothing. It holds for every program. -/
namespace Go.GV
open Go Go.ChangeShapes Go.WideShapes Go.RowKit

theorem Ext.below {w w' : World} (h : Ext [] w w') : Below w.heap.size w w' := ⟨h.os, h.tape, h.output, h.size, fun k hk => h.block k hk (by simp)⟩

section
variable {H : Type} {enc : TypeId × Value → H} {P : Program} {w : World} {base : Nat} {spare : Nat → Bool} {held : Bool}

theorem trodAll_length : ∀ {ts : List TypeId} {vs : List Value} {ds : List (DataW H)} {ps : List MemPlace}, DataW.TrodAll enc P w base spare held ts vs ds ps → ds.length = ts.length
  | [], vs, ds, ps, h => by obtain ⟨_, rfl, _⟩ := trodAll_nil h; rfl
  | t :: ts, vs, ds, ps, h => by
    obtain ⟨v, vs', d, ds', p, q, rfl, rfl, rfl, _, hr⟩ := trodAll_cons h
    simp [trodAll_length hr]

theorem trodAll_stays {W W' : World} {sp' : Nat → Bool} (hl : laidOutB P = true) (hsp : ∀ b, b < W.heap.size → sp' b = true) (hb : Below W.heap.size W W') :
    ∀ {ts : List TypeId} {vs : List Value} {ds : List (DataW H)} {ps : List MemPlace}, (∀ t ∈ ts, P.readableRec t = true ∧ t < P.types.size) → (∀ x ∈ ps, x.block < W.heap.size) →
      DataW.TrodAll enc P W 0 (fun _ => true) true ts vs ds ps → DataW.TrodAll enc P W' 0 sp' true ts vs ds ps
  | [], vs, ds, ps, _, _, h => by obtain ⟨rfl, rfl, rfl⟩ := trodAll_nil h; rfl
  | t :: ts, vs, ds, ps, hr, hp, h => by
    obtain ⟨v, vs', d, ds', p, q, rfl, rfl, rfl, h0, h1⟩ := trodAll_cons h
    refine ⟨p, q, WideElems.Trod_stays hl (hr t (by simp)).1 (hr t (by simp)).2 h0 (fun x hx => hb.same (hp x (by simp [hx]))) (fun x hx => hsp _ (hp x (by simp [hx]))), ?_, rfl⟩
    exact trodAll_stays hl hsp hb (fun t ht => hr t (by simp [ht])) (fun x hx => hp x (by simp [hx])) h1

/-- The post of a law. -/
theorem law_post {f : Func} {s : ChangeSpec} {W W' : World} {args : Array Value} {ds gs : List (DataW H)} {before : List MemPlace} {tb : TypeId} (hl : laidOutB P = true) (hv : s.vars = [])
    (hr : (f.params.toList.all fun t => P.readableRec t && decide (t < P.types.size)) = true) (hres : f.resultTypes = #[tb]) (htb : P.underlying tb = some .bool)
    (hs : ∀ ds : List (DataW H), ds.length = f.params.size → s.fn H ds = { results := [.lit (.bool true)], args := ds })
    (hW : DataW.Whole enc P f.params.toList s.vars false W args.toList ds gs before) (hx : Ext [] W W') : s.post enc P f false true false false W args (.bool true) W' := by
  have hW' := hW
  obtain ⟨p, q, hA, hV, rfl, _, _⟩ := hW
  rw [hv] at hV
  obtain ⟨rfl, rfl⟩ := trodVars_none hV
  have hlen : ds.length = f.params.size := by rw [trodAll_length hA]; simp
  refine ⟨ds, [], p ++ [], [], p, [], hW', ?_, ?_, ?_, hx.below.frame _, fun h => by cases h⟩
  · rw [List.append_nil, hs ds hlen, hres]
    exact trodAll_mk1 ⟨1, by simp [DataW.trod, Value.cells, htb]⟩
  · rw [List.append_nil, hs ds hlen]
    refine trodAll_stays hl (fun b hb => by simpa using hb) hx.below (fun t ht => ?_) (fun x hxp => ?_) hA
    · have := List.all_eq_true.1 hr t ht
      simpa using this
    · exact hW'.lt x (by simp [hxp])
  · rw [hv, List.append_nil, hs ds hlen]
    rfl

theorem wf_bounds {k : IntKind} {n : Int} (h : (Lit.int k n).wf = true) : k.min ≤ n ∧ n ≤ k.max := by
  simpa [Lit.wf] using h

/-! ### Decoding -/

theorem cells_at {a : Addr} {n : Nat} {cs : List Value} (h : w.cells? base a n = some cs) : cs.length = n ∧ ∀ j v, cs[j]? = some v → w.cell? (a.add j) = some v := by
  unfold World.cells? at h
  split at h
  · have h1 : ∀ (l : List Nat) (cs : List Value), l.mapM (fun i => w.cell? (a.add i)) = some cs → cs.length = l.length ∧ ∀ (j i : Nat) (v : Value), l[j]? = some i → cs[j]? = some v → w.cell? (a.add i) = some v := by
      intro l
      induction l with
      | nil => intro cs h; simp at h; subst h; exact ⟨rfl, fun j i v h => by simp at h⟩
      | cons k l ih =>
        intro cs h
        rw [List.mapM_cons] at h
        obtain ⟨v, hv, h⟩ := Option.bind_eq_some_iff.1 h
        obtain ⟨cs', hcs, h⟩ := Option.bind_eq_some_iff.1 h
        simp only [Option.pure_def, Option.some.injEq] at h
        subst h
        obtain ⟨h1, h2⟩ := ih cs' hcs
        refine ⟨by simp [h1], fun j i u hi hu => ?_⟩
        cases j with
        | zero => simp at hi hu; subst hi hu; exact hv
        | succ j => exact h2 j i u (by simpa using hi) (by simpa using hu)
    obtain ⟨h2, h3⟩ := h1 _ _ h
    refine ⟨by simpa using h2, fun j v hv => h3 j j v ?_ hv⟩
    have : j < cs.length := (List.getElem?_eq_some_iff.1 hv).1
    rw [List.getElem?_range (by rw [h2] at this; simpa using this)]
  · cases h

theorem cell_none {a : Addr} {v : Value} (h : w.cell? a = some v) : a = ⟨a.block, a.off, none⟩ := by
  unfold World.cell? at h
  split at h
  · split at h
    · cases h
    · rename_i hs
      obtain ⟨b, o, s⟩ := a
      cases s with
      | none => rfl
      | some x => simp at hs
  · cases h

theorem dec_int {e : TypeId} {k : IntKind} (he : P.underlying e = some (.int k)) : ∀ n cs y, DataW.trod enc P w base spare held n e cs = some y → ∃ d : Int, cs = [Value.int k d] ∧ (k.min ≤ d ∧ d ≤ k.max) := by
  intro n cs y h
  obtain ⟨m, h1, _, h2⟩ := DataW.trod_int he h
  exact ⟨m, h1, wf_bounds h2⟩
end
end Go.GV

/- The rows of this seat: the world of the witnesses, in which the laid tables lie. -/
namespace Go.Proofs.YtbkadlngijkmmaaGreatDoor
open Go.GV Go.ChangeShapes Go.WideShapes Go.ChangeAt Go.RowKit

theorem own : ownKnob Tryz.prog.godebug = none := by kernel_rfl
theorem laidOut : laidOutB Tryz.prog = true := by kernel_rfl

def rangeZ : List Nat := [128, 191, 160, 191, 128, 159, 144, 191, 128, 143] ++ List.replicate 22 0
def layO (l : List Nat) : Obj → Obj
  | .cells _ t frozen => .cells (l.map fun (n : Nat) => Value.int .u8 (n : Int)).toArray t frozen
  | o => o
/-- A world in which the tables lie (blocks 1 and 2). -/
noncomputable def laidWorld (os : Os) : World :=
  { World.holding Tryz.prog os ⟨#[], #[], []⟩ with heap := ((World.holding Tryz.prog os ⟨#[], #[], []⟩).heap.modify 1 (layO Go.Pinned.utf8FirstZ)).modify 2 (layO rangeZ) }

theorem dec_byte {H : Type} {enc : TypeId × Value → H} {w : World} {base : Nat} {spare : Nat → Bool} {held : Bool} : ∀ n cs y, DataW.trod enc Tryz.prog w base spare held n 5 cs = some y → ∃ b : UInt8, cs = B8 b ∧ True := by
  intro n cs y h
  obtain ⟨d, rfl, h1, h2⟩ := dec_int Tryz.underlying5 n cs y h
  have h1 : (0 : Int) ≤ d := h1
  have h2 : d ≤ 255 := h2
  refine ⟨UInt8.ofNat d.toNat, ?_, trivial⟩
  have : (UInt8.ofNat d.toNat).toNat = d.toNat := by simp [UInt8.toNat_ofNat']; omega
  rw [B8, bv, this, Int.toNat_of_nonneg h1]
theorem byteCells : Tryz.prog.cellsOf 5 = 1 := by kernel_rfl

end Go.Proofs.YtbkadlngijkmmaaGreatDoor
