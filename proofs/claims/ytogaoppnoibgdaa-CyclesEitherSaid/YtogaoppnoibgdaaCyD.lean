/- What cycles.Order and the reference's Order do. -/
import Derived.Test.YtogaoppnoibgdaaCyC
namespace Go.Proofs.Ytogaoppnoibgdaa
open Go.GV
attribute [local irreducible] Wops W Wq

/-- An open due to b of a bank that is not out yet. -/
def waitsB (out : List Nat) (b : Nat) (d : Due) : Bool := !d.held && (decide (d.to = (b : Int)) && !out.contains d.fr.toNat)
def freeB (l : List Due) (out : List Nat) (b : Nat) : Bool := !out.contains b && !l.any (waitsB out b)
def nextB (l : List Due) (banks : Nat) (out : List Nat) : Option Nat := (List.range banks).find? (freeB l out)
def orderGo (l : List Due) (banks : Nat) : Nat → List Nat → Option (List Nat)
  | 0, out => some out
  | k + 1, out => match nextB l banks out with
    | none => none
    | some b => orderGo l banks k (out ++ [b])
def orderD (banks : Int) (l : List Due) : Option (List Nat) := bif mayD banks l then orderGo l banks.toNat banks.toNat [] else none

theorem countP_any (l : List Due) (out : List Nat) (b : Nat) : ((l.countP (waitsB out b) : Nat) : Int) = 0 ↔ l.any (waitsB out b) = false := by
  rw [show (((l.countP (waitsB out b) : Nat) : Int) = 0) ↔ l.countP (waitsB out b) = 0 from by omega, List.countP_eq_zero, List.any_eq_false]

theorem next_lt {l : List Due} {banks : Nat} {out : List Nat} {b : Nat} (h : nextB l banks out = some b) : b < banks ∧ out.contains b = false ∧ l.any (waitsB out b) = false := by
  have h1 := List.mem_of_find?_eq_some h
  have h2 := List.find?_some h
  simp only [freeB, Bool.and_eq_true, Bool.not_eq_true'] at h2
  exact ⟨List.mem_range.1 h1, h2.1, h2.2⟩

theorem find_range {p : Nat → Bool} {n k : Nat} (h : ((List.range k).find? p) = none) (hk : k < n) (hp : p k = true) : (List.range n).find? p = some k := by
  have hsplit : List.range n = List.range k ++ (k :: (List.range' (k + 1) (n - k - 1))) := by
    rw [List.range_eq_range', List.range_eq_range']
    have : List.range' 0 n = List.range' 0 k ++ List.range' (0 + k) (n - k) := by rw [List.range'_append_1]; congr 1; omega
    rw [this, Nat.zero_add]
    congr 1
    rw [show n - k = (n - k - 1) + 1 from by omega, List.range'_succ]
    congr 1
  rw [hsplit, List.find?_append, h]
  simp [hp]
theorem find_snoc {p : Nat → Bool} {k : Nat} (h : ((List.range k).find? p) = none) (hp : p k = false) : (List.range (k + 1)).find? p = none := by
  rw [List.range_succ, List.find?_append, h]
  simp [hp]

/-- The counts while the dues of the bank that goes are taken off. -/
def midC (l : List Due) (out : List Nat) (nx k b : Nat) : Nat := (l.take k).countP (waitsB (out ++ [nx]) b) + (l.drop k).countP (waitsB out b)

theorem mid_zero (l : List Due) (out : List Nat) (nx b : Nat) : midC l out nx 0 b = l.countP (waitsB out b) := by simp [midC]
theorem mid_end (l : List Due) (out : List Nat) (nx b : Nat) : midC l out nx l.length b = l.countP (waitsB (out ++ [nx]) b) := by simp [midC]
theorem waits_same {out : List Nat} {nx b : Nat} {d : Due} (h : ¬ (d.held = false ∧ d.fr = (nx : Int))) (h0 : 0 ≤ d.fr) : waitsB (out ++ [nx]) b d = waitsB out b d := by
  unfold waitsB
  cases hh : d.held with
  | true => rfl
  | false =>
    have hne : ¬ d.fr.toNat = nx := fun e => h ⟨hh, by omega⟩
    simp [hne]
theorem mid_same {l : List Due} {out : List Nat} {nx k b : Nat} {d : Due} (hd : l[k]? = some d) (h : ¬ (d.held = false ∧ d.fr = (nx : Int))) (h0 : 0 ≤ d.fr) : midC l out nx (k + 1) b = midC l out nx k b := by
  have hk := get_lt hd
  have he : l.drop k = d :: l.drop (k + 1) := by rw [List.drop_eq_getElem_cons hk]; congr 1; rw [List.getElem?_eq_getElem hk] at hd; injection hd
  unfold midC
  rw [take_snoc hd, he, List.countP_append, List.countP_cons, List.countP_cons, List.countP_nil, waits_same h h0]
  omega
theorem mid_step {l : List Due} {out : List Nat} {nx k b : Nat} {d : Due} (hd : l[k]? = some d) (hh : d.held = false) (hf : d.fr = (nx : Int)) (ho : out.contains nx = false) :
    (midC l out nx (k + 1) b : Int) = if d.to = (b : Int) then (midC l out nx k b : Int) - 1 else midC l out nx k b := by
  have hk := get_lt hd
  have he : l.drop k = d :: l.drop (k + 1) := by rw [List.drop_eq_getElem_cons hk]; congr 1; rw [List.getElem?_eq_getElem hk] at hd; injection hd
  have hfn : d.fr.toNat = nx := by omega
  have h1 : waitsB (out ++ [nx]) b d = false := by simp [waitsB, hfn]
  have h2 : waitsB out b d = decide (d.to = (b : Int)) := by simp only [waitsB, hh, hfn, ho]; simp
  unfold midC
  rw [take_snoc hd, he, List.countP_append, List.countP_cons, List.countP_cons, List.countP_nil, h1, h2]
  by_cases ht : d.to = (b : Int)
  · simp [ht]; omega
  · simp [ht]

theorem may_split (banks : Int) (l : List Due) : mayD banks l = (decide (0 ≤ banks) && (decide (banks ≤ 16) && (allD l && belowD banks l))) := by
  have h : (l.all fun d => d.fine && (decide (d.fr < banks) && decide (d.to < banks))) = (l.all Due.fine && l.all fun d => decide (d.fr < banks) && decide (d.to < banks)) := by
    induction l with
    | nil => rfl
    | cons d l ih => simp only [List.all_cons, ih]; cases d.fine <;> cases l.all Due.fine <;> simp
  rw [mayD, allD, belowD, h]
  cases decide (l.length ≤ 64) <;> simp

theorem mid_le (l : List Due) (out : List Nat) (nx k b : Nat) : midC l out nx k b ≤ l.length := by
  unfold midC
  have h1 : (l.take k).countP (waitsB (out ++ [nx]) b) ≤ (l.take k).length := List.countP_le_length
  have h2 : (l.drop k).countP (waitsB out b) ≤ (l.drop k).length := List.countP_le_length
  have h3 : (l.take k).length + (l.drop k).length = l.length := by rw [← List.length_append, List.take_append_drop]
  omega
structure MayF (n : Nat) (l : List Due) : Prop where
  n16 : n ≤ 16
  len : l.length ≤ 64
  due : ∀ d, d ∈ l → d.fine = true ∧ 0 ≤ d.fr ∧ d.fr < n ∧ 0 ≤ d.to ∧ d.to < n ∧ d.fr ≠ d.to ∧ 1 ≤ d.am ∧ d.am ≤ 4503599627370496

theorem may_facts {banks : Int} {l : List Due} (h : mayD banks l = true) : ∃ n : Nat, banks = n ∧ MayF n l := by
  simp only [mayD, Bool.and_eq_true, decide_eq_true_eq, List.all_eq_true] at h
  obtain ⟨h1, h2, h3, h4⟩ := h
  refine ⟨banks.toNat, by omega, by omega, h3, fun d hd => ?_⟩
  obtain ⟨hf, hfr, hto⟩ := h4 d hd
  have hf' := hf
  simp only [Due.fine, bankB, Bool.and_eq_true, Bool.not_eq_true', decide_eq_false_iff_not, decide_eq_true_eq] at hf'
  exact ⟨hf, by omega, by omega, by omega, by omega, hf'.1, by omega, by omega⟩

def OrderPost (banks : Int) (l : List Due) (w : World) (v : Value) (w' : World) : Prop :=
  match orderD banks l with
  | none => v = .tuple #[.slice none 0 0, .bool false] ∧ Ext [] w w'
  | some out => ∃ s, v = .tuple #[s, .bool true] ∧ Fresh w w' 3 1 s (out.map fun (x : Nat) => Value.int .i64 (x : Int))

theorem post_none {banks : Int} {l : List Due} {w w' : World} {v : Value} (h : orderD banks l = none) (hv : v = .tuple #[.slice none 0 0, .bool false]) (hx : Ext [] w w') : OrderPost banks l w v w' := by
  unfold OrderPost; rw [h]; exact ⟨hv, hx⟩
theorem post_some {banks : Int} {l : List Due} {out : List Nat} {w w' : World} {v s : Value} (h : orderD banks l = some out) (hv : v = .tuple #[s, .bool true]) (hx : Fresh w w' 3 1 s (out.map fun (x : Nat) => Value.int .i64 (x : Int))) : OrderPost banks l w v w' := by
  unfold OrderPost; rw [h]; exact ⟨s, hv, hx⟩

set_option maxHeartbeats 2000000 in
theorem order_ok (banks : Int) (a : Option Addr) (c : Nat) (l : List Due) (w : World) (R : Rd w a 7 Due.enc l) (hm : l.length ≤ 9223372036854775807) :
    Ret Try.prog 7 #[.int .i64 banks, .slice a l.length c] w fun v w' => OrderPost banks l w v w' := by
  obtain ⟨w0, rfl⟩ : ∃ w0, w0 = w := ⟨_, rfl⟩
  have H := Ctx.start w0 []
  refine ret_of_W (fn := Try.f7) Try.func7 rfl [.int .i64 banks, .slice a l.length c] rfl (by kernel_rfl) ?_
  refine W_rseq ?_
  refine op_assign rfl (.slice _ _ _) rfl ?_
  refine op_assign rfl (.bool _) rfl ?_
  refine op_nil (at_then ?_)
  refine W_seq ?_
  refine W_rseq (Wops_join (α := Unit) 4294934528 (fun _ => [(31, .bool (!mayD banks l))]) (fun _ w' => Ctx w0 [] w' []) rfl ?_ ?_)
  · refine op_move rfl (.int _ _) rfl ?_
    refine op_lss rfl rfl rfl ?_
    refine op_move rfl (.bool _) rfl ?_
    refine Wops_split 17 rfl ?_ ?_
    · intro h1
      replace h1 := dec_t h1
      refine op_skip rfl ?_
      refine op_skip rfl ?_
      refine op_pick1 rfl rfl (.bool _) rfl ?_
      refine op_move rfl (.bool _) rfl ?_
      refine op_skip rfl ?_
      refine op_skip rfl ?_
      refine op_skip rfl ?_
      refine op_pick1 rfl rfl (.bool _) rfl ?_
      refine op_move rfl (.bool _) rfl ?_
      refine op_skip rfl ?_
      refine op_skip rfl ?_
      refine op_skip rfl ?_
      refine op_skip rfl ?_
      refine op_pick1 rfl rfl (.bool _) rfl ?_
      refine op_nil ?_
      exact ⟨rfl, (), rfl, ⟨congrArg Value.bool (by rw [may_split]; simp_all; try omega), trivial⟩, H⟩
    · intro h2
      replace h2 := dec_f h2
      refine op_move rfl (.int _ _) rfl ?_
      refine op_gtr rfl rfl rfl ?_
      refine op_pick0 rfl rfl (.bool _) rfl ?_
      refine op_move rfl (.bool _) rfl ?_
      refine Wops_split 21 rfl ?_ ?_
      · intro h3
        replace h3 := dec_t h3
        refine op_skip rfl ?_
        refine op_skip rfl ?_
        refine op_skip rfl ?_
        refine op_pick1 rfl rfl (.bool _) rfl ?_
        refine op_move rfl (.bool _) rfl ?_
        refine op_skip rfl ?_
        refine op_skip rfl ?_
        refine op_skip rfl ?_
        refine op_skip rfl ?_
        refine op_pick1 rfl rfl (.bool _) rfl ?_
        refine op_nil ?_
        exact ⟨rfl, (), rfl, ⟨congrArg Value.bool (by rw [may_split]; simp_all; try omega), trivial⟩, H⟩
      · intro h4
        replace h4 := dec_f h4
        refine op_move rfl (.slice _ _ _) rfl ?_
        refine op_call rfl ca_20 (all_ok a c l _ (R.ext0 H.ext) hm) rfl ?_
        rintro v w ⟨rfl, hx⟩; replace H := H.call hx
        refine op_not rfl rfl ?_
        refine op_pick0 rfl rfl (.bool _) rfl ?_
        refine op_move rfl (.bool _) rfl ?_
        refine Wops_split 26 rfl ?_ ?_
        · intro h5
          replace h5 := nvar_t h5
          refine op_skip rfl ?_
          refine op_skip rfl ?_
          refine op_skip rfl ?_
          refine op_skip rfl ?_
          refine op_pick1 rfl rfl (.bool _) rfl ?_
          refine op_nil ?_
          exact ⟨rfl, (), rfl, ⟨congrArg Value.bool (by rw [may_split]; simp_all; try omega), trivial⟩, H⟩
        · intro h6
          replace h6 := nvar_f h6
          refine op_move rfl (.int _ _) rfl ?_
          refine op_move rfl (.slice _ _ _) rfl ?_
          refine op_call rfl ca_21 (below_ok banks a c l _ (R.ext0 H.ext) hm) rfl ?_
          rintro v w ⟨rfl, hx⟩; replace H := H.call hx
          refine op_not rfl rfl ?_
          refine op_pick0 rfl rfl (.bool _) rfl ?_
          refine op_nil ?_
          exact ⟨rfl, (), rfl, ⟨congrArg Value.bool (by rw [may_split]; simp_all; try omega), trivial⟩, H⟩
  rintro - j31 w H
  refine W_cond _ rfl ?_ ?_
  · intro h1
    replace h1 := nvar_t h1
    refine W_rseq ?_
    refine op_assign rfl (.slice _ _ _) rfl ?_
    refine op_assign rfl (.bool _) rfl ?_
    refine op_nil (at_then ?_)
    refine W_ret (ret_then (leave2 (v1 := (.slice _ _ _)) (v2 := (.bool _)) rfl rfl rfl rfl ?_))
    exact post_none (by rw [orderD, h1]; rfl) rfl H.ext
  · intro h1
    replace h1 := nvar_f h1
    obtain ⟨nb, rfl, F⟩ := may_facts h1
    have h16 := F.n16
    have h64 := F.len
    refine W_skip (at_then ?_)
    refine W_rseq ?_
    refine op_move rfl (.int _ _) rfl ?_
    refine op_make rfl el_23 sz_3 by_3 zc_3 rfl rfl (by omega) (by omega) (by omega) (by omega) H ?_
    rintro b33 w - H
    rw [show ((nb : Int)).toNat = nb from rfl, rep_range] at H
    refine op_assign rfl (.slice _ _ _) rfl ?_
    refine op_nil (at_then ?_)
    refine W_seq ?_
    refine W_rseq ?_
    refine op_move rfl (.slice _ _ _) rfl ?_
    refine op_len rfl el_22 rfl ?_
    refine op_move rfl (.int _ _) rfl ?_
    refine op_nil (at_then ?_)
    refine W_block ?_
    refine W_loop 2251731094208768 (α := Nat) (fun k => [(36, .int .i64 k)]) (fun k w' => k ≤ l.length ∧ Ctx w0 [] w' [(b33, Bl 3 ((List.range nb).map fun b => .int .i64 (((l.take k).countP (waitsB [] b) : Nat) : Int)))]) (fun k => l.length - k) 0 rfl ?_ ?_ ?_
    · exact ⟨rfl, trivial⟩
    · exact ⟨Nat.zero_le _, H⟩
    · rintro k j w ⟨hk, H⟩
      refine W_rseq ?_
      refine op_lss rfl rfl rfl ?_
      refine op_nil (at_then ?_)
      refine W_seq ?_
      refine W_cond _ rfl ?_ ?_
      · intro h2
        replace h2 := dec_t h2
        obtain ⟨d, hd⟩ := get_some (l := l) (i := k) (by omega)
        obtain ⟨hfine, d1, d2, d3, d4, d5, _⟩ := F.due d (List.mem_of_getElem? hd)
        obtain ⟨t, ht⟩ : ∃ t : Nat, d.to = t := ⟨d.to.toNat, by omega⟩
        have hcnt : (l.take k).countP (waitsB [] t) ≤ 64 := Nat.le_trans List.countP_le_length (by simp; omega)
        refine W_skip (at_then ?_)
        refine W_seq ?_
        refine W_block ?_
        refine W_rseq ?_
        first | refine op_indexRd R rfl el_22 sz_41 rfl rfl (by omega) (by omega) (by first | rfl | omega) ?_ | refine op_indexAddr rfl el_22 sz_41 rfl rfl (by omega) (by omega) ?_
        refine op_ldN d.enc rfl ag_41 sz_41 rfl rfl ((R.ext0 H.ext).row hd rfl) ?_
        refine op_alloc rfl zc_41 H ?_
        rintro b8 w - H
        refine op_stb0 rfl sz_41 rfl rfl rfl (by simp [oneCell, Due.enc]) H at0 rfl ?_
        rintro w H
        refine op_nil (at_then ?_)
        refine W_rseq ?_
        refine op_fieldAddr rfl fo_41_6 rfl ?_
        refine op_ldb rfl ag_4 rfl H (by first | exact at0 | exact at1 | exact at2 | exact at3 | exact at4 | exact at5 | exact at6 | exact at7 | exact at8 | exact at9) rfl ?_
        refine op_not rfl rfl ?_
        refine op_nil (at_then ?_)
        refine W_cond _ rfl ?_ ?_
        · intro h3
          replace h3 := nvar_t h3
          refine W_region ?_
          refine op_move rfl (.slice _ _ _) rfl ?_
          refine op_fieldAddr rfl fo_41_2 rfl ?_
          refine op_ldb rfl ag_3 rfl H (by first | exact at0 | exact at1 | exact at2 | exact at3 | exact at4 | exact at5 | exact at6 | exact at7 | exact at8 | exact at9) rfl ?_
          refine op_indexAddr rfl el_23 sz_3 rfl rfl (by omega) (by omega) ?_
          refine op_ldr t _ rfl ag_3 rfl H at1 (by rw [ht]; simp) (by omega) rfl ?_
          refine op_add_i64 rfl rfl rfl (by omega) (by omega) ?_
          refine op_indexAddr rfl el_23 sz_3 rfl rfl (by omega) (by omega) ?_
          refine op_str t (fun b => .int .i64 (((l.take (k + 1)).countP (waitsB [] b) : Nat) : Int)) (.int _ _) rfl sz_3 rfl rfl rfl H at1 (by rw [ht]; simp) (by omega) ?_ ?_ ?_
          rotate_left
          rotate_left
          rintro w H
          refine op_nil (at_block (at_then ?_))
          refine W_region ?_
          refine op_add_i64 rfl rfl rfl (by omega) (by omega) ?_
          refine op_move rfl (.int _ _) rfl ?_
          refine op_nil (at_then ?_)
          · refine ⟨k + 1, rfl, ⟨by simp [put], trivial⟩, ⟨by omega, H.tail⟩, by omega⟩
          · rw [take_snoc hd, List.countP_append, List.countP_cons, List.countP_nil]
            simp [waitsB, ht, h3]
          · intro q hq hne
            rw [take_snoc hd, List.countP_append, List.countP_cons, List.countP_nil]
            have : ¬ (t : Int) = (q : Int) := by omega
            simp [waitsB, ht, this]
        · intro h3
          replace h3 := nvar_f h3
          refine W_skip (at_block (at_then ?_))
          refine W_region ?_
          refine op_add_i64 rfl rfl rfl (by omega) (by omega) ?_
          refine op_move rfl (.int _ _) rfl ?_
          refine op_nil (at_then ?_)
          refine ⟨k + 1, rfl, ⟨by simp [put], trivial⟩, ⟨by omega, ?_⟩, by omega⟩
          have he : (fun b : Nat => Value.int .i64 (((l.take (k + 1)).countP (waitsB [] b) : Nat) : Int)) = fun b => .int .i64 (((l.take k).countP (waitsB [] b) : Nat) : Int) := by
            funext b
            rw [take_snoc hd, List.countP_append, List.countP_cons, List.countP_nil]
            simp [waitsB, h3]
          rw [he]
          exact H.tail
      · intro h2
        replace h2 := dec_f h2
        have hke : k = l.length := by omega
        subst hke
        rw [List.take_length] at H
        refine W_exit (exit_then (exit_then (exit_here (at_then ?_))))
        refine W_rseq ?_
        refine op_move rfl (.int _ _) rfl ?_
        refine op_make rfl el_23 sz_3 by_3 zc_3 rfl rfl (by omega) (by omega) (by omega) (by omega) H ?_
        rintro b52 w - H
        refine op_assign rfl (.slice _ _ _) rfl ?_
        refine op_nil (at_then ?_)
        refine W_rseq ?_
        refine op_move rfl (.int _ _) rfl ?_
        refine op_make rfl el_45 sz_4 by_4 zc_4 rfl rfl (by omega) (by omega) (by omega) (by omega) H ?_
        rintro b54 w - H
        rw [show ((nb : Int)).toNat = nb from rfl, rep_range nb (Value.bool false)] at H
        refine op_assign rfl (.slice _ _ _) rfl ?_
        refine op_nil (at_then ?_)
        refine W_seq ?_
        refine W_block ?_
        refine W_loop 649037107316853417537515022211632 (α := List Nat × Option Addr × Nat × List Value) (fun x => [(9, .slice x.2.1 x.1.length x.2.2.1)]) (fun x w' => Ctx w0 [] w' ((b54, Bl 4 ((List.range nb).map fun b => .bool (x.1.contains b))) :: (b33, Bl 3 ((List.range nb).map fun b => .int .i64 ((l.countP (waitsB x.1 b) : Nat) : Int))) :: ent x.2.1 3 x.2.2.2) ∧ OS x.2.1 x.1.length x.2.2.1 1 x.2.2.2 (x.1.map fun (x : Nat) => Value.int .i64 (x : Int)) ∧ orderGo l nb nb [] = orderGo l nb (nb - x.1.length) x.1 ∧ x.1.length ≤ nb) (fun x => nb - x.1.length) ([], some ⟨b52, 0, none⟩, nb, List.replicate nb (.int .i64 0)) rfl ?_ ?_ ?_
        · exact ⟨rfl, trivial⟩
        · exact ⟨H.perm ((List.Perm.swap _ _ _).cons _), ⟨(fun p hp => by injection hp with hp; subst hp; rfl), (fun h => by cases h), by simp, Nat.zero_le _, by simp⟩, rfl, Nat.zero_le _⟩
        · rintro ⟨out, a', c', full⟩ j w ⟨H, O, hgo, hlen⟩
          dsimp only at H O hgo hlen
          dsimp only
          refine W_seq ?_
          refine W_rseq ?_
          refine op_move rfl (.slice _ _ _) rfl ?_
          refine op_len rfl el_23 rfl ?_
          refine op_move rfl (.int _ _) rfl ?_
          refine op_lss rfl rfl rfl ?_
          refine op_nil (at_then ?_)
          refine W_cond _ rfl ?_ ?_
          · intro h2
            replace h2 := dec_t h2
            refine W_skip (at_then ?_)
            refine W_block ?_
            refine W_rseq ?_
            refine op_assign rfl (.int _ _) rfl ?_
            refine op_nil (at_then ?_)
            refine W_seq ?_
            refine W_rseq ?_
            refine op_move rfl (.int _ _) rfl ?_
            refine op_move rfl (.int _ _) rfl ?_
            refine op_nil (at_then ?_)
            refine W_block ?_
            refine W_loop 151114574530324039997440 (α := Nat) (fun k => [(60, .int .i64 k), (11, .int .i64 (-1))]) (fun k w' => k ≤ nb ∧ Ctx w0 [] w' ((b54, Bl 4 ((List.range nb).map fun b => .bool (out.contains b))) :: (b33, Bl 3 ((List.range nb).map fun b => .int .i64 ((l.countP (waitsB out b) : Nat) : Int))) :: ent a' 3 full) ∧ (List.range k).find? (freeB l out) = none) (fun k => nb - k) 0 rfl ?_ ?_ ?_
            · exact ⟨rfl, rfl, trivial⟩
            · exact ⟨Nat.zero_le _, H, rfl⟩
            · rintro k j w ⟨hk, H, hn⟩
              refine W_rseq ?_
              refine op_lss rfl rfl rfl ?_
              refine op_nil (at_then ?_)
              refine W_seq ?_
              refine W_cond _ rfl ?_ ?_
              · intro h3
                replace h3 := dec_t h3
                have hfree : freeB l out k = (!out.contains k && !l.any (waitsB out k)) := rfl
                refine W_skip (at_then ?_)
                refine W_seq ?_
                refine W_block ?_
                refine W_rseq ?_
                refine op_move rfl (.int _ _) rfl ?_
                refine op_assign rfl (.int _ _) rfl ?_
                refine op_nil (at_then ?_)
                refine W_rseq ?_
                refine op_move rfl (.slice _ _ _) rfl ?_
                refine op_move rfl (.int _ _) rfl ?_
                first | refine op_indexRd R rfl el_45 sz_4 rfl rfl (by omega) (by omega) (by first | rfl | omega) ?_ | refine op_indexAddr rfl el_45 sz_4 rfl rfl (by omega) (by omega) ?_
                refine op_ldr k _ rfl ag_4 rfl H at0 (by simp) (by omega) rfl ?_
                refine op_not rfl rfl ?_
                refine op_move rfl (.bool _) rfl ?_
                refine Wops_split 68 rfl ?_ ?_
                · intro h4
                  replace h4 := nvar_t h4
                  refine op_move rfl (.slice _ _ _) rfl ?_
                  refine op_move rfl (.int _ _) rfl ?_
                  first | refine op_indexRd R rfl el_23 sz_3 rfl rfl (by omega) (by omega) (by first | rfl | omega) ?_ | refine op_indexAddr rfl el_23 sz_3 rfl rfl (by omega) (by omega) ?_
                  refine op_ldr k _ rfl ag_3 rfl H at1 (by simp) (by omega) rfl ?_
                  refine op_eql rfl rfl rfl ?_
                  refine op_pick1 rfl rfl (.bool _) rfl ?_
                  refine op_nil (at_then ?_)
                  refine W_cond _ rfl ?_ ?_
                  · intro h5
                    replace h5 := dec_t h5
                    have hnx : nextB l nb out = some k := find_range hn (by omega) (by rw [hfree, h4, (countP_any l out k).1 h5]; rfl)
                    have hstep : orderGo l nb (nb - out.length) out = orderGo l nb (nb - (out.length + 1)) (out ++ [k]) := by
                      rw [show nb - out.length = (nb - (out.length + 1)) + 1 from by omega, orderGo, hnx]
                    have hlt : k < nb := by omega
                    clear hk h3
                    refine W_rseq ?_
                    refine op_move rfl (.int _ _) rfl ?_
                    refine op_assign rfl (.int _ _) rfl ?_
                    refine op_nil (at_then ?_)
                    refine W_exit (exit_pass rfl (exit_then (exit_then (exit_here (at_then ?_)))))
                    refine W_seq ?_
                    refine W_rseq ?_
                    refine op_move rfl (.int _ _) rfl ?_
                    refine op_lss rfl rfl rfl ?_
                    refine op_nil (at_then ?_)
                    refine W_cond _ rfl ?_ ?_
                    · intro h6
                      replace h6 := dec_t h6
                      omega
                    · intro h6
                      replace h6 := dec_f h6
                      refine W_skip (at_then ?_)
                      refine W_rseq ?_
                      refine op_move rfl (.slice _ _ _) rfl ?_
                      refine op_move rfl (.int _ _) rfl ?_
                      refine op_indexAddr rfl el_45 sz_4 rfl rfl (by omega) (by omega) ?_
                      refine op_str k (fun b => .bool ((out ++ [k]).contains b)) (.bool true) rfl sz_4 rfl rfl rfl H at0 (by simp) (by omega) (by simp) (fun q hq hne => by simp [hne]) ?_
                      rintro w H
                      refine op_nil (at_then ?_)
                      refine W_rseq ?_
                      refine op_move rfl (.slice _ _ _) rfl ?_
                      refine op_move rfl (.int _ _) rfl ?_
                      refine op_build1 _ (.int _ _) rfl el_23 sz_3 zc_3 rfl (by decide) (by decide) rfl rfl rfl H ?_
                      rintro b84 w - H
                      refine op_appendb (L := [_, _]) rfl el_23 el_23 sz_3 by_3 zc_3 rfl (by decide) rfl rfl H O rfl (by simp [oneCell]) (by omega) ?_
                      rintro a9 c9 full9 w H O
                      refine op_assign rfl (.slice _ _ _) rfl ?_
                      refine op_nil (at_then ?_)
                      refine W_rseq ?_
                      refine op_move rfl (.slice _ _ _) rfl ?_
                      refine op_len rfl el_22 rfl ?_
                      refine op_move rfl (.int _ _) rfl ?_
                      refine op_nil (at_then ?_)
                      refine W_block ?_
                      have hml : ∀ q b, midC l out k q b ≤ 64 := fun q b => Nat.le_trans (mid_le _ _ _ _ _) h64
                      replace H : Ctx w0 [] w ((b54, Bl 4 ((List.range nb).map fun b => .bool ((out ++ [k]).contains b))) :: (b33, Bl 3 ((List.range nb).map fun b => .int .i64 ((midC l out k 0 b : Nat) : Int))) :: ent a9 3 full9) := by simp only [mid_zero]; exact H
                      refine W_loop 649036797831843632221243316387840 (α := Nat) (fun q => [(88, .int .i64 q)]) (fun q w' => q ≤ l.length ∧ Ctx w0 [] w' ((b54, Bl 4 ((List.range nb).map fun b => .bool ((out ++ [k]).contains b))) :: (b33, Bl 3 ((List.range nb).map fun b => .int .i64 ((midC l out k q b : Nat) : Int))) :: ent a9 3 full9)) (fun q => l.length - q) 0 rfl ?_ ?_ ?_
                      · exact ⟨rfl, trivial⟩
                      · exact ⟨Nat.zero_le _, H⟩
                      · rintro q j w ⟨hq, H⟩
                        refine W_rseq ?_
                        refine op_lss rfl rfl rfl ?_
                        refine op_nil (at_then ?_)
                        refine W_seq ?_
                        refine W_cond _ rfl ?_ ?_
                        · intro h7
                          replace h7 := dec_t h7
                          obtain ⟨d, hd⟩ := get_some (l := l) (i := q) (by omega)
                          obtain ⟨hfine, d1, d2, d3, d4, d5, _⟩ := F.due d (List.mem_of_getElem? hd)
                          obtain ⟨t, ht⟩ : ∃ t : Nat, d.to = t := ⟨d.to.toNat, by omega⟩
                          have hcnt := hml q t
                          refine W_skip (at_then ?_)
                          refine W_seq ?_
                          refine W_block ?_
                          refine W_rseq ?_
                          first | refine op_indexRd R rfl el_22 sz_41 rfl rfl (by omega) (by omega) (by first | rfl | omega) ?_ | refine op_indexAddr rfl el_22 sz_41 rfl rfl (by omega) (by omega) ?_
                          refine op_ldN d.enc rfl ag_41 sz_41 rfl rfl ((R.ext0 H.ext).row hd rfl) ?_
                          refine op_alloc rfl zc_41 H ?_
                          rintro b14 w - H
                          refine op_stb0 rfl sz_41 rfl rfl rfl (by simp [oneCell, Due.enc]) H at0 rfl ?_
                          rintro w H
                          refine op_nil (at_then ?_)
                          refine W_rseq ?_
                          refine op_fieldAddr rfl fo_41_6 rfl ?_
                          refine op_ldb rfl ag_4 rfl H (by first | exact at0 | exact at1 | exact at2 | exact at3 | exact at4 | exact at5 | exact at6 | exact at7 | exact at8 | exact at9) rfl ?_
                          refine op_not rfl rfl ?_
                          refine op_move rfl (.bool _) rfl ?_
                          refine Wops_split 95 rfl ?_ ?_
                          · intro h8
                            replace h8 := nvar_t h8
                            refine op_fieldAddr rfl fo_41_1 rfl ?_
                            refine op_ldb rfl ag_3 rfl H (by first | exact at0 | exact at1 | exact at2 | exact at3 | exact at4 | exact at5 | exact at6 | exact at7 | exact at8 | exact at9) rfl ?_
                            refine op_move rfl (.int _ _) rfl ?_
                            refine op_eql rfl rfl rfl ?_
                            refine op_pick1 rfl rfl (.bool _) rfl ?_
                            refine op_nil (at_then ?_)
                            refine W_cond _ rfl ?_ ?_
                            · intro h9
                              replace h9 := dec_t h9
                              refine W_region ?_
                              refine op_move rfl (.slice _ _ _) rfl ?_
                              refine op_fieldAddr rfl fo_41_2 rfl ?_
                              refine op_ldb rfl ag_3 rfl H (by first | exact at0 | exact at1 | exact at2 | exact at3 | exact at4 | exact at5 | exact at6 | exact at7 | exact at8 | exact at9) rfl ?_
                              refine op_indexAddr rfl el_23 sz_3 rfl rfl (by omega) (by omega) ?_
                              refine op_ldr t _ rfl ag_3 rfl H at2 (by rw [ht]; simp) (by omega) rfl ?_
                              refine op_sub_i64 rfl rfl rfl (by omega) (by omega) ?_
                              refine op_indexAddr rfl el_23 sz_3 rfl rfl (by omega) (by omega) ?_
                              refine op_str t (fun b => .int .i64 ((midC l out k (q + 1) b : Nat) : Int)) (.int _ _) rfl sz_3 rfl rfl rfl H at2 (by rw [ht]; simp) (by omega) ?_ ?_ ?_
                              rotate_left
                              rotate_left
                              rintro w H
                              refine op_nil (at_block (at_then ?_))
                              refine W_region ?_
                              refine op_add_i64 rfl rfl rfl (by omega) (by omega) ?_
                              refine op_move rfl (.int _ _) rfl ?_
                              refine op_nil (at_then ?_)
                              · exact ⟨q + 1, rfl, ⟨rfl, trivial⟩, ⟨by omega, H.tail⟩, by omega⟩
                              · refine congrArg (Value.int .i64) ?_
                                rw [mid_step hd h8 h9 (next_lt hnx).2.1, if_pos ht]
                              · intro b hb hne
                                refine congrArg (Value.int .i64) ?_
                                rw [mid_step hd h8 h9 (next_lt hnx).2.1, if_neg (by omega)]
                            · intro h9
                              replace h9 := dec_f h9
                              refine W_skip (at_block (at_then ?_))
                              refine W_region ?_
                              refine op_add_i64 rfl rfl rfl (by omega) (by omega) ?_
                              refine op_move rfl (.int _ _) rfl ?_
                              refine op_nil (at_then ?_)
                              refine ⟨q + 1, rfl, ⟨rfl, trivial⟩, ⟨by omega, ?_⟩, by omega⟩
                              rw [show (fun b : Nat => Value.int .i64 ((midC l out k (q + 1) b : Nat) : Int)) = fun b => .int .i64 ((midC l out k q b : Nat) : Int) from by funext b; rw [mid_same hd (fun h => h9 h.2) d1]]
                              exact H.tail
                          · intro h8
                            replace h8 := nvar_f h8
                            refine op_skip rfl ?_
                            refine op_skip rfl ?_
                            refine op_skip rfl ?_
                            refine op_skip rfl ?_
                            refine op_pick0 rfl rfl (.bool _) rfl ?_
                            refine op_nil (at_then ?_)
                            refine W_cond0 rfl ?_
                            refine W_skip (at_block (at_then ?_))
                            refine W_region ?_
                            refine op_add_i64 rfl rfl rfl (by omega) (by omega) ?_
                            refine op_move rfl (.int _ _) rfl ?_
                            refine op_nil (at_then ?_)
                            refine ⟨q + 1, rfl, ⟨rfl, trivial⟩, ⟨by omega, ?_⟩, by omega⟩
                            rw [show (fun b : Nat => Value.int .i64 ((midC l out k (q + 1) b : Nat) : Int)) = fun b => .int .i64 ((midC l out k q b : Nat) : Int) from by funext b; rw [mid_same hd (fun h => by simp [h.1] at h8) d1]]
                            exact H.tail
                        · intro h7
                          replace h7 := dec_f h7
                          have hqe : q = l.length := by omega
                          subst hqe
                          refine W_exit (exit_then (exit_then (exit_here (at_block (at_then ?_)))))
                          refine ⟨(out ++ [k], a9, c9, full9), rfl, ⟨by rw [List.length_append]; rfl, trivial⟩, ⟨by simpa only [mid_end] using H, by simpa using O, ?_, by simp; omega⟩, by simp; omega⟩
                          rw [hgo, hstep]; simp
                  · intro h5
                    replace h5 := dec_f h5
                    refine W_skip (at_block (at_then ?_))
                    refine W_region ?_
                    refine op_add_i64 rfl rfl rfl (by omega) (by omega) ?_
                    refine op_move rfl (.int _ _) rfl ?_
                    refine op_nil (at_then ?_)
                    refine ⟨k + 1, rfl, ⟨by simp [put], rfl, trivial⟩, ⟨by omega, H, find_snoc hn ?_⟩, by omega⟩
                    rw [hfree, h4]
                    cases ha : l.any (waitsB out k) with
                    | true => rfl
                    | false => exact absurd ((countP_any l out k).2 ha) h5
                · intro h4
                  replace h4 := nvar_f h4
                  refine op_skip rfl ?_
                  refine op_skip rfl ?_
                  refine op_skip rfl ?_
                  refine op_skip rfl ?_
                  refine op_skip rfl ?_
                  refine op_pick0 rfl rfl (.bool _) rfl ?_
                  refine op_nil (at_then ?_)
                  refine W_cond0 rfl ?_
                  refine W_skip (at_block (at_then ?_))
                  refine W_region ?_
                  refine op_add_i64 rfl rfl rfl (by omega) (by omega) ?_
                  refine op_move rfl (.int _ _) rfl ?_
                  refine op_nil (at_then ?_)
                  refine ⟨k + 1, rfl, ⟨by simp [put], rfl, trivial⟩, ⟨by omega, H, find_snoc hn ?_⟩, by omega⟩
                  rw [hfree, h4]; rfl
              · intro h3
                replace h3 := dec_f h3
                have hke : k = nb := by omega
                subst hke
                refine W_exit (exit_then (exit_then (exit_here (at_then ?_))))
                refine W_seq ?_
                refine W_rseq ?_
                refine op_move rfl (.int _ _) rfl ?_
                refine op_lss rfl rfl rfl ?_
                refine op_nil (at_then ?_)
                refine W_cond _ rfl ?_ ?_
                · intro h6
                  replace h6 := dec_t h6
                  refine W_rseq ?_
                  refine op_assign rfl (.slice _ _ _) rfl ?_
                  refine op_assign rfl (.bool _) rfl ?_
                  refine op_nil (at_then ?_)
                  refine W_ret (ret_then (ret_block (ret_then (ret_block (ret_then (leave2 (v1 := (.slice _ _ _)) (v2 := (.bool _)) rfl rfl rfl rfl ?_))))))
                  refine post_none ?_ rfl H.ext
                  rw [orderD, h1]
                  show orderGo l k k [] = none
                  rw [hgo, show k - out.length = (k - out.length - 1) + 1 from by omega, orderGo, show nextB l k out = none from hn]
                · intro h6
                  replace h6 := dec_f h6
                  omega
          · intro h2
            replace h2 := dec_f h2
            have hle : out.length = nb := by omega
            refine W_exit (exit_then (exit_then (exit_here (at_then ?_))))
            refine W_rseq ?_
            refine op_move rfl (.slice _ _ _) rfl ?_
            refine op_assign rfl (.slice _ _ _) rfl ?_
            refine op_assign rfl (.bool _) rfl ?_
            refine op_nil (at_then ?_)
            refine W_ret (leave2 (v1 := (.slice _ _ _)) (v2 := (.bool _)) rfl rfl rfl rfl ?_)
            refine post_some (out := out) ?_ rfl (H.fresh (L := [_, _]) O)
            rw [orderD, h1]
            show orderGo l nb nb [] = some out
            rw [hgo, hle, Nat.sub_self, orderGo]

end Go.Proofs.Ytogaoppnoibgdaa
