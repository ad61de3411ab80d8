/- The law CyclesEither: what it does. -/
import Derived.Test.YtogaoppnoibgdaaCyN
import Derived.Test.YtogaoppnoibgdaaCyT
import Derived.Test.YtogaoppnoibgdaaCyV
namespace Go.Proofs.Ytogaoppnoibgdaa
open Go.GV
attribute [local irreducible] Wops W Wq

theorem flat_set {α : Type} {enc : α → List Value} {s : Nat} : ∀ {xs : List α} (_ : ∀ x ∈ xs, (enc x).length = s) (i j : Nat) (x y : α) (v : Value), xs[i]? = some x → j < s → enc y = (enc x).set j v →
    (xs.flatMap enc).set (i * s + j) v = (xs.set i y).flatMap enc
  | [], _, i, j, x, y, v, hx, _, _ => by simp at hx
  | z :: xs, hs, 0, j, x, y, v, hx, hj, hy => by
    simp at hx; subst hx
    have hz := hs z (by simp)
    simp only [List.flatMap_cons, List.set_cons_zero, Nat.zero_mul, Nat.zero_add]
    rw [List.set_append, if_pos (by omega), hy]
  | z :: xs, hs, i + 1, j, x, y, v, hx, hj, hy => by
    have hz := hs z (by simp)
    have ih := flat_set (enc := enc) (fun w h => hs w (List.mem_cons_of_mem _ h)) i j x y v (by simpa using hx) hj hy
    simp only [List.flatMap_cons, List.set_cons_succ]
    have h1 : (i + 1) * s + j = (enc z).length + (i * s + j) := by rw [hz, Nat.add_mul]; omega
    rw [List.set_append, if_neg (by rw [h1]; omega), h1, Nat.add_sub_cancel_left, ih]
theorem OS_set {a : Option Addr} {n c s : Nat} {full l : List Value} (h : OS a n c s full l) (i : Nat) (v : Value) : OS a n c s (full.set i v) (l.set i v) :=
  ⟨h.zero, h.none', by rw [List.length_set]; exact h.len, h.le, by
    rw [← h.pre, List.take_set]⟩

def mixD (m : List Due) (r : List Int) (x : Int) (k q : Nat) : Due := if q < k then paidD m r x q else (m[q]?).getD ⟨0, 0, 0, 0, 0, 0, false⟩
def mixL (m : List Due) (r : List Int) (x : Int) (k : Nat) : List Due := (List.range m.length).map (mixD m r x k)
theorem mix_zero (m : List Due) (r : List Int) (x : Int) : mixL m r x 0 = m := by
  apply List.ext_getElem?
  intro q
  by_cases hq : q < m.length
  · rw [mixL, range_get hq, mixD, if_neg (by omega), List.getElem?_eq_getElem hq]; rfl
  · rw [mixL, List.getElem?_eq_none (by simp; omega), List.getElem?_eq_none (by omega)]
theorem mix_end (m : List Due) (r : List Int) (x : Int) : mixL m r x m.length = paidL m r x := by
  refine List.map_congr_left fun q hq => ?_
  have := List.mem_range.1 hq
  rw [mixD, if_pos this]
theorem mix_set (m : List Due) (r : List Int) (x : Int) (k : Nat) : (mixL m r x k).set k (paidD m r x k) = mixL m r x (k + 1) :=
  range_set (by rw [mixD, if_pos (by omega)]) (fun j _ hj => by
    simp only [mixD]
    by_cases h : j < k
    · rw [if_pos h, if_pos (by omega)]
    · rw [if_neg h, if_neg (by omega)])
theorem mix_len (m : List Due) (r : List Int) (x : Int) (k : Nat) : (mixL m r x k).length = m.length := by simp [mixL]
theorem mix_at {m : List Due} {r : List Int} {x : Int} {k : Nat} {d : Due} (hd : m[k]? = some d) : (mixL m r x k)[k]? = some d := by
  rw [mixL, range_get (get_lt hd), mixD, if_neg (by omega), hd]; rfl
theorem mix_at' {m : List Due} {r : List Int} {x : Int} {k : Nat} {d : Due} (hd : m[k]? = some d) : (mixL m r x (k + 1))[k]? = some (paidD m r x k) := by
  rw [mixL, range_get (get_lt hd), mixD, if_pos (by omega)]
def nextK (m : List Due) (r : List Int) (x : Int) (k : Nat) : List Due := ((paidL m r x).take k).filter fun d => decide (0 < d.am)
theorem paid_at {m : List Due} {r : List Int} {x : Int} {k : Nat} (h : k < m.length) : (paidL m r x)[k]? = some (paidD m r x k) := by rw [paidL, range_get h]
theorem nextK_step {m : List Due} {r : List Int} {x : Int} {k : Nat} (h : k < m.length) : nextK m r x (k + 1) = nextK m r x k ++ if 0 < (paidD m r x k).am then [paidD m r x k] else [] := by
  unfold nextK
  rw [take_snoc (paid_at h), List.filter_append]
  congr 1
  rw [List.filter_cons, List.filter_nil]
  simp
theorem nextK_end (m : List Due) (r : List Int) (x : Int) : nextK m r x m.length = nextL m r x := by
  unfold nextK nextL
  rw [List.take_of_length_le (by simp [paidL])]
theorem nextK_len (m : List Due) (r : List Int) (x : Int) (k : Nat) : (nextK m r x k).length ≤ k := Nat.le_trans (List.length_filter_le _ _) (by rw [List.length_take]; omega)

theorem placed_okM (a b : Option Addr) (c c' : Nat) (l : List Due) (out : List Nat) (n : Nat) (w : World) (R : Rd w a 7 Due.enc l) (R' : Rd w b 1 I64 (out.map fun (x : Nat) => (x : Int))) (hm : l.length ≤ 64) (F : ∀ d ∈ l, 0 ≤ d.fr ∧ d.fr < 16 ∧ 0 ≤ d.to ∧ d.to < 16 ∧ d.fr ≠ d.to) (P : Places l out) (hn : out.length = n) :
    Ret Try.prog 18 #[.slice a l.length c, .slice b n c'] w fun v w' => v = .bool true ∧ Ext [] w w' := by subst hn; exact placed_ok a b c c' l out w R R' hm F P

set_option maxRecDepth 100000 in
set_option maxHeartbeats 4000000 in
theorem either_ok (a : Option Addr) (c : Nat) (l : List Due) (w : World) (R : Rd w a 7 Due.enc l) (hm : l.length ≤ 9223372036854775807) :
    Ret Try.prog 4 #[.slice a l.length c] w fun v w' => v = .bool true ∧ Ext [] w w' := by
  obtain ⟨w0, rfl⟩ : ∃ w0, w0 = w := ⟨_, rfl⟩
  have H := Ctx.start w0 []
  refine ret_of_W (fn := Try.f4) Try.func4 rfl [.slice a l.length c] rfl (by kernel_rfl) ?_
  refine W_rseq ?_
  refine op_assign rfl (.bool _) rfl ?_
  refine op_nil (at_then ?_)
  refine W_seq ?_
  refine W_rseq ?_
  refine op_move rfl (.slice _ _ _) rfl ?_
  refine op_call rfl ca_16 (may29_ok 16 a c l _ R hm) rfl ?_
  rintro v w ⟨rfl, hx⟩
  rw [may_all]
  replace H := H.call hx
  refine op_not rfl rfl ?_
  refine op_nil (at_then ?_)
  refine W_cond _ rfl ?_ ?_
  · intro h1
    replace h1 := nvar_t h1
    refine W_rseq ?_
    refine op_call rfl ca_6 (works_ok _) rfl ?_
    rintro v w ⟨rfl, hx⟩
    refine op_assign rfl (.bool _) rfl ?_
    refine op_nil (at_then ?_)
    refine W_ret (ret_then (leave1 (v := (.bool _)) rfl rfl rfl ?_))
    exact ⟨rfl, H.ext.trans hx⟩
  · intro h1
    replace h1 := nvar_f h1
    have F := (all_facts h1).2
    have h64 := (all_facts h1).1
    replace R := R.ext0 H.ext
    refine W_skip (at_then ?_)
    refine W_rseq ?_
    refine op_move rfl (.slice _ _ _) rfl ?_
    refine op_call rfl ca_11 (nets_ok 16 a c l _ R hm) rfl ?_
    rintro v w P
    obtain ⟨a3, c3, rfl, hx, R3⟩ := nets_uni P
    replace R := R.ext0 hx
    have hx0 := H.ext.trans hx
    clear H P
    refine op_move rfl (.tuple _) rfl ?_
    refine op_extract rfl rfl rfl ?_
    refine op_extract rfl rfl rfl ?_
    refine op_assign rfl (.slice _ _ _) rfl ?_
    refine op_assign rfl (.int _ _) rfl ?_
    refine op_nil (at_then ?_)
    refine W_seq ?_
    refine W_rseq ?_
    refine op_move rfl (.int _ _) rfl ?_
    refine op_neq rfl rfl rfl ?_
    refine op_nil (at_then ?_)
    refine W_cond _ rfl ?_ ?_
    · intro h2
      replace h2 := ndec_t h2
      have h13 : netsE 16 l = 13 := by
        rw [netsE_all h1] at h2 ⊢
        cases hd : decide (4503599627370496 < sumA l) with
        | true => rfl
        | false => rw [hd] at h2; exact absurd rfl h2
      refine W_rseq ?_
      refine op_move rfl (.int _ _) rfl ?_
      refine op_eql rfl rfl rfl ?_
      rw [decide_eq_true h13]
      refine op_move rfl (.bool _) rfl ?_
      refine op_call rfl ca_6 (works_ok _) rfl ?_
      rintro v w ⟨rfl, hx⟩
      refine op_pick1 rfl rfl (.bool _) rfl ?_
      refine op_assign rfl (.bool _) rfl ?_
      refine op_nil (at_then ?_)
      refine W_ret (ret_then (leave1 (v := (.bool _)) rfl rfl rfl ?_))
      exact ⟨rfl, hx0.trans hx⟩
    · intro h2
      replace h2 := ndec_f h2
      obtain ⟨w1, rfl⟩ : ∃ w1, w1 = w := ⟨_, rfl⟩
      have H := Ctx.start w1 []
      refine W_skip (at_then ?_)
      refine W_rseq ?_
      refine op_build0 rfl el_22 sz_41 H ?_
      rintro b35 w H O
      refine op_move rfl (.slice _ _ _) rfl ?_
      refine op_append rfl el_22 el_22 sz_41 by_41 zc_41 rfl (by decide) (l.flatMap Due.enc) rfl rfl H O (enc_len l) enc_one ((R.ext0 H.ext).app (fun x _ => rfl) (by decide)) (by omega) ?_
      rintro a5 c5 full5 w H O
      rw [Nat.zero_add]
      refine op_assign rfl (.slice _ _ _) rfl ?_
      refine op_nil (at_then ?_)
      refine W_seq ?_
      refine W_rseq ?_
      refine op_assign rfl (.int _ _) rfl ?_
      refine op_nil (at_then ?_)
      refine W_block ?_
      replace O : OS a5 l.length c5 7 full5 (l.flatMap Due.enc) := by simpa using O
      refine W_loop 1427247692705959881058285969449494861505363940 (α := Nat × List Due × Option Addr × Nat × List Value) (fun x => [(6, .int .i64 x.1), (5, .slice x.2.2.1 x.2.1.length x.2.2.2.1)]) (fun x w' => Ctx w1 [] w' (ent x.2.2.1 41 x.2.2.2.2) ∧ OS x.2.2.1 x.2.1.length x.2.2.2.1 7 x.2.2.2.2 (x.2.1.flatMap Due.enc) ∧ allD x.2.1 = true ∧ (∀ b, netB x.2.1 b = netB l b) ∧ sumA x.2.1 ≤ sumA l ∧ x.2.1.length + x.1 ≤ l.length) (fun x => l.length - x.1) (0, l, a5, c5, full5) rfl ?_ ?_ ?_
      · exact ⟨rfl, rfl, trivial⟩
      · exact ⟨H, O, h1, fun _ => rfl, Int.le_refl _, by dsimp only; omega⟩
      · rintro ⟨st, m, a5, c5, full5⟩ j w ⟨H, O, ha, hnet, hsum, hle⟩; dsimp only at H O ha hnet hsum hle; dsimp only
        have hne : netsE 16 m = 0 := by
          rw [netsE_all h1] at h2
          cases hd : decide (4503599627370496 < sumA l) with
          | true => rw [hd] at h2; cases h2
          | false => rw [decide_eq_false_iff_not] at hd; rw [netsE_all ha, decide_eq_false (by omega)]; rfl
        have hnx : netX 16 m = netX 16 l := by
          rw [netX, netX, decide_eq_true hne, decide_eq_true h2]
          exact List.map_congr_left fun b _ => hnet b
        have hm64 := (all_facts ha).1
        have R5 : Rd w a5 7 Due.enc m := OS.rd (t := 41) O (fun x hx => H.blk x hx) (fun x _ => rfl) (by decide)
        refine W_seq ?_
        refine W_rseq ?_
        refine op_move rfl (.int _ _) rfl ?_
        refine op_move rfl (.slice _ _ _) rfl ?_
        refine op_len rfl el_22 rfl ?_
        refine op_leq rfl rfl rfl ?_
        refine op_nil (at_then ?_)
        refine W_cond _ rfl ?_ ?_
        · intro h3
          replace h3 := dec_t h3
          refine W_skip (at_then ?_)
          refine W_seq ?_
          refine W_block ?_
          refine W_rseq ?_
          refine op_move rfl (.slice _ _ _) rfl ?_
          refine op_call rfl ca_15 (find_ok a5 c5 m _ R5 (by omega)) rfl ?_
          rintro v w P
          obtain ⟨a7, c7, r, bf, rfl, hx, R7, hF⟩ := find_uni P
          replace H := H.call hx
          replace R5 := R5.ext0 hx
          refine op_move rfl (.tuple _) rfl ?_
          refine op_extract rfl rfl rfl ?_
          refine op_extract rfl rfl rfl ?_
          refine op_assign rfl (.slice _ _ _) rfl ?_
          refine op_assign rfl (.bool _) rfl ?_
          refine op_nil (at_then ?_)
          refine W_rseq ?_
          refine op_move rfl (.slice _ _ _) rfl ?_
          refine op_call rfl ca_7 (order_ok 16 a5 c5 m _ R5 (by omega)) rfl ?_
          rintro v w P
          obtain ⟨a9, c9, rfl, hx, R9⟩ := order_uni P
          replace H := H.call hx
          replace R5 := R5.ext0 hx
          replace R7 := R7.ext0 hx
          have hob : (orderD 16 m).isSome = !bf := (by rw [found_order ha hF, Bool.not_not])
          rw [hob]
          refine op_move rfl (.tuple _) rfl ?_
          refine op_extract rfl rfl rfl ?_
          refine op_extract rfl rfl rfl ?_
          refine op_assign rfl (.slice _ _ _) rfl ?_
          refine op_assign rfl (.bool _) rfl ?_
          refine op_nil (at_then ?_)
          refine W_rseq ?_
          refine op_move rfl (.slice _ _ _) rfl ?_
          refine op_call rfl ca_11 (nets_ok 16 a5 c5 m _ R5 (by omega)) rfl ?_
          rintro v w P
          obtain ⟨a11, c11, rfl, hx, R11⟩ := nets_uni P
          rw [hne, hnx]
          rw [hnx] at R11
          replace H := H.call hx
          replace R5 := R5.ext0 hx
          replace R7 := R7.ext0 hx
          replace R9 := R9.ext0 hx
          refine op_move rfl (.tuple _) rfl ?_
          refine op_extract rfl rfl rfl ?_
          refine op_extract rfl rfl rfl ?_
          refine op_assign rfl (.slice _ _ _) rfl ?_
          refine op_assign rfl (.int _ _) rfl ?_
          refine op_nil (at_then ?_)
          refine W_seq ?_
          refine W_rseq ?_
          refine op_move rfl (.bool _) rfl ?_
          refine op_move rfl (.bool _) rfl ?_
          refine op_eqlb un_4 rfl rfl rfl ?_
          rw [show (bf == !bf) = false from by cases bf <;> rfl]
          refine op_move rfl (.bool _) rfl ?_
          refine op_move rfl (.int _ _) rfl ?_
          refine op_neq rfl rfl rfl ?_
          rw [decide_eq_true rfl, Bool.not_true]
          refine op_pick0 rfl rfl (.bool _) rfl ?_
          refine op_move rfl (.bool _) rfl ?_
          refine op_move rfl (.slice _ _ _) rfl ?_
          refine op_move rfl (.slice _ _ _) rfl ?_
          refine op_call rfl ca_14 (amounts_ok a11 a3 c11 c3 _ _ _ R11 (R3.ext0 H.ext) (netX_len 16 l)) rfl ?_
          rintro v w ⟨rfl, hx⟩
          rw [decide_eq_true rfl]
          replace H := H.call hx
          replace R5 := R5.ext0 hx
          replace R7 := R7.ext0 hx
          replace R9 := R9.ext0 hx
          refine op_not rfl rfl ?_
          refine op_pick0 rfl rfl (.bool _) rfl ?_
          refine op_nil (at_then ?_)
          refine W_cond0 rfl ?_
          refine W_skip (at_then ?_)
          refine W_seq ?_
          refine W_rseq ?_
          refine op_move rfl (.bool _) rfl ?_
          refine op_nil (at_then ?_)
          refine W_cond _ rfl ?_ ?_
          · intro h4
            obtain ⟨o, ho⟩ : ∃ o, orderD 16 m = some o := by
              rw [← hob] at h4
              cases ho : orderD 16 m with
              | none => rw [ho] at h4; cases h4
              | some o => exact ⟨o, rfl⟩
            have hoX : ordX 16 m = o.map fun (x : Nat) => (x : Int) := by rw [ordX, ho]
            rw [hoX] at R9
            refine W_rseq ?_
            refine op_move rfl (.slice _ _ _) rfl ?_
            refine op_move rfl (.slice _ _ _) rfl ?_
            refine op_call rfl ca_18 (placed_okM a5 a9 c5 c9 m o (ordX 16 m).length _ R5 R9 hm64 (all_facts ha).2 (order_places ha ho) (by rw [hoX]; simp)) rfl ?_
            rintro v w ⟨rfl, hx⟩
            replace H := H.call hx
            refine op_move rfl (.bool _) rfl ?_
            refine op_call rfl ca_6 (works_ok _) rfl ?_
            rintro v w ⟨rfl, hx⟩
            refine op_pick1 rfl rfl (.bool _) rfl ?_
            refine op_assign rfl (.bool _) rfl ?_
            refine op_nil (at_then ?_)
            refine W_ret (ret_then (ret_block (ret_then (ret_then (ret_block (ret_then (leave1 (v := (.bool _)) rfl rfl rfl ?_)))))))
            exact ⟨rfl, hx0.trans (H.ext.trans hx)⟩
          · intro h4
            have hbf : bf = true := by simpa using h4
            obtain ⟨_, hr⟩ := hF.yes hbf
            have hP := paid_ring ha hr
            have hrs := ring_short hr
            have hr0 := (ring_parts hr).2.2
            generalize hxe : leastD m r = x at hP
            have hp1 := hP.pos
            have hlv : leastV m r = .tuple #[.int .i64 x, .bool true] := by rw [leastV, hr, hxe]; rfl
            obtain ⟨b5, rfl⟩ := O.form (by omega)
            replace H : Ctx w1 [] w [(b5, Bl 41 full5)] := H
            refine W_skip (at_then ?_)
            refine W_rseq ?_
            refine op_move rfl (.slice _ _ _) rfl ?_
            refine op_move rfl (.slice _ _ _) rfl ?_
            refine op_call rfl ca_9 (least_ok _ a7 c5 c7 m r _ R5 R7 (by omega)) rfl ?_
            rintro v w ⟨rfl, hx⟩
            rw [hlv]
            replace H := H.call hx
            replace R5 := R5.ext0 hx
            replace R7 := R7.ext0 hx
            refine op_move rfl (.tuple _) rfl ?_
            refine op_extract rfl rfl rfl ?_
            refine op_extract rfl rfl rfl ?_
            refine op_assign rfl (.int _ _) rfl ?_
            refine op_assign rfl (.bool _) rfl ?_
            refine op_nil (at_then ?_)
            refine W_seq ?_
            refine W_rseq ?_
            refine op_move rfl (.bool _) rfl ?_
            refine op_not rfl rfl ?_
            refine op_move rfl (.bool _) rfl ?_
            refine op_move rfl (.int _ _) rfl ?_
            refine op_lss rfl rfl rfl ?_
            rw [decide_eq_false (show ¬ x < 1 by omega)]
            refine op_pick0 rfl rfl (.bool _) rfl ?_
            refine op_move rfl (.bool _) rfl ?_
            refine op_move rfl (.slice _ _ _) rfl ?_
            refine op_move rfl (.slice _ _ _) rfl ?_
            refine op_call rfl ca_17 (ring29_ok _ a7 c5 c7 m r _ R5 R7 (by omega) (by omega)) rfl ?_
            rintro v w ⟨rfl, hx⟩
            rw [hr]
            replace H := H.call hx
            replace R5 := R5.ext0 hx
            replace R7 := R7.ext0 hx
            refine op_not rfl rfl ?_
            refine op_pick0 rfl rfl (.bool _) rfl ?_
            refine op_nil (at_then ?_)
            refine W_cond0 rfl ?_
            refine W_skip (at_then ?_)
            refine W_rseq ?_
            refine op_move rfl (.slice _ _ _) rfl ?_
            obtain ⟨w2, rfl⟩ : ∃ w2, w2 = w := ⟨_, rfl⟩
            have H2 := Ctx.start w2 []
            refine op_len rfl el_22 rfl ?_
            refine op_make rfl el_29 sz_2 by_2 zc_2 rfl rfl (by omega) (by omega) (by omega) (by omega) H2 ?_
            rintro b15 w hsz H2
            rw [show ((m.length : Int)).toNat = m.length from rfl, rep_range] at H2
            refine op_assign rfl (.slice _ _ _) rfl ?_
            refine op_nil (at_then ?_)
            refine W_seq ?_
            refine W_rseq ?_
            refine op_assign rfl (.int _ _) rfl ?_
            refine op_nil (at_then ?_)
            refine W_block ?_
            refine W_loop 10383326066469427027659495955300352 (α := Nat) (fun k => [(16, .int .i64 k)]) (fun k w' => k ≤ r.length ∧ Ctx w2 [] w' [(b15, Bl 2 ((List.range m.length).map fun (q : Nat) => .int .i64 (if (q : Int) ∈ r.take k then x else 0)))]) (fun k => r.length - k) 0 rfl ?_ ?_ ?_
            · exact ⟨rfl, trivial⟩
            · exact ⟨Nat.zero_le _, by simpa using H2⟩
            · rintro k j w ⟨hk, H2⟩
              refine W_seq ?_
              refine W_rseq ?_
              refine op_move rfl (.int _ _) rfl ?_
              refine op_move rfl (.slice _ _ _) rfl ?_
              refine op_len rfl el_23 rfl ?_
              refine op_lss rfl rfl rfl ?_
              refine op_nil (at_then ?_)
              refine W_cond _ rfl ?_ ?_
              · intro h5
                replace h5 := dec_t h5
                obtain ⟨y, hy⟩ := get_some (l := r) (i := k) (by omega)
                have hym := ring_mem hr (List.mem_of_getElem? hy)
                obtain ⟨z, rfl⟩ : ∃ z : Nat, y = z := ⟨y.toNat, by omega⟩
                refine W_skip (at_then ?_)
                refine W_seq ?_
                refine W_block ?_
                refine W_region ?_
                refine op_move rfl (.slice _ _ _) rfl ?_
                refine op_move rfl (.slice _ _ _) rfl ?_
                refine op_move rfl (.int _ _) rfl ?_
                first | refine op_indexRd R7 rfl el_23 sz_3 rfl rfl (by omega) (by omega) (by first | rfl | omega) ?_ | refine op_indexAddr rfl el_23 sz_3 rfl rfl (by omega) (by omega) ?_
                refine op_ld rfl ag_3 rfl ((R7.ext0 H2.ext).one (f := iv) hy) ?_
                refine op_move rfl (.int _ _) rfl ?_
                refine op_indexAddr rfl el_29 sz_2 rfl rfl (by omega) (by omega) ?_
                refine op_str z (fun (q : Nat) => .int .i64 (if (q : Int) ∈ r.take (k + 1) then x else 0)) (.int _ _) rfl sz_2 rfl rfl rfl H2 at0 (by simp) (by omega) (by rw [take_snoc hy]; simp) (fun q _ hq => by rw [take_snoc hy]; simp [show (q : Int) ≠ (z : Int) by omega]) ?_
                rintro w H2
                refine op_nil (at_block (at_then ?_))
                refine W_region ?_
                refine op_move rfl (.int _ _) rfl ?_
                refine op_add_i64 rfl rfl rfl (by omega) (by omega) ?_
                refine op_assign rfl (.int _ _) rfl ?_
                refine op_nil (at_then ?_)
                exact ⟨k + 1, rfl, ⟨rfl, trivial⟩, ⟨by omega, H2⟩, by omega⟩
              · intro h5
                replace h5 := dec_f h5
                have hke : k = r.length := by omega
                subst hke
                rw [List.take_length] at H2
                replace H := H.callAdd H2.ext (H2.get at0) (by omega)
                have hn0 : 0 < m.length := by omega
                clear R5 R7 R9 R11
                refine W_exit (exit_then (exit_then (exit_here (at_then ?_))))
                refine W_rseq ?_
                refine op_assign rfl (.slice _ _ _) rfl ?_
                refine op_nil (at_then ?_)
                refine W_seq ?_
                refine W_rseq ?_
                refine op_assign rfl (.int _ _) rfl ?_
                refine op_nil (at_then ?_)
                refine W_block ?_
                refine W_loop 22300745188146029424466063015587368847933440 (α := Nat × List Value × Option Addr × Nat × List Value) (fun z => [(18, .int .i64 z.1), (17, .slice z.2.2.1 (nextK m r x z.1).length z.2.2.2.1)]) (fun z w' => z.1 ≤ m.length ∧ Ctx w1 [] w' ([(b15, Bl 2 ((List.range m.length).map fun (q : Nat) => .int .i64 (if (q : Int) ∈ r then x else 0))), (b5, Bl 41 z.2.1)] ++ ent z.2.2.1 41 z.2.2.2.2) ∧ OS (some ⟨b5, 0, none⟩) m.length c5 7 z.2.1 ((mixL m r x z.1).flatMap Due.enc) ∧ OS z.2.2.1 (nextK m r x z.1).length z.2.2.2.1 7 z.2.2.2.2 ((nextK m r x z.1).flatMap Due.enc)) (fun z => m.length - z.1) (0, full5, none, 0, []) rfl ?_ ?_ ?_
                · exact ⟨rfl, rfl, trivial⟩
                · exact ⟨Nat.zero_le _, H, by dsimp only; rw [mix_zero]; exact O, OS.nil⟩
                · rintro ⟨k, fl, a17, c17, full17⟩ j w ⟨hk, H, O5, O17⟩; dsimp only at hk H O5 O17; dsimp only
                  have hnk := nextK_len m r x k
                  have hfl := O5.split
                  have hR : Rd w (some ⟨b5, 0, none⟩) 7 Due.enc (mixL m r x k) := OS.rd (t := 41) O5 (fun x hx => by simp only [ent, List.mem_singleton] at hx; subst hx; exact H.get at1) (fun x _ => rfl) (by decide)
                  refine W_seq ?_
                  refine W_rseq ?_
                  refine op_move rfl (.int _ _) rfl ?_
                  refine op_move rfl (.slice _ _ _) rfl ?_
                  refine op_len rfl el_22 rfl ?_
                  refine op_lss rfl rfl rfl ?_
                  refine op_nil (at_then ?_)
                  refine W_cond _ rfl ?_ ?_
                  · intro h6
                    replace h6 := dec_t h6
                    obtain ⟨d, hd⟩ := get_some (l := m) (i := k) (by omega)
                    have hdf := (fine_iff d).1 (by simp only [allD, Bool.and_eq_true, List.all_eq_true] at ha; exact ha.2 d (List.mem_of_getElem? hd))
                    have hpe : (paidD m r x k).am = d.am - (if (k : Int) ∈ r then x else 0) := by simp only [paidD, hd, Option.getD_some, subD]
                    have hpk : 0 ≤ (if (k : Int) ∈ r then x else 0) ∧ (if (k : Int) ∈ r then x else 0) ≤ d.am := by
                      split
                      · rename_i hkr; exact ⟨by omega, hP.amt k hkr d hd⟩
                      · omega
                    have hcl := O5.len
                    have hcm := O5.le
                    have e1 : 0 + ((k : Int)).toNat * 7 + 3 = k * 7 + 3 := by simp
                    refine W_skip (at_then ?_)
                    refine W_seq ?_
                    refine W_block ?_
                    refine W_tseq 12 mixed (by kernel_rfl) (by kernel_rfl) rfl rfl ?_
                    refine q_move rfl (.slice _ _ _) rfl ?_
                    refine q_move rfl (.int _ _) rfl ?_
                    refine q_indexAddr rfl el_22 sz_41 rfl rfl (by omega) (by omega) ?_
                    refine q_fieldAddr rfl fo_41_3 rfl ?_
                    first | refine q_ldb rfl ag_2 rfl (by rintro _ rfl; exact H.drew) (by first | exact at0 | exact at1 | exact at2 | exact at3 | exact at4 | exact at5 | exact at6 | exact at7 | exact at8 | exact at9) rfl ?_ | refine q_ld rfl ag_2 rfl (by rintro _ rfl; exact ((hR.ext0 (Ext.drew _ _)).fld (mix_at hd) rfl (j := 3) rfl)) ?_
                    refine q_move rfl (.slice _ _ _) rfl ?_
                    refine q_move rfl (.int _ _) rfl ?_
                    refine q_indexAddr rfl el_29 sz_2 rfl rfl (by omega) (by omega) ?_
                    refine q_ldr k _ rfl ag_2 rfl (by rintro _ rfl; exact H.drew) at0 (by simp) (by omega) rfl ?_
                    refine q_sub_i64 rfl rfl rfl (by omega) (by omega) ?_
                    refine q_indexAddr rfl el_22 sz_41 rfl rfl (by omega) (by omega) ?_
                    refine q_fieldAddr rfl fo_41_3 rfl ?_
                    refine q_nil ?_
                    replace H := H.drew
                    refine op_stb (.int _ _) rfl sz_2 rfl rfl rfl H at1 (by omega) ?_
                    rintro w H
                    rw [e1] at H
                    replace H : Ctx w1 [] w ([(b15, Bl 2 ((List.range m.length).map fun (q : Nat) => .int .i64 (if (q : Int) ∈ r then x else 0))), (b5, Bl 41 (fl.set (k * 7 + 3) (.int .i64 (d.am - (if (k : Int) ∈ r then x else 0)))))] ++ ent a17 41 full17) := H
                    replace O5 := OS_set O5 (k * 7 + 3) (.int .i64 (d.am - (if (k : Int) ∈ r then x else 0)))
                    rw [flat_set (enc := Due.enc) (s := 7) (fun x _ => rfl) k 3 d (paidD m r x k) _ (mix_at hd) (by decide) (by simp only [paidD, hd, Option.getD_some, subD]; rfl), mix_set] at O5
                    generalize hfl2 : fl.set (k * 7 + 3) (.int .i64 (d.am - (if (k : Int) ∈ r then x else 0))) = fl2 at H O5
                    replace hR : Rd w (some ⟨b5, 0, none⟩) 7 Due.enc (mixL m r x (k + 1)) := OS.rd (t := 41) O5 (fun x hx => by simp only [ent, List.mem_singleton] at hx; subst hx; exact H.get at1) (fun x _ => rfl) (by decide)
                    refine op_nil (at_then ?_)
                    refine W_rseq ?_
                    refine op_move rfl (.slice _ _ _) rfl ?_
                    refine op_move rfl (.int _ _) rfl ?_
                    refine op_indexAddr rfl el_22 sz_41 rfl rfl (by omega) (by omega) ?_
                    refine op_fieldAddr rfl fo_41_3 rfl ?_
                    refine op_ld rfl ag_2 rfl (hR.fld (mix_at' hd) rfl (j := 3) rfl) ?_
                    refine op_gtr rfl rfl rfl ?_
                    refine op_nil (at_then ?_)
                    refine W_cond _ rfl ?_ ?_
                    · intro h7
                      replace h7 := dec_t h7
                      have hst := nextK_step (r := r) (x := x) (get_lt hd)
                      rw [if_pos h7] at hst
                      refine W_region ?_
                      refine op_move rfl (.slice _ _ _) rfl ?_
                      refine op_move rfl (.slice _ _ _) rfl ?_
                      refine op_move rfl (.int _ _) rfl ?_
                      refine op_indexAddr rfl el_22 sz_41 rfl rfl (by omega) (by omega) ?_
                      refine op_ldN (paidD m r x k).enc rfl ag_41 sz_41 rfl rfl (hR.row (mix_at' hd) rfl) ?_
                      refine op_build1 (paidD m r x k).enc (.agg _) rfl el_22 sz_41 zc_41 rfl (by decide) (by decide) rfl rfl rfl H ?_
                      rintro b142 w - H
                      refine op_appendb (L := [_, _]) rfl el_22 el_22 sz_41 by_41 zc_41 rfl (by decide) rfl rfl H O17 rfl (enc_oneD _) (by omega) ?_
                      rintro a17' c17' full17' w H O17'
                      refine op_assign rfl (.slice _ _ _) rfl ?_
                      refine op_nil (at_block (at_then ?_))
                      refine W_region ?_
                      refine op_move rfl (.int _ _) rfl ?_
                      refine op_add_i64 rfl rfl rfl (by omega) (by omega) ?_
                      refine op_assign rfl (.int _ _) rfl ?_
                      refine op_nil (at_then ?_)
                      refine ⟨(k + 1, fl2, a17', c17', full17'), rfl, ⟨rfl, ?_, trivial⟩, ⟨by dsimp only; omega, H, O5, ?_⟩, by dsimp only; omega⟩
                      · dsimp only; rw [hst, List.length_append]; rfl
                      · dsimp only; rw [hst, List.length_append, List.flatMap_append]; simpa using O17'
                    · intro h7
                      replace h7 := dec_f h7
                      have hst := nextK_step (r := r) (x := x) (get_lt hd)
                      rw [if_neg h7, List.append_nil] at hst
                      refine W_skip (at_block (at_then ?_))
                      refine W_region ?_
                      refine op_move rfl (.int _ _) rfl ?_
                      refine op_add_i64 rfl rfl rfl (by omega) (by omega) ?_
                      refine op_assign rfl (.int _ _) rfl ?_
                      refine op_nil (at_then ?_)
                      refine ⟨(k + 1, fl2, a17, c17, full17), rfl, ⟨rfl, ?_, trivial⟩, ⟨by dsimp only; omega, H, O5, ?_⟩, by dsimp only; omega⟩
                      · dsimp only; rw [hst]; rfl
                      · dsimp only; rw [hst]; exact O17
                  · intro h6
                    replace h6 := dec_f h6
                    have hkm : k = m.length := by omega
                    subst hkm
                    have hless := hP.less
                    rw [nextK_end] at O17 ⊢
                    refine W_exit (exit_then (exit_then (exit_here (at_then ?_))))
                    refine W_seq ?_
                    refine W_rseq ?_
                    refine op_move rfl (.slice _ _ _) rfl ?_
                    refine op_len rfl el_22 rfl ?_
                    refine op_move rfl (.slice _ _ _) rfl ?_
                    refine op_len rfl el_22 rfl ?_
                    refine op_geq rfl rfl rfl ?_
                    rw [decide_eq_false (show ¬ (m.length : Int) ≤ ((nextL m r x).length : Int) by omega)]
                    refine op_nil (at_then ?_)
                    refine W_cond0 rfl ?_
                    refine W_skip (at_then ?_)
                    refine W_region ?_
                    refine op_move rfl (.slice _ _ _) rfl ?_
                    refine op_assign rfl (.slice _ _ _) rfl ?_
                    refine op_nil (at_block (at_then ?_))
                    refine W_region ?_
                    refine op_move rfl (.int _ _) rfl ?_
                    refine op_add_i64 rfl rfl rfl (by omega) (by omega) ?_
                    refine op_assign rfl (.int _ _) rfl ?_
                    refine op_nil (at_then ?_)
                    exact ⟨(st + 1, nextL m r x, a17, c17, full17), rfl, ⟨rfl, rfl, trivial⟩, ⟨H.right, O17, hP.all, fun b => (hP.net b).trans (hnet b), Int.le_trans hP.sum hsum, by dsimp only; omega⟩, by dsimp only; omega⟩
        · intro h3
          replace h3 := dec_f h3
          omega

end Go.Proofs.Ytogaoppnoibgdaa
