/- The laws' anchor. -/
import Derived.Test.YtogaoppnoibgdaaCyJ
namespace Go.Proofs.Ytogaoppnoibgdaa
open Go.GV
attribute [local irreducible] Wops W Wq

def l3 : List Due := [⟨1, 1, 2, 5, 1, 0, false⟩, ⟨2, 2, 3, 4, 1, 0, false⟩, ⟨3, 3, 1, 6, 1, 0, false⟩]

theorem ring_nd {l : List Due} {way : List Int} (h : ringB l way = true) : way.Nodup := by
  rw [List.nodup_iff_pairwise_ne, List.pairwise_iff_getElem]
  intro i j hi hj hij he
  have h1 := all_at (ring_parts h).1 hj
  rw [ring1, Bool.and_eq_true, List.all_eq_true] at h1
  have h2 := h1.2 i (List.mem_range.2 hij)
  have : dq l way i = dq l way j := by simp [dq, hi, hj, he]
  rw [this] at h2
  simp at h2

theorem ring_mem {l : List Due} {way : List Int} (h : ringB l way = true) {x : Int} (hx : x ∈ way) : 0 ≤ x ∧ x < l.length := by
  obtain ⟨i, hi, rfl⟩ := List.getElem_of_mem hx
  obtain ⟨y, d, h1, h2, h3, _⟩ := ring_get h hi
  rw [List.getElem?_eq_getElem hi] at h1
  injection h1 with h1
  omega

theorem ring_short {l : List Due} {way : List Int} (h : ringB l way = true) : way.length ≤ l.length := by
  have hm : (way.map Int.toNat).Nodup := by
    rw [List.nodup_iff_pairwise_ne, List.pairwise_map]
    refine List.Pairwise.imp_of_mem ?_ (List.nodup_iff_pairwise_ne.1 (ring_nd h))
    intro a b ha hb hab he
    have := ring_mem h ha; have := ring_mem h hb
    omega
  have := pigeon l.length _ hm (fun x hx => by
    obtain ⟨y, hy, rfl⟩ := List.mem_map.1 hx
    have := ring_mem h hy
    omega)
  simpa using this

def cands : List (List Int) :=
  let a : List Int := [0, 1, 2]
  [[]] ++ a.map (fun x => [x]) ++ (a.flatMap fun x => a.map fun y => [x, y]) ++ (a.flatMap fun x => a.flatMap fun y => a.map fun z => [x, y, z])

theorem mem3 {x : Int} (h0 : 0 ≤ x) (h1 : x < 3) : x ∈ ([0, 1, 2] : List Int) := by
  have : x = 0 ∨ x = 1 ∨ x = 2 := by omega
  rcases this with h | h | h <;> subst h <;> decide

theorem works_least {r : List Int} (h : ringB l3 r = true) : leastD l3 r = 4 := by
  have hc : r ∈ cands := by
    have hl : r.length ≤ 3 := ring_short h
    have hm : ∀ x ∈ r, x ∈ ([0, 1, 2] : List Int) := fun x hx => by
      have := ring_mem h hx
      exact mem3 this.1 this.2
    match r, hl, hm with
    | [], _, _ => decide
    | [x], _, hm => simp only [cands, List.mem_append, List.mem_map]; exact .inl (.inl (.inr ⟨x, hm x (by simp), rfl⟩))
    | [x, y], _, hm => simp only [cands, List.mem_append, List.mem_flatMap, List.mem_map]; exact .inl (.inr ⟨x, hm x (by simp), y, hm y (by simp), rfl⟩)
    | [x, y, z], _, hm => simp only [cands, List.mem_append, List.mem_flatMap, List.mem_map]; exact .inr ⟨x, hm x (by simp), y, hm y (by simp), z, hm z (by simp), rfl⟩
    | _ :: _ :: _ :: _ :: _, hl, _ => simp at hl
  have hall : ∀ r ∈ cands, ringB l3 r = true → leastD l3 r = 4 := by decide
  exact hall r hc h

theorem works_found (D : List Nat) (hT : Topo l3 D) (hD : ∀ q, q < 16 → q ∈ D) : False :=
  Topo.noIn (by decide) (fun b => b = 1 ∨ b = 2 ∨ b = 3) hT (fun b hb => hD b (by omega)) (fun b hb => by
    rcases hb with rfl | rfl | rfl
    · exact ⟨_, List.mem_of_getElem? (i := 2) rfl, rfl, rfl, .inr (.inr rfl)⟩
    · exact ⟨_, List.mem_of_getElem? (i := 0) rfl, rfl, rfl, .inl rfl⟩
    · exact ⟨_, List.mem_of_getElem? (i := 1) rfl, rfl, rfl, .inr (.inl rfl)⟩) 1 (.inl rfl)

theorem works_order : orderD 4 l3 = none := by decide
theorem works_order2 : orderD 4 (l3.take 2) = some [0, 1, 2, 3] := by decide
theorem works_nets : netsE 4 l3 = 0 := by decide

theorem find_made {w w' : World} {v : Value} (h : FindPost l3 w v w') : ∃ s, ∃ r : List Int, ringB l3 r = true ∧ v = .tuple #[s, .bool true] ∧ Fresh w w' 3 1 s (r.map iv) := by
  rcases h with ⟨_, s, r, h1, h2, h3⟩ | ⟨_, _, h⟩
  · exact ⟨s, r, h1, h2, h3⟩
  · obtain ⟨D, hT, hD⟩ := h (by decide)
    exact (works_found D hT hD).elim
theorem order_no {banks : Int} {l : List Due} {w w' : World} {v : Value} (h : OrderPost banks l w v w') (ho : orderD banks l = none) : v = .tuple #[.slice none 0 0, .bool false] ∧ Ext [] w w' := by
  unfold OrderPost at h; rw [ho] at h; exact h
theorem order_is {banks : Int} {l : List Due} {w w' : World} {v : Value} {out : List Nat} (h : OrderPost banks l w v w') (ho : orderD banks l = some out) : ∃ s, v = .tuple #[s, .bool true] ∧ Fresh w w' 3 1 s (out.map fun (x : Nat) => Value.int .i64 (x : Int)) := by
  unfold OrderPost at h; rw [ho] at h; exact h
theorem nets_is {banks : Int} {l : List Due} {w w' : World} {v : Value} (h : NetsPost banks l w v w') (ho : netsE banks l = 0) : ∃ s, v = .tuple #[s, .int .i64 0] ∧ Fresh w w' 2 1 s ((List.range banks.toNat).map fun b => .int .i64 (netB l b)) := by
  rcases h with ⟨h, _⟩ | ⟨_, h⟩
  · exact absurd ho h
  · exact h
theorem OS_wholeN {b n s : Nat} {l : List Value} (h : l.length = n * s) : OS (some ⟨b, 0, none⟩) n n s l l :=
  ⟨(fun p hp => by injection hp with hp; subst hp; rfl), (fun h => by cases h), h, Nat.le_refl _, by rw [← h, List.take_length]⟩
/-- What a call has made reads as its numbers. -/
theorem Fresh.rd {w w' : World} {t : Nat} {s : Value} {xs : List Int} (h : Fresh w w' t 1 s (xs.map iv)) : ∃ a c, s = .slice a xs.length c ∧ Rd w' a 1 I64 xs := by
  obtain ⟨a, n, c, full, rfl, O, hb⟩ := h.ex
  have hn := O.num
  subst hn
  exact ⟨a, c, rfl, O.rd1 (t := t) fun x hx => (hb x hx).1⟩

set_option maxHeartbeats 2000000 in
theorem works_ok (w : World) : Ret Try.prog 6 #[] w fun v w' => v = .bool true ∧ Ext [] w w' := by
  obtain ⟨w0, rfl⟩ : ∃ w0, w0 = w := ⟨_, rfl⟩
  have H := Ctx.start w0 []
  refine ret_of_W (fn := Try.f6) Try.func6 rfl [] rfl (by kernel_rfl) ?_
  refine W_rseq ?_
  refine op_assign rfl (.bool _) rfl ?_
  refine op_nil (at_then ?_)
  refine W_rseq ?_
  refine op_call rfl ca_19 (due_ok 1 1 2 5 _) rfl ?_
  rintro v w ⟨rfl, hx⟩
  replace H := H.call hx
  refine op_call rfl ca_19 (due_ok 2 2 3 4 _) rfl ?_
  rintro v w ⟨rfl, hx⟩
  replace H := H.call hx
  refine op_call rfl ca_19 (due_ok 3 3 1 6 _) rfl ?_
  rintro v w ⟨rfl, hx⟩
  replace H := H.call hx
  refine op_buildL (l3.flatMap Due.enc) rfl el_22 sz_41 zc_41 (by decide) (by decide) (by kernel_rfl) H ?_
  rintro b15 w - H
  have R : Rd w (some ⟨b15, 0, none⟩) 7 Due.enc l3 := (OS_wholeN (s := 7) (n := 3) rfl).rd (t := 41) (fun x hx => by simp only [ent, List.mem_singleton] at hx; subst hx; exact H.get at0) (fun x _ => rfl) (by decide)
  refine op_assign rfl (.slice _ _ _) rfl ?_
  refine op_nil (at_then ?_)
  refine W_rseq ?_
  refine op_move rfl (.slice _ _ _) rfl ?_
  refine op_call rfl ca_15 (find_ok (some ⟨b15, 0, none⟩) 3 l3 _ R (by decide)) rfl ?_
  rintro v w P
  obtain ⟨sr, r, hr, rfl, P2⟩ := find_made P
  replace R := R.ext0 P2.ext
  replace H := H.call P2.ext
  obtain ⟨ar, cr, rfl, Rr⟩ := Fresh.rd P2
  have hrl : r.length ≤ 3 := ring_short hr
  have hlv : leastV l3 r = .tuple #[.int .i64 4, .bool true] := by rw [leastV, hr, works_least hr]; rfl
  refine op_move rfl (.tuple _) rfl ?_
  refine op_extract rfl rfl rfl ?_
  refine op_extract rfl rfl rfl ?_
  refine op_assign rfl (.slice _ _ _) rfl ?_
  refine op_assign rfl (.bool _) rfl ?_
  refine op_nil (at_then ?_)
  refine W_rseq ?_
  refine op_move rfl (.slice _ _ _) rfl ?_
  refine op_move rfl (.slice _ _ _) rfl ?_
  refine op_call rfl ca_9 (least_ok (some ⟨b15, 0, none⟩) ar 3 cr l3 r _ R Rr (by omega)) rfl ?_
  rintro v w ⟨rfl, hx⟩
  rw [hlv]
  replace H := H.call hx
  replace R := R.ext0 hx
  replace Rr := Rr.ext0 hx
  refine op_move rfl (.tuple _) rfl ?_
  refine op_extract rfl rfl rfl ?_
  refine op_extract rfl rfl rfl ?_
  refine op_assign rfl (.int _ _) rfl ?_
  refine op_assign rfl (.bool _) rfl ?_
  refine op_nil (at_then ?_)
  refine W_rseq ?_
  refine op_move rfl (.slice _ _ _) rfl ?_
  refine op_call rfl ca_7 (order_ok 4 (some ⟨b15, 0, none⟩) 3 l3 _ R (by decide)) rfl ?_
  rintro v w P
  obtain ⟨rfl, hx⟩ := order_no P works_order
  replace H := H.call hx
  replace R := R.ext0 hx
  replace Rr := Rr.ext0 hx
  refine op_move rfl (.tuple _) rfl ?_
  refine op_extract rfl rfl rfl ?_
  refine op_extract rfl rfl rfl ?_
  refine op_assign rfl (.slice _ _ _) rfl ?_
  refine op_assign rfl (.bool _) rfl ?_
  refine op_nil (at_then ?_)
  refine W_rseq ?_
  refine op_move rfl (.slice _ _ _) rfl ?_
  refine op_slice_hi rfl el_22 sz_41 rfl rfl (by omega) (by omega) ?_
  refine op_call rfl ca_7 (order_ok 4 (some ⟨b15, 0, none⟩) 3 (l3.take 2) _ (R.take 2) (by decide)) rfl ?_
  rintro v w P
  obtain ⟨so, rfl, P2⟩ := order_is P works_order2
  have hx := P2.ext
  obtain ⟨ao, co, rfl, Ro⟩ := Fresh.rd (xs := [0, 1, 2, 3]) P2
  replace H := H.call hx
  replace R := R.ext0 hx
  replace Rr := Rr.ext0 hx
  refine op_move rfl (.tuple _) rfl ?_
  refine op_extract rfl rfl rfl ?_
  refine op_extract rfl rfl rfl ?_
  refine op_assign rfl (.slice _ _ _) rfl ?_
  refine op_assign rfl (.bool _) rfl ?_
  refine op_nil (at_then ?_)
  refine W_rseq ?_
  refine op_move rfl (.slice _ _ _) rfl ?_
  refine op_call rfl ca_11 (nets_ok 4 (some ⟨b15, 0, none⟩) 3 l3 _ R (by decide)) rfl ?_
  rintro v w P
  obtain ⟨sn, rfl, P2⟩ := nets_is P works_nets
  have hx := P2.ext
  obtain ⟨an, cn, rfl, Rn⟩ := Fresh.rd (xs := [0, 1, 1, -2]) P2
  replace H := H.call hx
  replace R := R.ext0 hx
  replace Rr := Rr.ext0 hx
  replace Ro := Ro.ext0 hx
  refine op_move rfl (.tuple _) rfl ?_
  refine op_extract rfl rfl rfl ?_
  refine op_extract rfl rfl rfl ?_
  refine op_assign rfl (.slice _ _ _) rfl ?_
  refine op_assign rfl (.int _ _) rfl ?_
  refine op_nil (at_then ?_)
  refine W_rseq ?_
  refine op_move rfl (.bool _) rfl ?_
  refine op_move rfl (.bool _) rfl ?_
  refine op_move rfl (.slice _ _ _) rfl ?_
  refine op_move rfl (.slice _ _ _) rfl ?_
  refine op_call rfl ca_17 (ring29_ok (some ⟨b15, 0, none⟩) ar 3 cr l3 r _ R Rr (by decide) (by omega)) rfl ?_
  rintro v w ⟨rfl, hx⟩
  rw [hr]
  replace H := H.call hx
  replace Ro := Ro.ext0 hx
  replace Rn := Rn.ext0 hx
  refine op_pick1 rfl rfl (.bool _) rfl ?_
  refine op_move rfl (.bool _) rfl ?_
  refine op_move rfl (.bool _) rfl ?_
  refine op_pick1 rfl rfl (.bool _) rfl ?_
  refine op_move rfl (.bool _) rfl ?_
  refine op_move rfl (.int _ _) rfl ?_
  refine op_eql rfl rfl rfl ?_
  refine op_pick1 rfl rfl (.bool _) rfl ?_
  refine op_move rfl (.bool _) rfl ?_
  refine op_move rfl (.bool _) rfl ?_
  refine op_not rfl rfl ?_
  refine op_pick1 rfl rfl (.bool _) rfl ?_
  refine op_move rfl (.bool _) rfl ?_
  refine op_move rfl (.bool _) rfl ?_
  refine op_pick1 rfl rfl (.bool _) rfl ?_
  refine op_move rfl (.bool _) rfl ?_
  refine op_move rfl (.slice _ _ _) rfl ?_
  have hx0 := H.ext
  replace H := Ctx.start w []
  refine op_buildL ([0, 1, 2, 3].map iv) rfl el_23 sz_3 zc_3 (by decide) (by decide) (by kernel_rfl) H ?_
  rintro b65 w - H
  replace Ro := Ro.ext0 H.ext
  replace Rn := Rn.ext0 H.ext
  have Rq : Rd w (some ⟨b65, 0, none⟩) 1 I64 [0, 1, 2, 3] := (OS_wholeN (s := 1) (n := 4) rfl).rd1 (t := 3) (fun x hx => by simp only [ent, List.mem_singleton] at hx; subst hx; exact H.get at0)
  refine op_call rfl ca_13 (same_ok ao (some ⟨b65, 0, none⟩) co 4 [0, 1, 2, 3] [0, 1, 2, 3] _ Ro Rq (by decide)) rfl ?_
  rintro v w ⟨rfl, hx⟩
  rw [decide_eq_true rfl]
  replace H := H.call hx
  replace Rn := Rn.ext0 hx
  refine op_pick1 rfl rfl (.bool _) rfl ?_
  refine op_move rfl (.bool _) rfl ?_
  refine op_move rfl (.int _ _) rfl ?_
  refine op_eql rfl rfl rfl ?_
  refine op_pick1 rfl rfl (.bool _) rfl ?_
  refine op_move rfl (.bool _) rfl ?_
  refine op_move rfl (.slice _ _ _) rfl ?_
  replace hx0 := hx0.trans H.ext
  replace H := Ctx.start w []
  refine op_buildL ([0, 1, 1, -2].map iv) rfl el_29 sz_2 zc_2 (by decide) (by decide) (by kernel_rfl) H ?_
  rintro b74 w - H
  replace Rn := Rn.ext0 H.ext
  have Rt : Rd w (some ⟨b74, 0, none⟩) 1 I64 [0, 1, 1, -2] := (OS_wholeN (s := 1) (n := 4) rfl).rd1 (t := 2) (fun x hx => by simp only [ent, List.mem_singleton] at hx; subst hx; exact H.get at0)
  refine op_call rfl ca_14 (amounts_ok an (some ⟨b74, 0, none⟩) cn 4 [0, 1, 1, -2] [0, 1, 1, -2] _ Rn Rt (by decide)) rfl ?_
  rintro v w ⟨rfl, hx⟩
  rw [decide_eq_true rfl]
  replace H := H.call hx
  refine op_pick1 rfl rfl (.bool _) rfl ?_
  refine op_assign rfl (.bool _) rfl ?_
  refine op_nil (at_then ?_)
  refine W_ret (leave1 (v := (.bool _)) rfl rfl rfl ?_)
  exact ⟨rfl, hx0.trans H.ext⟩

end Go.Proofs.Ytogaoppnoibgdaa
