/- What the Nets of cycles and of the reference do. -/
import Derived.Test.YtogaoppnoibgdaaCyD
namespace Go.Proofs.Ytogaoppnoibgdaa
open Go.GV
attribute [local irreducible] Wops W Wq

def sumA : List Due → Int
  | [] => 0
  | d :: l => d.am + sumA l
def addB (b : Nat) (d : Due) : Int := if d.held = false ∧ d.to = (b : Int) then d.am else 0
def subB (b : Nat) (d : Due) : Int := if d.held = false ∧ d.fr = (b : Int) then d.am else 0
def netB : List Due → Nat → Int
  | [], _ => 0
  | d :: l, b => (addB b d - subB b d) + netB l b
def netsE (banks : Int) (l : List Due) : Int :=
  bif !(decide (0 ≤ banks) && (decide (banks ≤ 16) && allD l)) then 1 else bif !belowD banks l then 10 else bif decide (4503599627370496 < sumA l) then 13 else 0

theorem sumA_app (l m : List Due) : sumA (l ++ m) = sumA l + sumA m := by
  induction l with
  | nil => simp [sumA]
  | cons d l ih => simp only [List.cons_append, sumA, ih]; omega
theorem netB_app (l m : List Due) (b : Nat) : netB (l ++ m) b = netB l b + netB m b := by
  induction l with
  | nil => simp [netB]
  | cons d l ih => simp only [List.cons_append, netB, ih]; omega
theorem sumA_pos {l : List Due} (h : ∀ d ∈ l, 1 ≤ d.am) : 0 ≤ sumA l := by
  induction l with
  | nil => exact Int.le_refl _
  | cons d l ih =>
    have h1 := h d (by simp)
    have h2 := ih (fun x hx => h x (by simp [hx]))
    simp only [sumA]; omega
theorem sumA_take {l : List Due} (h : ∀ d ∈ l, 1 ≤ d.am) (k : Nat) : sumA (l.take k) ≤ sumA l := by
  have h1 : sumA (l.take k) + sumA (l.drop k) = sumA l := by rw [← sumA_app, List.take_append_drop]
  have h2 : 0 ≤ sumA (l.drop k) := sumA_pos fun d hd => h d (List.mem_of_mem_drop hd)
  omega
theorem netB_le {l : List Due} (h : ∀ d ∈ l, 1 ≤ d.am) (b : Nat) : -(sumA l) ≤ netB l b ∧ netB l b ≤ sumA l := by
  induction l with
  | nil => exact ⟨by simp [netB, sumA], by simp [netB, sumA]⟩
  | cons d l ih =>
    have h1 := h d (by simp)
    have h2 := ih (fun x hx => h x (by simp [hx]))
    simp only [netB, sumA, addB, subB]
    split <;> split <;> omega
theorem sumA_snoc {l : List Due} {k : Nat} {d : Due} (h : l[k]? = some d) : sumA (l.take (k + 1)) = sumA (l.take k) + d.am := by
  rw [take_snoc h, sumA_app]; simp [sumA]
theorem netB_snoc {l : List Due} {k : Nat} {d : Due} (h : l[k]? = some d) (b : Nat) : netB (l.take (k + 1)) b = netB (l.take k) b + addB b d - subB b d := by
  rw [take_snoc h, netB_app]; simp only [netB]; omega

structure NetsF (n : Nat) (l : List Due) : Prop extends MayF n l where
  sum : ∀ k, 0 ≤ sumA (l.take k)
  net : ∀ (k b : Nat), -(sumA (l.take k)) ≤ netB (l.take k) b ∧ netB (l.take k) b ≤ sumA (l.take k)
  part : ∀ k, sumA (l.take k) ≤ sumA l

theorem nets_facts {n : Nat} {l : List Due} (F : MayF n l) : NetsF n l :=
  have h : ∀ d ∈ l, 1 ≤ d.am := fun d hd => (F.due d hd).2.2.2.2.2.2.1
  have ht : ∀ k, ∀ d ∈ l.take k, 1 ≤ d.am := fun _ d hd => h d (List.mem_of_mem_take hd)
  ⟨F, fun k => sumA_pos (ht k), fun k b => netB_le (ht k) b, fun k => sumA_take h k⟩

def NetsPost (banks : Int) (l : List Due) (w : World) (v : Value) (w' : World) : Prop :=
  (netsE banks l ≠ 0 ∧ v = .tuple #[.slice none 0 0, .int .i64 (netsE banks l)] ∧ Ext [] w w') ∨
  (netsE banks l = 0 ∧ ∃ s, v = .tuple #[s, .int .i64 0] ∧ Fresh w w' 2 1 s ((List.range banks.toNat).map fun b => .int .i64 (netB l b)))

theorem nets_err {banks : Int} {l : List Due} {w w' : World} {v : Value} {e : Int} (h : netsE banks l = e) (h0 : e ≠ 0) (hv : v = .tuple #[.slice none 0 0, .int .i64 e]) (hx : Ext [] w w') : NetsPost banks l w v w' :=
  .inl ⟨by rw [h]; exact h0, by rw [h]; exact hv, hx⟩

theorem nets_may {banks : Int} {l : List Due} : mayD banks l = true → netsE banks l = bif decide (4503599627370496 < sumA l) then 13 else 0 := by
  rw [may_split, netsE]
  cases decide (0 ≤ banks) <;> cases decide (banks ≤ 16) <;> cases allD l <;> cases belowD banks l <;> simp

theorem OS_whole {b n : Nat} {l : List Value} (h : l.length = n) : OS (some ⟨b, 0, none⟩) n n 1 l l :=
  ⟨(fun p hp => by injection hp with hp; subst hp; rfl), (fun h => by cases h), by omega, Nat.le_refl _, by rw [Nat.mul_one, ← h, List.take_length]⟩

set_option maxHeartbeats 2000000 in
theorem nets_ok (banks : Int) (a : Option Addr) (c : Nat) (l : List Due) (w : World) (R : Rd w a 7 Due.enc l) (hm : l.length ≤ 9223372036854775807) :
    Ret Try.prog 11 #[.int .i64 banks, .slice a l.length c] w fun v w' => NetsPost banks l w v w' := by
  obtain ⟨w0, rfl⟩ : ∃ w0, w0 = w := ⟨_, rfl⟩
  have H := Ctx.start w0 []
  refine ret_of_W (fn := Try.f11) Try.func11 rfl [.int .i64 banks, .slice a l.length c] rfl (by kernel_rfl) ?_
  refine W_rseq ?_
  refine op_assign rfl (.slice _ _ _) rfl ?_
  refine op_assign rfl (.int _ _) rfl ?_
  refine op_nil (at_then ?_)
  refine W_seq ?_
  refine W_block ?_
  refine W_seq ?_
  refine W_rseq ?_
  refine op_move rfl (.int _ _) rfl ?_
  refine op_lss rfl rfl rfl ?_
  refine op_assign rfl (.bool _) rfl ?_
  refine op_nil (at_then ?_)
  refine W_csplit 10 rfl ?_ ?_
  · intro h1
    replace h1 := dec_t h1
    refine W_skip (at_then ?_)
    refine W_cond1 rfl ?_
    refine W_rseq ?_
    refine op_assign rfl (.slice _ _ _) rfl ?_
    refine op_assign rfl (.int _ _) rfl ?_
    refine op_nil (at_then ?_)
    refine W_ret (ret_block (ret_then (leave2 (v1 := (.slice _ _ _)) (v2 := (.int _ _)) rfl rfl rfl rfl ?_)))
    exact nets_err (by rw [netsE, decide_eq_false (show ¬ 0 ≤ banks by omega)]; rfl) (by decide) rfl H.ext
  · intro h1
    replace h1 := dec_f h1
    refine W_rseq ?_
    refine op_move rfl (.int _ _) rfl ?_
    refine op_gtr rfl rfl rfl ?_
    refine op_assign rfl (.bool _) rfl ?_
    refine op_nil (at_then ?_)
    refine W_csplit 10 rfl ?_ ?_
    · intro h2
      replace h2 := dec_t h2
      refine W_skip (at_then ?_)
      refine W_cond1 rfl ?_
      refine W_rseq ?_
      refine op_assign rfl (.slice _ _ _) rfl ?_
      refine op_assign rfl (.int _ _) rfl ?_
      refine op_nil (at_then ?_)
      refine W_ret (ret_block (ret_then (leave2 (v1 := (.slice _ _ _)) (v2 := (.int _ _)) rfl rfl rfl rfl ?_)))
      exact nets_err (by rw [netsE, decide_eq_false (show ¬ banks ≤ 16 by omega), Bool.false_and, Bool.and_false]; rfl) (by decide) rfl H.ext
    · intro h2
      replace h2 := dec_f h2
      refine W_region ?_
      refine op_move rfl (.slice _ _ _) rfl ?_
      refine op_call rfl ca_20 (all_ok a c l _ (R.ext0 H.ext) hm) rfl ?_
      rintro v w ⟨rfl, hx⟩; replace H := H.call hx
      refine op_not rfl rfl ?_
      refine op_assign rfl (.bool _) rfl ?_
      refine op_nil (at_then ?_)
      refine W_csplit 10 rfl ?_ ?_
      · intro h3
        replace h3 := nvar_t h3
        refine W_rseq ?_
        refine op_assign rfl (.slice _ _ _) rfl ?_
        refine op_assign rfl (.int _ _) rfl ?_
        refine op_nil (at_then ?_)
        refine W_ret (ret_block (ret_then (leave2 (v1 := (.slice _ _ _)) (v2 := (.int _ _)) rfl rfl rfl rfl ?_)))
        exact nets_err (by rw [netsE, h3, Bool.and_false, Bool.and_false]; rfl) (by decide) rfl H.ext
      · intro h3
        replace h3 := nvar_f h3
        refine W_rseq ?_
        refine op_move rfl (.int _ _) rfl ?_
        refine op_move rfl (.slice _ _ _) rfl ?_
        refine op_call rfl ca_21 (below_ok banks a c l _ (R.ext0 H.ext) hm) rfl ?_
        rintro v w ⟨rfl, hx⟩; replace H := H.call hx
        refine op_not rfl rfl ?_
        refine op_assign rfl (.bool _) rfl ?_
        refine op_nil (at_then ?_)
        refine W_cond _ rfl ?_ ?_
        · intro h4
          replace h4 := nvar_t h4
          refine W_rseq ?_
          refine op_assign rfl (.slice _ _ _) rfl ?_
          refine op_assign rfl (.int _ _) rfl ?_
          refine op_nil (at_then ?_)
          refine W_ret (ret_block (ret_then (leave2 (v1 := (.slice _ _ _)) (v2 := (.int _ _)) rfl rfl rfl rfl ?_)))
          exact nets_err (by rw [netsE, h3, h4, decide_eq_true (show 0 ≤ banks by omega), decide_eq_true (show banks ≤ 16 by omega)]; rfl) (by decide) rfl H.ext
        · intro h4
          replace h4 := nvar_f h4
          have hmay : mayD banks l = true := by rw [may_split, h3, h4, decide_eq_true (show 0 ≤ banks by omega), decide_eq_true (show banks ≤ 16 by omega)]; rfl
          have hE := nets_may hmay
          obtain ⟨nb, rfl, F⟩ := may_facts hmay
          replace F := nets_facts F
          have h16 := F.n16
          have h64 := F.len
          refine W_skip (at_block (at_then ?_))
          refine W_rseq ?_
          refine op_move rfl (.int _ _) rfl ?_
          refine op_make rfl el_29 sz_2 by_2 zc_2 rfl rfl (by omega) (by omega) (by omega) (by omega) H ?_
          rintro b24 w - H
          rw [show ((nb : Int)).toNat = nb from rfl, rep_range] at H
          refine op_assign rfl (.slice _ _ _) rfl ?_
          refine op_nil (at_then ?_)
          refine W_rseq ?_
          refine op_assign rfl (.int _ _) rfl ?_
          refine op_nil (at_then ?_)
          refine W_seq ?_
          refine W_rseq ?_
          refine op_move rfl (.slice _ _ _) rfl ?_
          refine op_len rfl el_22 rfl ?_
          refine op_move rfl (.int _ _) rfl ?_
          refine op_nil (at_then ?_)
          refine W_block ?_
          refine W_loop 2305843009079476912 (α := Nat) (fun k => [(27, .int .i64 k), (7, .int .i64 (4503599627370496 - sumA (l.take k)))]) (fun k w' => k ≤ l.length ∧ sumA (l.take k) ≤ 4503599627370496 ∧ Ctx w0 [] w' [(b24, Bl 2 ((List.range nb).map fun b => .int .i64 (netB (l.take k) b)))]) (fun k => l.length - k) 0 rfl ?_ ?_ ?_
          · exact ⟨rfl, rfl, trivial⟩
          · exact ⟨Nat.zero_le _, by simp [sumA], H⟩
          · rintro k j w ⟨hk, hle, H⟩
            have hs0 := F.sum k
            refine W_rseq ?_
            refine op_lss rfl rfl rfl ?_
            refine op_nil (at_then ?_)
            refine W_seq ?_
            refine W_cond _ rfl ?_ ?_
            · intro h5
              replace h5 := dec_t h5
              obtain ⟨d, hd⟩ := get_some (l := l) (i := k) (by omega)
              obtain ⟨hfine, d1, d2, d3, d4, d5, d6, d7⟩ := F.due d (List.mem_of_getElem? hd)
              have hsn := sumA_snoc hd
              refine W_skip (at_then ?_)
              refine W_seq ?_
              refine W_block ?_
              refine W_rseq ?_
              first | refine op_indexRd R rfl el_22 sz_41 rfl rfl (by omega) (by omega) (by first | rfl | omega) ?_ | refine op_indexAddr rfl el_22 sz_41 rfl rfl (by omega) (by omega) ?_
              refine op_ldN d.enc rfl ag_41 sz_41 rfl rfl ((R.ext0 H.ext).row hd rfl) ?_
              refine op_alloc rfl zc_41 H ?_
              rintro b9 w - H
              refine op_stb0 rfl sz_41 rfl rfl rfl (by simp [oneCell, Due.enc]) H at0 rfl ?_
              rintro w H
              refine op_nil (at_then ?_)
              refine W_seq ?_
              refine W_rseq ?_
              refine op_fieldAddr rfl fo_41_3 rfl ?_
              refine op_ldb rfl ag_2 rfl H (by first | exact at0 | exact at1 | exact at2 | exact at3 | exact at4 | exact at5 | exact at6 | exact at7 | exact at8 | exact at9) rfl ?_
              refine op_move rfl (.int _ _) rfl ?_
              refine op_gtr rfl rfl rfl ?_
              refine op_nil (at_then ?_)
              refine W_cond _ rfl ?_ ?_
              · intro h6
                replace h6 := dec_t h6
                refine W_rseq ?_
                refine op_assign rfl (.slice _ _ _) rfl ?_
                refine op_assign rfl (.int _ _) rfl ?_
                refine op_nil (at_then ?_)
                refine W_ret (ret_then (ret_block (ret_then (ret_then (ret_block (ret_then (leave2 (v1 := (.slice _ _ _)) (v2 := (.int _ _)) rfl rfl rfl rfl ?_)))))))
                have hp := F.part (k + 1)
                exact nets_err (by rw [hE, decide_eq_true (show 4503599627370496 < sumA l by omega)]; rfl) (by decide) rfl H.ext
              · intro h6
                replace h6 := dec_f h6
                obtain ⟨t, ht⟩ : ∃ t : Nat, d.to = t := ⟨d.to.toNat, by omega⟩
                obtain ⟨u, hu⟩ : ∃ u : Nat, d.fr = u := ⟨d.fr.toNat, by omega⟩
                have hnt := F.net k t
                have hnu := F.net k u
                refine W_skip (at_then ?_)
                refine W_rseq ?_
                refine op_move rfl (.int _ _) rfl ?_
                refine op_fieldAddr rfl fo_41_3 rfl ?_
                refine op_ldb rfl ag_2 rfl H (by first | exact at0 | exact at1 | exact at2 | exact at3 | exact at4 | exact at5 | exact at6 | exact at7 | exact at8 | exact at9) rfl ?_
                refine op_sub_i64 rfl rfl rfl (by omega) (by omega) ?_
                refine op_assign rfl (.int _ _) rfl ?_
                refine op_nil (at_then ?_)
                refine W_rseq ?_
                refine op_fieldAddr rfl fo_41_6 rfl ?_
                refine op_ldb rfl ag_4 rfl H (by first | exact at0 | exact at1 | exact at2 | exact at3 | exact at4 | exact at5 | exact at6 | exact at7 | exact at8 | exact at9) rfl ?_
                refine op_not rfl rfl ?_
                refine op_nil (at_then ?_)
                refine W_cond _ rfl ?_ ?_
                · intro h7
                  replace h7 := nvar_t h7
                  have hut : u ≠ t := by omega
                  have a1 : addB t d = d.am := by simp [addB, h7, ht]
                  have a2 : ∀ q, q ≠ t → addB q d = 0 := fun q hq => by rw [addB, if_neg (by omega)]
                  have a3 : subB u d = d.am := by simp [subB, h7, hu]
                  have a4 : ∀ q, q ≠ u → subB q d = 0 := fun q hq => by rw [subB, if_neg (by omega)]
                  have hau := a2 u hut
                  refine W_tseq 9 mixed (by kernel_rfl) (by kernel_rfl) rfl rfl ?_
                  refine q_move rfl (.slice _ _ _) rfl ?_
                  refine q_fieldAddr rfl fo_41_2 rfl ?_
                  refine q_ldb rfl ag_3 rfl (by rintro _ rfl; exact H.drew) (by first | exact at0 | exact at1 | exact at2 | exact at3 | exact at4 | exact at5 | exact at6 | exact at7 | exact at8 | exact at9) rfl ?_
                  refine q_indexAddr rfl el_29 sz_2 rfl rfl (by omega) (by omega) ?_
                  refine q_ldr t _ rfl ag_2 rfl (by rintro _ rfl; exact H.drew) at1 (by rw [ht]; simp) (by omega) rfl ?_
                  refine q_fieldAddr rfl fo_41_3 rfl ?_
                  refine q_ldb rfl ag_2 rfl (by rintro _ rfl; exact H.drew) (by first | exact at0 | exact at1 | exact at2 | exact at3 | exact at4 | exact at5 | exact at6 | exact at7 | exact at8 | exact at9) rfl ?_
                  refine q_add_i64 rfl rfl rfl (by omega) (by omega) ?_
                  refine q_indexAddr rfl el_29 sz_2 rfl rfl (by omega) (by omega) ?_
                  refine q_nil ?_
                  replace H := H.drew
                  refine op_str t (fun q => .int .i64 (netB (l.take k) q + addB q d)) (.int _ _) rfl sz_2 rfl rfl rfl H at1 (by rw [ht]; simp) (by omega) (by rw [a1]) (fun q hq hne => by rw [a2 q hne]; simp) ?_
                  rintro w H
                  refine op_nil (at_then ?_)
                  refine W_tail 9 mixed (by kernel_rfl) (by kernel_rfl) rfl rfl ?_
                  refine q_move rfl (.slice _ _ _) rfl ?_
                  refine q_fieldAddr rfl fo_41_1 rfl ?_
                  refine q_ldb rfl ag_3 rfl (by rintro _ rfl; exact H.drew) (by first | exact at0 | exact at1 | exact at2 | exact at3 | exact at4 | exact at5 | exact at6 | exact at7 | exact at8 | exact at9) rfl ?_
                  refine q_indexAddr rfl el_29 sz_2 rfl rfl (by omega) (by omega) ?_
                  refine q_ldr u _ rfl ag_2 rfl (by rintro _ rfl; exact H.drew) at1 (by rw [hu]; simp) (by omega) rfl ?_
                  refine q_fieldAddr rfl fo_41_3 rfl ?_
                  refine q_ldb rfl ag_2 rfl (by rintro _ rfl; exact H.drew) (by first | exact at0 | exact at1 | exact at2 | exact at3 | exact at4 | exact at5 | exact at6 | exact at7 | exact at8 | exact at9) rfl ?_
                  refine q_sub_i64 rfl rfl rfl (by omega) (by omega) ?_
                  refine q_indexAddr rfl el_29 sz_2 rfl rfl (by omega) (by omega) ?_
                  refine q_nil ?_
                  replace H := H.drew
                  refine op_str u (fun q => .int .i64 (netB (l.take (k + 1)) q)) (.int _ _) rfl sz_2 rfl rfl rfl H at1 (by rw [hu]; simp) (by omega) (by rw [netB_snoc hd, a3]) (fun q hq hne => by rw [netB_snoc hd, a4 q hne]; simp) ?_
                  rintro w H
                  refine op_nil (at_block (at_then ?_))
                  refine W_region ?_
                  refine op_add_i64 rfl rfl rfl (by omega) (by omega) ?_
                  refine op_move rfl (.int _ _) rfl ?_
                  refine op_nil (at_then ?_)
                  refine ⟨k + 1, rfl, ⟨rfl, ?_, trivial⟩, ⟨by omega, by omega, H.tail⟩, by omega⟩
                  refine congrArg (Value.int .i64) ?_
                  rw [hsn]; omega
                · intro h7
                  replace h7 := nvar_f h7
                  refine W_skip (at_block (at_then ?_))
                  refine W_region ?_
                  refine op_add_i64 rfl rfl rfl (by omega) (by omega) ?_
                  refine op_move rfl (.int _ _) rfl ?_
                  refine op_nil (at_then ?_)
                  refine ⟨k + 1, rfl, ⟨rfl, ?_, trivial⟩, ⟨by omega, by omega, ?_⟩, by omega⟩
                  · refine congrArg (Value.int .i64) ?_
                    rw [hsn]; omega
                  · rw [show (fun b : Nat => Value.int .i64 (netB (l.take (k + 1)) b)) = fun b => .int .i64 (netB (l.take k) b) from by funext b; rw [netB_snoc hd]; simp [addB, subB, h7]]
                    exact H.tail
            · intro h5
              replace h5 := dec_f h5
              have hke : k = l.length := by omega
              subst hke
              rw [List.take_length] at H hle
              refine W_exit (exit_then (exit_then (exit_here (at_then ?_))))
              refine W_rseq ?_
              refine op_move rfl (.slice _ _ _) rfl ?_
              refine op_assign rfl (.slice _ _ _) rfl ?_
              refine op_assign rfl (.int _ _) rfl ?_
              refine op_nil (at_then ?_)
              refine W_ret (leave2 (v1 := (.slice _ _ _)) (v2 := (.int _ _)) rfl rfl rfl rfl ?_)
              refine .inr ⟨by rw [hE, decide_eq_false (show ¬ 4503599627370496 < sumA l by omega)]; rfl, _, rfl, ?_⟩
              exact H.fresh (L := []) (a := some ⟨b24, 0, none⟩) (OS_whole (by simp))

set_option maxHeartbeats 2000000 in
theorem nets29_ok (banks : Int) (a : Option Addr) (c : Nat) (l : List Due) (w : World) (R : Rd w a 7 Due.enc l) (hm : l.length ≤ 9223372036854775807) :
    Ret Try.prog 12 #[.int .i64 banks, .slice a l.length c] w fun v w' => NetsPost banks l w v w' := by
  obtain ⟨w0, rfl⟩ : ∃ w0, w0 = w := ⟨_, rfl⟩
  have H := Ctx.start w0 []
  refine ret_of_W (fn := Try.f12) Try.func12 rfl [.int .i64 banks, .slice a l.length c] rfl (by kernel_rfl) ?_
  refine W_rseq ?_
  refine op_assign rfl (.slice _ _ _) rfl ?_
  refine op_assign rfl (.int _ _) rfl ?_
  refine op_nil (at_then ?_)
  refine W_seq ?_
  refine W_rseq (Wops_join (α := Unit) 2096128 (fun _ => [(20, .bool (!(decide (0 ≤ banks) && (decide (banks ≤ 16) && decide (l.length ≤ 64)))))]) (fun _ w' => Ctx w0 [] w' []) rfl ?_ ?_)
  · refine op_move rfl (.int _ _) rfl ?_
    refine op_lss rfl rfl rfl ?_
    refine op_move rfl (.bool _) rfl ?_
    refine Wops_split 12 rfl ?_ ?_
    · intro h1
      replace h1 := dec_t h1
      refine op_skip rfl ?_
      refine op_skip rfl ?_
      refine op_pick1 rfl rfl (.bool _) rfl ?_
      refine op_move rfl (.bool _) rfl ?_
      refine op_skip rfl ?_
      refine op_skip rfl ?_
      refine op_skip rfl ?_
      refine op_pick1 rfl rfl (.bool _) rfl ?_
      refine op_nil ?_
      exact ⟨rfl, (), rfl, ⟨congrArg Value.bool (by rw [Bool.eq_iff_iff]; simp; try omega), trivial⟩, H⟩
    · intro h2
      replace h2 := dec_f h2
      refine op_move rfl (.int _ _) rfl ?_
      refine op_gtr rfl rfl rfl ?_
      refine op_pick0 rfl rfl (.bool _) rfl ?_
      refine op_move rfl (.bool _) rfl ?_
      refine Wops_split 16 rfl ?_ ?_
      · intro h3
        replace h3 := dec_t h3
        refine op_skip rfl ?_
        refine op_skip rfl ?_
        refine op_skip rfl ?_
        refine op_pick1 rfl rfl (.bool _) rfl ?_
        refine op_nil ?_
        exact ⟨rfl, (), rfl, ⟨congrArg Value.bool (by rw [Bool.eq_iff_iff]; simp; try omega), trivial⟩, H⟩
      · intro h4
        replace h4 := dec_f h4
        refine op_move rfl (.slice _ _ _) rfl ?_
        refine op_len rfl el_22 rfl ?_
        refine op_gtr rfl rfl rfl ?_
        refine op_pick0 rfl rfl (.bool _) rfl ?_
        refine op_nil ?_
        exact ⟨rfl, (), rfl, ⟨congrArg Value.bool (by rw [Bool.eq_iff_iff]; simp; try omega), trivial⟩, H⟩
  rintro - j20 w H
  refine W_cond _ rfl ?_ ?_
  · intro h1
    replace h1 := nvar_t h1
    refine W_rseq ?_
    refine op_assign rfl (.slice _ _ _) rfl ?_
    refine op_assign rfl (.int _ _) rfl ?_
    refine op_nil (at_then ?_)
    refine W_ret (ret_then (leave2 (v1 := (.slice _ _ _)) (v2 := (.int _ _)) rfl rfl rfl rfl ?_))
    refine nets_err (e := 1) ?_ (by decide) rfl H.ext
    rw [netsE, show (decide (0 ≤ banks) && (decide (banks ≤ 16) && allD l)) = false from ?_]
    · rfl
    · rw [allD, ← Bool.and_assoc, ← Bool.and_assoc, Bool.and_assoc (decide (0 ≤ banks)), h1]; rfl
  · intro h1
    replace h1 := nvar_f h1
    refine W_skip (at_then ?_)
    refine W_seq ?_
    refine W_rseq ?_
    refine op_assign rfl (.int _ _) rfl ?_
    refine op_nil (at_then ?_)
    refine W_block ?_
    refine W_loop 8587837552 (α := Nat) (fun k => [(6, .int .i64 k)]) (fun k w' => k ≤ l.length ∧ Ctx w0 [] w' [] ∧ (l.take k).all Due.fine = true) (fun k => l.length - k) 0 rfl ?_ ?_ ?_
    · exact ⟨rfl, trivial⟩
    · exact ⟨Nat.zero_le _, H, rfl⟩
    · rintro k j w ⟨hk, H, hall⟩
      refine W_seq ?_
      refine W_rseq ?_
      refine op_move rfl (.int _ _) rfl ?_
      refine op_move rfl (.slice _ _ _) rfl ?_
      refine op_len rfl el_22 rfl ?_
      refine op_lss rfl rfl rfl ?_
      refine op_nil (at_then ?_)
      refine W_cond _ rfl ?_ ?_
      · intro h2
        replace h2 := dec_t h2
        obtain ⟨d, hd⟩ := get_some (l := l) (i := k) (by omega)
        refine W_skip (at_then ?_)
        refine W_seq ?_
        refine W_block ?_
        refine W_rseq ?_
        refine op_move rfl (.slice _ _ _) rfl ?_
        refine op_move rfl (.int _ _) rfl ?_
        first | refine op_indexRd R rfl el_22 sz_41 rfl rfl (by omega) (by omega) (by first | rfl | omega) ?_ | refine op_indexAddr rfl el_22 sz_41 rfl rfl (by omega) (by omega) ?_
        refine op_ldN d.enc rfl ag_41 sz_41 rfl rfl ((R.ext0 H.ext).row hd rfl) ?_
        refine op_call rfl ca_23 (may18_ok d _) rfl ?_
        rintro v w ⟨rfl, hx⟩; replace H := H.call hx
        refine op_not rfl rfl ?_
        refine op_nil (at_then ?_)
        refine W_cond _ rfl ?_ ?_
        · intro h3
          replace h3 := nvar_t h3
          refine W_rseq ?_
          refine op_assign rfl (.slice _ _ _) rfl ?_
          refine op_assign rfl (.int _ _) rfl ?_
          refine op_nil (at_then ?_)
          refine W_ret (ret_block (ret_then (ret_then (ret_block (ret_then (leave2 (v1 := (.slice _ _ _)) (v2 := (.int _ _)) rfl rfl rfl rfl ?_))))))
          refine nets_err (e := 1) ?_ (by decide) rfl H.ext
          rw [netsE, show allD l = false from ?_]
          · rw [Bool.and_false, Bool.and_false]; rfl
          · rw [allD, show l.all Due.fine = false from ?_, Bool.and_false]
            rw [List.all_eq_false]
            exact ⟨d, List.mem_of_getElem? hd, by simp [h3]⟩
        · intro h3
          replace h3 := nvar_f h3
          refine W_skip (at_block (at_then ?_))
          refine W_region ?_
          refine op_move rfl (.int _ _) rfl ?_
          refine op_add_i64 rfl rfl rfl (by omega) (by omega) ?_
          refine op_assign rfl (.int _ _) rfl ?_
          refine op_nil (at_then ?_)
          refine ⟨k + 1, rfl, ⟨rfl, trivial⟩, ⟨by omega, H, ?_⟩, by omega⟩
          rw [take_snoc hd, List.all_append, hall]
          simp [h3]
      · intro h2
        replace h2 := dec_f h2
        have hke : k = l.length := by omega
        subst hke
        rw [List.take_length] at hall
        have hA : (decide (0 ≤ banks) && (decide (banks ≤ 16) && allD l)) = true := by
          rw [allD, hall, Bool.and_true]; exact h1
        refine W_exit (exit_then (exit_then (exit_here (at_then ?_))))
        refine W_seq ?_
        refine W_rseq ?_
        refine op_move rfl (.int _ _) rfl ?_
        refine op_move rfl (.slice _ _ _) rfl ?_
        refine op_call rfl ca_16 (may29_ok banks a c l _ (R.ext0 H.ext) hm) rfl ?_
        rintro v w ⟨rfl, hx⟩; replace H := H.call hx
        refine op_not rfl rfl ?_
        refine op_nil (at_then ?_)
        refine W_cond _ rfl ?_ ?_
        · intro h4
          replace h4 := nvar_t h4
          refine W_rseq ?_
          refine op_assign rfl (.slice _ _ _) rfl ?_
          refine op_assign rfl (.int _ _) rfl ?_
          refine op_nil (at_then ?_)
          refine W_ret (ret_then (leave2 (v1 := (.slice _ _ _)) (v2 := (.int _ _)) rfl rfl rfl rfl ?_))
          refine nets_err (e := 10) ?_ (by decide) rfl H.ext
          rw [may_split, ← Bool.and_assoc, ← Bool.and_assoc, Bool.and_assoc (decide (0 ≤ banks)), hA, Bool.true_and] at h4
          rw [netsE, hA, h4]; rfl
        · intro h4
          replace h4 := nvar_f h4
          have hE := nets_may h4
          obtain ⟨nb, rfl, F⟩ := may_facts h4
          replace F := nets_facts F
          have h16 := F.n16
          have h64 := F.len
          refine W_skip (at_then ?_)
          refine W_rseq ?_
          refine op_assign rfl (.int _ _) rfl ?_
          refine op_nil (at_then ?_)
          refine W_rseq ?_
          refine op_move rfl (.int _ _) rfl ?_
          refine op_make rfl el_29 sz_2 by_2 zc_2 rfl rfl (by omega) (by omega) (by omega) (by omega) H ?_
          rintro b38 w - H
          rw [show ((nb : Int)).toNat = nb from rfl, rep_range] at H
          refine op_assign rfl (.slice _ _ _) rfl ?_
          refine op_nil (at_then ?_)
          refine W_seq ?_
          refine W_rseq ?_
          refine op_assign rfl (.int _ _) rfl ?_
          refine op_nil (at_then ?_)
          refine W_block ?_
          refine W_loop 1237940039285379725143311024 (α := Nat) (fun k => [(9, .int .i64 k), (7, .int .i64 (sumA (l.take k)))]) (fun k w' => k ≤ l.length ∧ sumA (l.take k) ≤ 4503599627370496 ∧ Ctx w0 [] w' [(b38, Bl 2 ((List.range nb).map fun b => .int .i64 (netB (l.take k) b)))]) (fun k => l.length - k) 0 rfl ?_ ?_ ?_
          · exact ⟨rfl, rfl, trivial⟩
          · exact ⟨Nat.zero_le _, by simp [sumA], H⟩
          · rintro k j w ⟨hk, hle, H⟩
            have hs0 := F.sum k
            refine W_seq ?_
            refine W_rseq ?_
            refine op_move rfl (.int _ _) rfl ?_
            refine op_move rfl (.slice _ _ _) rfl ?_
            refine op_len rfl el_22 rfl ?_
            refine op_lss rfl rfl rfl ?_
            refine op_nil (at_then ?_)
            refine W_cond _ rfl ?_ ?_
            · intro h5
              replace h5 := dec_t h5
              obtain ⟨d, hd⟩ := get_some (l := l) (i := k) (by omega)
              obtain ⟨hfine, d1, d2, d3, d4, d5, d6, d7⟩ := F.due d (List.mem_of_getElem? hd)
              have hsn := sumA_snoc hd
              refine W_skip (at_then ?_)
              refine W_seq ?_
              refine W_block ?_
              refine W_rseq ?_
              refine op_move rfl (.int _ _) rfl ?_
              refine op_move rfl (.slice _ _ _) rfl ?_
              refine op_move rfl (.int _ _) rfl ?_
              first | refine op_indexRd R rfl el_22 sz_41 rfl rfl (by omega) (by omega) (by first | rfl | omega) ?_ | refine op_indexAddr rfl el_22 sz_41 rfl rfl (by omega) (by omega) ?_
              refine op_fieldAddr rfl fo_41_3 rfl ?_
              first | refine op_ldb rfl ag_2 rfl H (by first | exact at0 | exact at1 | exact at2 | exact at3 | exact at4 | exact at5 | exact at6 | exact at7 | exact at8 | exact at9) rfl ?_ | refine op_ld rfl ag_2 rfl ((R.ext0 H.ext).fld hd rfl (j := 3) rfl) ?_ | refine op_ld rfl ag_2 rfl ((R.ext0 H.ext).fld hd rfl (j := 6) rfl) ?_ | refine op_ld rfl ag_2 rfl ((R.ext0 H.ext).fld hd rfl (j := 2) rfl) ?_ | refine op_ld rfl ag_2 rfl ((R.ext0 H.ext).fld hd rfl (j := 1) rfl) ?_
              refine op_add_i64 rfl rfl rfl (by omega) (by omega) ?_
              refine op_assign rfl (.int _ _) rfl ?_
              refine op_nil (at_then ?_)
              refine W_seq ?_
              refine W_rseq ?_
              refine op_move rfl (.int _ _) rfl ?_
              refine op_gtr rfl rfl rfl ?_
              refine op_nil (at_then ?_)
              refine W_cond _ rfl ?_ ?_
              · intro h6
                replace h6 := dec_t h6
                refine W_rseq ?_
                refine op_assign rfl (.slice _ _ _) rfl ?_
                refine op_assign rfl (.int _ _) rfl ?_
                refine op_nil (at_then ?_)
                refine W_ret (ret_then (ret_block (ret_then (ret_then (ret_block (ret_then (leave2 (v1 := (.slice _ _ _)) (v2 := (.int _ _)) rfl rfl rfl rfl ?_)))))))
                have hp := F.part (k + 1)
                exact nets_err (by rw [hE, decide_eq_true (show 4503599627370496 < sumA l by omega)]; rfl) (by decide) rfl H.ext
              · intro h6
                replace h6 := dec_f h6
                obtain ⟨t, ht⟩ : ∃ t : Nat, d.to = t := ⟨d.to.toNat, by omega⟩
                obtain ⟨u, hu⟩ : ∃ u : Nat, d.fr = u := ⟨d.fr.toNat, by omega⟩
                have hnt := F.net k t
                have hnu := F.net k u
                refine W_skip (at_then ?_)
                refine W_rseq ?_
                refine op_move rfl (.slice _ _ _) rfl ?_
                refine op_move rfl (.int _ _) rfl ?_
                first | refine op_indexRd R rfl el_22 sz_41 rfl rfl (by omega) (by omega) (by first | rfl | omega) ?_ | refine op_indexAddr rfl el_22 sz_41 rfl rfl (by omega) (by omega) ?_
                refine op_fieldAddr rfl fo_41_6 rfl ?_
                first | refine op_ldb rfl ag_4 rfl H (by first | exact at0 | exact at1 | exact at2 | exact at3 | exact at4 | exact at5 | exact at6 | exact at7 | exact at8 | exact at9) rfl ?_ | refine op_ld rfl ag_4 rfl ((R.ext0 H.ext).fld hd rfl (j := 3) rfl) ?_ | refine op_ld rfl ag_4 rfl ((R.ext0 H.ext).fld hd rfl (j := 6) rfl) ?_ | refine op_ld rfl ag_4 rfl ((R.ext0 H.ext).fld hd rfl (j := 2) rfl) ?_ | refine op_ld rfl ag_4 rfl ((R.ext0 H.ext).fld hd rfl (j := 1) rfl) ?_
                refine op_not rfl rfl ?_
                refine op_nil (at_then ?_)
                refine W_cond _ rfl ?_ ?_
                · intro h7
                  replace h7 := nvar_t h7
                  have hut : u ≠ t := by omega
                  have a1 : addB t d = d.am := by simp [addB, h7, ht]
                  have a2 : ∀ q, q ≠ t → addB q d = 0 := fun q hq => by rw [addB, if_neg (by omega)]
                  have a3 : subB u d = d.am := by simp [subB, h7, hu]
                  have a4 : ∀ q, q ≠ u → subB q d = 0 := fun q hq => by rw [subB, if_neg (by omega)]
                  have hau := a2 u hut
                  refine W_tseq 15 mixed (by kernel_rfl) (by kernel_rfl) rfl rfl ?_
                  refine q_move rfl (.slice _ _ _) rfl ?_
                  refine q_move rfl (.slice _ _ _) rfl ?_
                  refine q_move rfl (.int _ _) rfl ?_
                  first | refine q_indexRd R rfl el_22 sz_41 rfl rfl (by omega) (by omega) (by first | rfl | omega) ?_ | refine q_indexAddr rfl el_22 sz_41 rfl rfl (by omega) (by omega) ?_
                  refine q_fieldAddr rfl fo_41_2 rfl ?_
                  first | refine q_ldb rfl ag_3 rfl (by rintro _ rfl; exact H.drew) (by first | exact at0 | exact at1 | exact at2 | exact at3 | exact at4 | exact at5 | exact at6 | exact at7 | exact at8 | exact at9) rfl ?_ | refine q_ld rfl ag_3 rfl (by rintro _ rfl; exact ((R.ext0 H.ext).fld hd rfl (j := 3) rfl)) ?_ | refine q_ld rfl ag_3 rfl (by rintro _ rfl; exact ((R.ext0 H.ext).fld hd rfl (j := 6) rfl)) ?_ | refine q_ld rfl ag_3 rfl (by rintro _ rfl; exact ((R.ext0 H.ext).fld hd rfl (j := 2) rfl)) ?_ | refine q_ld rfl ag_3 rfl (by rintro _ rfl; exact ((R.ext0 H.ext).fld hd rfl (j := 1) rfl)) ?_
                  refine q_indexAddr rfl el_29 sz_2 rfl rfl (by omega) (by omega) ?_
                  refine q_ldr t _ rfl ag_2 rfl (by rintro _ rfl; exact H.drew) at0 (by rw [ht]; simp) (by omega) rfl ?_
                  refine q_move rfl (.slice _ _ _) rfl ?_
                  refine q_move rfl (.int _ _) rfl ?_
                  first | refine q_indexRd R rfl el_22 sz_41 rfl rfl (by omega) (by omega) (by first | rfl | omega) ?_ | refine q_indexAddr rfl el_22 sz_41 rfl rfl (by omega) (by omega) ?_
                  refine q_fieldAddr rfl fo_41_3 rfl ?_
                  first | refine q_ldb rfl ag_2 rfl (by rintro _ rfl; exact H.drew) (by first | exact at0 | exact at1 | exact at2 | exact at3 | exact at4 | exact at5 | exact at6 | exact at7 | exact at8 | exact at9) rfl ?_ | refine q_ld rfl ag_2 rfl (by rintro _ rfl; exact ((R.ext0 H.ext).fld hd rfl (j := 3) rfl)) ?_ | refine q_ld rfl ag_2 rfl (by rintro _ rfl; exact ((R.ext0 H.ext).fld hd rfl (j := 6) rfl)) ?_ | refine q_ld rfl ag_2 rfl (by rintro _ rfl; exact ((R.ext0 H.ext).fld hd rfl (j := 2) rfl)) ?_ | refine q_ld rfl ag_2 rfl (by rintro _ rfl; exact ((R.ext0 H.ext).fld hd rfl (j := 1) rfl)) ?_
                  refine q_add_i64 rfl rfl rfl (by omega) (by omega) ?_
                  refine q_indexAddr rfl el_29 sz_2 rfl rfl (by omega) (by omega) ?_
                  refine q_nil ?_
                  replace H := H.drew
                  refine op_str t (fun q => .int .i64 (netB (l.take k) q + addB q d)) (.int _ _) rfl sz_2 rfl rfl rfl H at0 (by rw [ht]; simp) (by omega) (by rw [a1]) (fun q hq hne => by rw [a2 q hne]; simp) ?_
                  rintro w H
                  refine op_nil (at_then ?_)
                  refine W_tail 15 mixed (by kernel_rfl) (by kernel_rfl) rfl rfl ?_
                  refine q_move rfl (.slice _ _ _) rfl ?_
                  refine q_move rfl (.slice _ _ _) rfl ?_
                  refine q_move rfl (.int _ _) rfl ?_
                  first | refine q_indexRd R rfl el_22 sz_41 rfl rfl (by omega) (by omega) (by first | rfl | omega) ?_ | refine q_indexAddr rfl el_22 sz_41 rfl rfl (by omega) (by omega) ?_
                  refine q_fieldAddr rfl fo_41_1 rfl ?_
                  first | refine q_ldb rfl ag_3 rfl (by rintro _ rfl; exact H.drew) (by first | exact at0 | exact at1 | exact at2 | exact at3 | exact at4 | exact at5 | exact at6 | exact at7 | exact at8 | exact at9) rfl ?_ | refine q_ld rfl ag_3 rfl (by rintro _ rfl; exact ((R.ext0 H.ext).fld hd rfl (j := 3) rfl)) ?_ | refine q_ld rfl ag_3 rfl (by rintro _ rfl; exact ((R.ext0 H.ext).fld hd rfl (j := 6) rfl)) ?_ | refine q_ld rfl ag_3 rfl (by rintro _ rfl; exact ((R.ext0 H.ext).fld hd rfl (j := 2) rfl)) ?_ | refine q_ld rfl ag_3 rfl (by rintro _ rfl; exact ((R.ext0 H.ext).fld hd rfl (j := 1) rfl)) ?_
                  refine q_indexAddr rfl el_29 sz_2 rfl rfl (by omega) (by omega) ?_
                  refine q_ldr u _ rfl ag_2 rfl (by rintro _ rfl; exact H.drew) at0 (by rw [hu]; simp) (by omega) rfl ?_
                  refine q_move rfl (.slice _ _ _) rfl ?_
                  refine q_move rfl (.int _ _) rfl ?_
                  first | refine q_indexRd R rfl el_22 sz_41 rfl rfl (by omega) (by omega) (by first | rfl | omega) ?_ | refine q_indexAddr rfl el_22 sz_41 rfl rfl (by omega) (by omega) ?_
                  refine q_fieldAddr rfl fo_41_3 rfl ?_
                  first | refine q_ldb rfl ag_2 rfl (by rintro _ rfl; exact H.drew) (by first | exact at0 | exact at1 | exact at2 | exact at3 | exact at4 | exact at5 | exact at6 | exact at7 | exact at8 | exact at9) rfl ?_ | refine q_ld rfl ag_2 rfl (by rintro _ rfl; exact ((R.ext0 H.ext).fld hd rfl (j := 3) rfl)) ?_ | refine q_ld rfl ag_2 rfl (by rintro _ rfl; exact ((R.ext0 H.ext).fld hd rfl (j := 6) rfl)) ?_ | refine q_ld rfl ag_2 rfl (by rintro _ rfl; exact ((R.ext0 H.ext).fld hd rfl (j := 2) rfl)) ?_ | refine q_ld rfl ag_2 rfl (by rintro _ rfl; exact ((R.ext0 H.ext).fld hd rfl (j := 1) rfl)) ?_
                  refine q_sub_i64 rfl rfl rfl (by omega) (by omega) ?_
                  refine q_indexAddr rfl el_29 sz_2 rfl rfl (by omega) (by omega) ?_
                  refine q_nil ?_
                  replace H := H.drew
                  refine op_str u (fun q => .int .i64 (netB (l.take (k + 1)) q)) (.int _ _) rfl sz_2 rfl rfl rfl H at0 (by rw [hu]; simp) (by omega) (by rw [netB_snoc hd, a3]) (fun q hq hne => by rw [netB_snoc hd, a4 q hne]; simp) ?_
                  rintro w H
                  refine op_nil (at_block (at_then ?_))
                  refine W_region ?_
                  refine op_move rfl (.int _ _) rfl ?_
                  refine op_add_i64 rfl rfl rfl (by omega) (by omega) ?_
                  refine op_assign rfl (.int _ _) rfl ?_
                  refine op_nil (at_then ?_)
                  refine ⟨k + 1, rfl, ⟨rfl, ?_, trivial⟩, ⟨by omega, by omega, H⟩, by omega⟩
                  refine congrArg (Value.int .i64) ?_
                  rw [hsn]
                · intro h7
                  replace h7 := nvar_f h7
                  refine W_skip (at_block (at_then ?_))
                  refine W_region ?_
                  refine op_move rfl (.int _ _) rfl ?_
                  refine op_add_i64 rfl rfl rfl (by omega) (by omega) ?_
                  refine op_assign rfl (.int _ _) rfl ?_
                  refine op_nil (at_then ?_)
                  refine ⟨k + 1, rfl, ⟨rfl, ?_, trivial⟩, ⟨by omega, by omega, ?_⟩, by omega⟩
                  · refine congrArg (Value.int .i64) ?_
                    rw [hsn]
                  · rw [show (fun b : Nat => Value.int .i64 (netB (l.take (k + 1)) b)) = fun b => .int .i64 (netB (l.take k) b) from by funext b; rw [netB_snoc hd]; simp [addB, subB, h7]]
                    exact H
            · intro h5
              replace h5 := dec_f h5
              have hke : k = l.length := by omega
              subst hke
              rw [List.take_length] at H hle
              refine W_exit (exit_then (exit_then (exit_here (at_then ?_))))
              refine W_rseq ?_
              refine op_move rfl (.slice _ _ _) rfl ?_
              refine op_assign rfl (.slice _ _ _) rfl ?_
              refine op_assign rfl (.int _ _) rfl ?_
              refine op_nil (at_then ?_)
              refine W_ret (leave2 (v1 := (.slice _ _ _)) (v2 := (.int _ _)) rfl rfl rfl rfl ?_)
              refine .inr ⟨by rw [hE, decide_eq_false (show ¬ 4503599627370496 < sumA l by omega)]; rfl, _, rfl, ?_⟩
              exact H.fresh (L := []) (a := some ⟨b38, 0, none⟩) (OS_whole (by simp))

end Go.Proofs.Ytogaoppnoibgdaa
