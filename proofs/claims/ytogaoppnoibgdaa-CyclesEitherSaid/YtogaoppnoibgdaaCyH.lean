/- What the search of cycles.Find does. -/
import Derived.Test.YtogaoppnoibgdaaCyG
namespace Go.Proofs.Ytogaoppnoibgdaa
open Go.GV
attribute [local irreducible] Wops W Wq

def fvF (bl bd bw bf : Nat) : Value := .func (.func 24) #[] #[.pointer (some ⟨bl, 0, none⟩), .pointer (some ⟨bd, 0, none⟩), .pointer (some ⟨bw, 0, none⟩), .pointer (some ⟨bf, 0, none⟩)]
abbrev iv (x : Int) : Value := .int .i64 x
abbrev FB (a : Option Addr) (c : Nat) (l : List Due) (bl bd bw bf : Nat) (D : List Nat) (aw : Option Addr) (cw : Nat) (way : List Int) (full : List Value) : List (Nat × Obj) :=
  (bl, Bl 22 [.slice a l.length c]) :: (bd, Bl 47 ((List.range 16).map fun b => .bool (D.contains b))) :: (bw, Bl 23 [.slice aw way.length cw]) :: (bf, Bl 48 [fvF bl bd bw bf]) :: ent aw 3 full

structure FromPost (a : Option Addr) (c : Nat) (l : List Due) (bl bd bw bf : Nat) (S : List Nat) (w : World) (D : List Nat) (way : List Int) (bank : Nat) (w' : World) (D' : List Nat) (way' : List Int) (aw : Option Addr) (cw : Nat) (full : List Value)
    (av : Option Addr) (nv cv : Nat) (fv : List Value) : Prop where
  os : OS aw way'.length cw 1 full (way'.map iv)
  topo : Topo l D'
  sub : ∀ b, b ∈ D → b ∈ D'
  ctx : Ctx w S w' (FB a c l bl bd bw bf D' aw cw way' full ++ ent av 3 fv)
  out : (av = none ∧ nv = 0 ∧ cv = 0 ∧ way' = way ∧ bank ∈ D') ∨ (av.isSome = true ∧ ∃ r : List Int, ringB l r = true ∧ nv = r.length ∧ OS av nv cv 1 fv (r.map iv))

theorem OS.pop {a : Option Addr} {n c : Nat} {full l : List Value} {x : Value} (h : OS a (n + 1) c 1 full (l ++ [x])) (hl : l.length = n) : OS a n c 1 full l :=
  ⟨h.zero, h.none', h.len, by have := h.le; omega, by
    have h1 := h.pre
    rw [Nat.mul_one] at h1 ⊢
    have h2 : (full.take (n + 1)).take n = l := by rw [h1, List.take_append_of_le_length (by omega), List.take_of_length_le (by omega)]
    rw [List.take_take] at h2
    rw [← h2, Nat.min_eq_left (by omega)]⟩

set_option maxHeartbeats 4000000 in
theorem from_ok (a : Option Addr) (c : Nat) (l : List Due) (bl bd bw bf : Nat) (hm : l.length ≤ 64) (F : ∀ d ∈ l, 0 ≤ d.fr ∧ d.fr < 16 ∧ 0 ≤ d.to ∧ d.to < 16 ∧ d.fr ≠ d.to) :
    ∀ (n : Nat) (w : World) (D : List Nat) (way : List Int) (ds : List Due) (aw : Option Addr) (cw : Nat) (full : List Value) (bank : Nat), ds.length + n = 16 →
    (∀ w', Ext ((FB a c l bl bd bw bf D aw cw way full).map (·.1)) w w' → Rd w' a 7 Due.enc l) → Ctx w ((FB a c l bl bd bw bf D aw cw way full).map (·.1)) w (FB a c l bl bd bw bf D aw cw way full) →
    OS aw way.length cw 1 full (way.map iv) → Walk l way ds → Path ds (bank : Int) → bank < 16 → Topo l D →
    Ret Try.prog 24 #[.int .i64 (bank : Int), .pointer (some ⟨bl, 0, none⟩), .pointer (some ⟨bd, 0, none⟩), .pointer (some ⟨bw, 0, none⟩), .pointer (some ⟨bf, 0, none⟩)] w
      fun v w' => ∃ D' way' aw' cw' full' av nv cv fv, v = .slice av nv cv ∧ FromPost a c l bl bd bw bf ((FB a c l bl bd bw bf D aw cw way full).map (·.1)) w D way bank w' D' way' aw' cw' full' av nv cv fv := by
  intro n
  induction n with
  | zero =>
    intro w D way ds aw cw full bank hn hR H O hW hP hb hT
    have := hP.short (fun d hd => by
      obtain ⟨i, hi, rfl⟩ := List.getElem_of_mem hd
      obtain ⟨x, _, _, h3, _⟩ := hW.at' i _ (List.getElem?_eq_getElem hi)
      have := F _ (List.mem_of_getElem? h3)
      omega) (by omega) (by omega)
    omega
  | succ n ih =>
    intro w D way ds aw cw full bank hn hR H O hW hP hb hT
    have hS : ∃ S, S = (FB a c l bl bd bw bf D aw cw way full).map (·.1) := ⟨_, rfl⟩
    obtain ⟨S, hS⟩ := hS
    rw [← hS] at hR H ⊢
    have hds : ds.length ≤ 15 := by omega
    have hwl : way.length ≤ 15 := by rw [← hW.len]; exact hds
    obtain ⟨w0, hw0⟩ : ∃ w0, w0 = w := ⟨_, rfl⟩
    have R := hR w (.refl _ _)
    have hR0 : ∀ w', Ext S w0 w' → Rd w' a 7 Due.enc l := by rw [hw0]; exact hR
    replace H : Ctx w0 S w (FB a c l bl bd bw bf D aw cw way full) := by rw [hw0]; exact H
    rw [show FromPost a c l bl bd bw bf S w = FromPost a c l bl bd bw bf S w0 from by rw [hw0]]
    clear hR hw0 hS
    refine ret_of_W (fn := Try.f24) Try.func24 rfl [.int .i64 (bank : Int), .pointer (some ⟨bl, 0, none⟩), .pointer (some ⟨bd, 0, none⟩), .pointer (some ⟨bw, 0, none⟩), .pointer (some ⟨bf, 0, none⟩)] rfl (by kernel_rfl) ?_
    refine W_rseq ?_
    refine op_assign rfl (.slice _ _ _) rfl ?_
    refine op_nil (at_then ?_)
    refine W_scope ?_
    refine W_seq ?_
    refine W_label (at_then ?_)
    refine W_seq ?_
    refine W_rseq ?_
    refine op_ldb rfl ag_22 rfl H (by first | exact at0 | exact at1 | exact at2 | exact at3 | exact at4 | exact at5 | exact at6 | exact at7 | exact at8 | exact at9) rfl ?_
    refine op_len rfl el_22 rfl ?_
    refine op_move rfl (.int _ _) rfl ?_
    refine op_nil (at_then ?_)
    refine W_block ?_
    refine W_loop 1180591620717411291072 (α := Nat × List Nat × Option Addr × Nat × List Value) (fun x => [(14, .int .i64 x.1)]) (fun x w' => x.1 ≤ l.length ∧ Ctx w0 S w' (FB a c l bl bd bw bf x.2.1 x.2.2.1 x.2.2.2.1 way x.2.2.2.2) ∧ OS x.2.2.1 way.length x.2.2.2.1 1 x.2.2.2.2 (way.map iv) ∧ Topo l x.2.1 ∧ (∀ b, b ∈ D → b ∈ x.2.1) ∧ (∀ d ∈ l.take x.1, d.held = false → d.fr = (bank : Int) → d.to.toNat ∈ x.2.1)) (fun x => l.length - x.1) (0, D, aw, cw, full) rfl ?_ ?_ ?_
    · exact ⟨rfl, trivial⟩
    · exact ⟨Nat.zero_le _, H, O, hT, fun _ h => h, by simp⟩
    · rintro ⟨k, D1, a1, c1, full1⟩ j w ⟨hk, H, O, hT, hsub, hdone⟩
      dsimp only at hk H O hT hsub hdone
      dsimp only
      refine W_rseq ?_
      refine op_lss rfl rfl rfl ?_
      refine op_nil (at_then ?_)
      refine W_seq ?_
      refine W_cond _ rfl ?_ ?_
      · intro h1
        replace h1 := dec_t h1
        obtain ⟨d, hd⟩ := get_some (l := l) (i := k) (by omega)
        obtain ⟨d1, d2, d3, d4, d5⟩ := F d (List.mem_of_getElem? hd)
        obtain ⟨t, ht⟩ : ∃ t : Nat, d.to = t := ⟨d.to.toNat, by omega⟩
        have htn : d.to.toNat = t := by omega
        refine W_skip (at_then ?_)
        refine W_seq ?_
        refine W_block ?_
        refine W_rseq ?_
        refine op_move rfl (.int _ _) rfl ?_
        first | refine op_indexRd R rfl el_22 sz_41 rfl rfl (by omega) (by omega) (by first | rfl | omega) ?_ | refine op_indexAddr rfl el_22 sz_41 rfl rfl (by omega) (by omega) ?_
        refine op_ldN d.enc rfl ag_41 sz_41 rfl rfl ((hR0 _ H.ext).row hd rfl) ?_
        refine op_alloc rfl zc_41 H ?_
        rintro b8 w - H
        refine op_assign rfl (.int _ _) rfl ?_
        refine op_stb0 rfl sz_41 rfl rfl rfl (by simp [oneCell, Due.enc]) H at0 rfl ?_
        rintro w H
        refine op_nil (at_then ?_)
        refine W_seq ?_
        refine W_rseq (Wops_join (α := Unit) 8589410304 (fun _ => [(32, .bool (!(!d.held && (decide (d.fr = (bank : Int)) && !D1.contains t))))]) (fun _ w' => Ctx w0 S w' ((b8, Bl 41 d.enc) :: FB a c l bl bd bw bf D1 a1 c1 way full1)) rfl ?_ ?_)
        · refine op_fieldAddr rfl fo_41_6 rfl ?_
          refine op_ldb rfl ag_4 rfl H (by first | exact at0 | exact at1 | exact at2 | exact at3 | exact at4 | exact at5 | exact at6 | exact at7 | exact at8 | exact at9) rfl ?_
          refine op_move rfl (.bool _) rfl ?_
          refine Wops_split 21 rfl ?_ ?_
          · intro h1
            refine op_skip rfl ?_
            refine op_skip rfl ?_
            refine op_skip rfl ?_
            refine op_skip rfl ?_
            refine op_pick1 rfl rfl (.bool _) rfl ?_
            refine op_move rfl (.bool _) rfl ?_
            refine op_skip rfl ?_
            refine op_skip rfl ?_
            refine op_skip rfl ?_
            refine op_skip rfl ?_
            refine op_pick1 rfl rfl (.bool _) rfl ?_
            refine op_nil ?_
            exact ⟨rfl, (), rfl, ⟨congrArg Value.bool (by simp_all), trivial⟩, H⟩
          · intro h2
            refine op_fieldAddr rfl fo_41_1 rfl ?_
            refine op_ldb rfl ag_3 rfl H (by first | exact at0 | exact at1 | exact at2 | exact at3 | exact at4 | exact at5 | exact at6 | exact at7 | exact at8 | exact at9) rfl ?_
            refine op_move rfl (.int _ _) rfl ?_
            refine op_neq rfl rfl rfl ?_
            refine op_pick0 rfl rfl (.bool _) rfl ?_
            refine op_move rfl (.bool _) rfl ?_
            refine Wops_split 27 rfl ?_ ?_
            · intro h3
              replace h3 := ndec_t h3
              refine op_skip rfl ?_
              refine op_skip rfl ?_
              refine op_skip rfl ?_
              refine op_skip rfl ?_
              refine op_pick1 rfl rfl (.bool _) rfl ?_
              refine op_nil ?_
              exact ⟨rfl, (), rfl, ⟨congrArg Value.bool (by simp_all), trivial⟩, H⟩
            · intro h4
              replace h4 := ndec_f h4
              refine op_fieldAddr rfl fo_41_2 rfl ?_
              refine op_ldb rfl ag_3 rfl H (by first | exact at0 | exact at1 | exact at2 | exact at3 | exact at4 | exact at5 | exact at6 | exact at7 | exact at8 | exact at9) rfl ?_
              refine op_indexArr rfl ar_47 sz_4 rfl rfl (by omega) (by omega) ?_
              refine op_ldr t _ rfl ag_4 rfl H at2 (by rw [ht]; simp) (by omega) rfl ?_
              refine op_pick0 rfl rfl (.bool _) rfl ?_
              refine op_nil ?_
              exact ⟨rfl, (), rfl, ⟨congrArg Value.bool (by simp_all), trivial⟩, H⟩
        rintro - j32 w H
        refine W_cond _ rfl ?_ ?_
        · intro h2
          replace h2 := nvar_t h2
          refine W_exit (exit_then (exit_here (at_then ?_)))
          refine W_region ?_
          refine op_add_i64 rfl rfl rfl (by omega) (by omega) ?_
          refine op_move rfl (.int _ _) rfl ?_
          refine op_nil (at_then ?_)
          refine ⟨(k + 1, D1, a1, c1, full1), rfl, ⟨rfl, trivial⟩, ⟨by omega, H.tail, O, hT, hsub, ?_⟩, by dsimp only; omega⟩
          dsimp only
          rw [take_snoc hd]
          intro e he hh hf
          rcases List.mem_append.1 he with he | he
          · exact hdone e he hh hf
          · rw [List.mem_singleton] at he
            subst he
            rw [htn]
            rw [hh, decide_eq_true hf] at h2
            simpa using h2
        · intro h2
          replace h2 := nvar_f h2
          simp only [Bool.and_eq_true, Bool.not_eq_true', decide_eq_true_eq] at h2
          obtain ⟨hh, hf, hD⟩ := h2
          refine W_skip (at_then ?_)
          refine W_rseq ?_
          refine op_ldb rfl ag_23 rfl H (by first | exact at0 | exact at1 | exact at2 | exact at3 | exact at4 | exact at5 | exact at6 | exact at7 | exact at8 | exact at9) rfl ?_
          refine op_move rfl (.int _ _) rfl ?_
          refine op_build1 _ (.int _ _) rfl el_23 sz_3 zc_3 rfl (by decide) (by decide) rfl rfl rfl H ?_
          rintro b35 w - H
          refine op_appendb (L := [_, _, _, _, _]) rfl el_23 el_23 sz_3 by_3 zc_3 rfl (by decide) rfl rfl H O rfl (by simp [oneCell]) (by omega) ?_
          rintro a9 c9 full9 w H O
          refine op_stb (.slice _ _ _) rfl sz_23 rfl rfl rfl H (by first | exact at0 | exact at1 | exact at2 | exact at3 | exact at4 | exact at5 | exact at6 | exact at7 | exact at8 | exact at9) (by first | decide | (simp; done) | (simp; omega)) ?_
          rintro w H
          refine op_nil (at_then ?_)
          refine W_seq ?_
          refine W_rseq ?_
          refine op_ldb rfl ag_23 rfl H (by first | exact at0 | exact at1 | exact at2 | exact at3 | exact at4 | exact at5 | exact at6 | exact at7 | exact at8 | exact at9) rfl ?_
          refine op_len rfl el_23 rfl ?_
          refine op_move rfl (.int _ _) rfl ?_
          refine op_nil (at_then ?_)
          refine W_block ?_
          have hl1 : (way ++ [(k : Int)]).length = way.length + 1 := by simp
          replace H : Ctx w0 S w ((b8, Bl 41 d.enc) :: FB a c l bl bd bw bf D1 a9 c9 (way ++ [(k : Int)]) full9) := by
            show Ctx w0 S w ((b8, _) :: (bl, _) :: (bd, _) :: (bw, Bl 23 [.slice a9 (way ++ [(k : Int)]).length c9]) :: _)
            rw [hl1]; exact H
          replace O : OS a9 (way ++ [(k : Int)]).length c9 1 full9 ((way ++ [(k : Int)]).map iv) := by
            rw [hl1, List.map_append]; exact O
          have hW2 := hW.snoc hd hh
          have hdl : (ds ++ [d]).length = way.length + 1 := by rw [hW2.len, hl1]
          have RW : ∀ w', Ctx w0 S w' ((b8, Bl 41 d.enc) :: FB a c l bl bd bw bf D1 a9 c9 (way ++ [(k : Int)]) full9) → Rd w' a9 1 I64 (way ++ [(k : Int)]) := fun w' H' =>
            O.rd1 (fun x hx => H'.blk x (by simp only [FB, List.mem_cons]; exact .inr (.inr (.inr (.inr (.inr hx))))))
          refine W_loop 144114638320043584 (α := Nat) (fun i => [(39, .int .i64 i)]) (fun i w' => i ≤ way.length + 1 ∧ Ctx w0 S w' ((b8, Bl 41 d.enc) :: FB a c l bl bd bw bf D1 a9 c9 (way ++ [(k : Int)]) full9) ∧ ∀ j e, j < i → (ds ++ [d])[j]? = some e → e.fr ≠ d.to) (fun i => way.length + 1 - i) 0 rfl ?_ ?_ ?_
          · exact ⟨rfl, trivial⟩
          · exact ⟨Nat.zero_le _, H, fun j e h => absurd h (Nat.not_lt_zero _)⟩
          · rintro i j w ⟨hi, H, hno⟩
            refine W_rseq ?_
            refine op_lss rfl rfl rfl ?_
            refine op_nil (at_then ?_)
            refine W_seq ?_
            refine W_cond _ rfl ?_ ?_
            · intro h3
              replace h3 := dec_t h3
              obtain ⟨e, he⟩ := get_some (l := ds ++ [d]) (i := i) (by omega)
              obtain ⟨x, hx, hx0, hxl, hxh⟩ := hW2.at' i e he
              have hxl' := get_lt hxl
              have RW1 := RW _ H
              refine W_skip (at_then ?_)
              refine W_seq ?_
              refine W_block ?_
              refine W_rseq ?_
              refine op_move rfl (.int _ _) rfl ?_
              refine op_indexRd RW1 rfl el_23 sz_3 rfl rfl (by omega) (by omega) (by omega) ?_
              first | refine op_ldb rfl ag_3 rfl H (by first | exact at0 | exact at1 | exact at2 | exact at3 | exact at4 | exact at5 | exact at6 | exact at7 | exact at8 | exact at9) rfl ?_ | refine op_ld rfl ag_3 rfl (RW1.one (f := iv) hx) ?_ | refine op_ld rfl ag_3 rfl ((hR0 _ H.drew.ext).fld hxl rfl (j := 1) rfl) ?_
              refine op_assign rfl (.int _ _) rfl ?_
              refine op_assign rfl (.int _ _) rfl ?_
              refine op_nil (at_then ?_)
              refine W_qseq (fun x => x = _) mixed (by kernel_rfl) rfl ?_
              first | refine q_ldb rfl ag_22 rfl (by rintro _ rfl; exact H.drew) (by first | exact at0 | exact at1 | exact at2 | exact at3 | exact at4 | exact at5 | exact at6 | exact at7 | exact at8 | exact at9) rfl ?_ | refine q_ld rfl ag_22 rfl (by rintro _ rfl; exact (RW1.one (f := iv) hx)) ?_ | refine q_ld rfl ag_22 rfl (by rintro _ rfl; exact ((hR0 _ H.drew.ext).fld hxl rfl (j := 1) rfl)) ?_
              refine q_move rfl (.int _ _) rfl ?_
              first | refine q_indexRd R rfl el_22 sz_41 rfl rfl (by omega) (by omega) (by first | rfl | omega) ?_ | refine q_indexAddr rfl el_22 sz_41 rfl rfl (by omega) (by omega) ?_
              refine q_fieldAddr rfl fo_41_1 rfl ?_
              first | refine q_ldb rfl ag_3 rfl (by rintro _ rfl; exact H.drew) (by first | exact at0 | exact at1 | exact at2 | exact at3 | exact at4 | exact at5 | exact at6 | exact at7 | exact at8 | exact at9) rfl ?_ | refine q_ld rfl ag_3 rfl (by rintro _ rfl; exact (RW1.one (f := iv) hx)) ?_ | refine q_ld rfl ag_3 rfl (by rintro _ rfl; exact ((hR0 _ H.drew.ext).fld hxl rfl (j := 1) rfl)) ?_
              refine q_fieldAddr rfl fo_41_2 rfl ?_
              first | refine q_ldb rfl ag_3 rfl (by rintro _ rfl; exact H.drew) (by first | exact at0 | exact at1 | exact at2 | exact at3 | exact at4 | exact at5 | exact at6 | exact at7 | exact at8 | exact at9) rfl ?_ | refine q_ld rfl ag_3 rfl (by rintro _ rfl; exact (RW1.one (f := iv) hx)) ?_ | refine q_ld rfl ag_3 rfl (by rintro _ rfl; exact ((hR0 _ H.drew.ext).fld hxl rfl (j := 1) rfl)) ?_
              refine q_eql rfl rfl rfl ?_
              refine q_nil ?_
              rintro _ rfl
              replace H := H.drew
              refine W_cond _ rfl ?_ ?_
              · intro h4
                replace h4 := dec_t h4
                have RC := RW1.cut i c9 (by have := O.le; omega)
                have hcl := clone_ok (cutA a9 c9 i 1) (c9 - i) ((way ++ [(k : Int)]).drop i) w.drew (RC.ext0 (Ext.drew _ _)) (by simp; omega)
                rw [List.length_drop] at hcl
                refine W_rseq ?_
                first | refine op_ldb rfl ag_23 rfl H (by first | exact at0 | exact at1 | exact at2 | exact at3 | exact at4 | exact at5 | exact at6 | exact at7 | exact at8 | exact at9) rfl ?_ | refine op_ld rfl ag_23 rfl (RW1.one (f := iv) hx) ?_ | refine op_ld rfl ag_23 rfl ((hR0 _ H.drew.ext).fld hxl rfl (j := 1) rfl) ?_
                refine op_move rfl (.int _ _) rfl ?_
                refine op_slice_lo rfl el_23 sz_3 rfl rfl (by omega) (by omega) ?_
                refine op_call rfl ca_25 hcl rfl ?_
                rintro v w ⟨⟨av, nv, cv, fv, rfl, OV, hbv⟩, hxv⟩
                refine op_assign rfl (.slice _ _ _) rfl ?_
                refine op_nil (at_then ?_)
                refine W_ret (ret_block (ret_then (ret_then (ret_block (ret_then (ret_block (ret_then (ret_then (ret_block (ret_then (ret_scope (leave1 (v := (.slice _ _ _)) rfl rfl rfl ?_))))))))))))
                have hring := ring_of_path hW (by rw [hf]; exact hP) hd hh he h4
                have hnv := OV.num
                have hpos := (ring_parts hring).2.2
                obtain ⟨bv, hav⟩ := OV.form (by omega)
                exact ⟨D1, _, a9, c9, full9, av, nv, cv, fv, rfl, O, hT, hsub, (H.callEnt hxv hbv ent_nd).tail, .inr ⟨by rw [hav]; rfl, _, hring, hnv, OV⟩⟩
              · intro h4
                replace h4 := dec_f h4
                refine W_skip (at_block (at_then ?_))
                refine W_region ?_
                refine op_add_i64 rfl rfl rfl (by omega) (by omega) ?_
                refine op_move rfl (.int _ _) rfl ?_
                refine op_nil (at_then ?_)
                refine ⟨i + 1, rfl, ⟨rfl, trivial⟩, ⟨by omega, H, ?_⟩, by omega⟩
                intro j e' hj he'
                by_cases hji : j = i
                · subst hji
                  rw [he] at he'; injection he' with he'
                  subst he'; exact h4
                · exact hno j e' (by omega) he'
            · intro h3
              replace h3 := dec_f h3
              have hie : i = way.length + 1 := by omega
              have hP2 : Path (ds ++ [d]) d.to := Path.snoc (by rw [hf]; exact hP) (fun e he => by
                obtain ⟨q, hq, rfl⟩ := List.getElem_of_mem he
                exact hno q _ (by omega) (List.getElem?_eq_getElem hq))
              rw [ht] at hP2
              have H1 : Ctx w0 S w (FB a c l bl bd bw bf D1 a9 c9 (way ++ [(k : Int)]) full9 ++ [(b8, Bl 41 d.enc)]) := Ctx.comm (L := [_]) H
              have hcl := ih w D1 (way ++ [(k : Int)]) (ds ++ [d]) a9 c9 full9 t (by rw [hdl, ← hW.len]; omega) (fun w' hx => hR0 w' (H1.ext.then hx (fun y hy => by
                obtain ⟨z, hz, rfl⟩ := List.mem_map.1 hy
                exact H1.own z (List.mem_append_left _ hz)))) H1.lend O hW2 hP2 (by omega) hT
              rw [← ht] at hcl
              refine W_exit (exit_then (exit_then (exit_here (at_then ?_))))
              refine W_seq ?_
              refine W_rseq ?_
              first | refine op_ldb rfl ag_48 rfl H (by first | exact at0 | exact at1 | exact at2 | exact at3 | exact at4 | exact at5 | exact at6 | exact at7 | exact at8 | exact at9) rfl ?_ | refine op_ld rfl ag_48 rfl (RW1.one (f := iv) hx) ?_ | refine op_ld rfl ag_48 rfl ((hR0 _ H.drew.ext).fld hxl rfl (j := 1) rfl) ?_
              refine op_fieldAddr rfl fo_41_2 rfl ?_
              first | refine op_ldb rfl ag_3 rfl H (by first | exact at0 | exact at1 | exact at2 | exact at3 | exact at4 | exact at5 | exact at6 | exact at7 | exact at8 | exact at9) rfl ?_ | refine op_ld rfl ag_3 rfl (RW1.one (f := iv) hx) ?_ | refine op_ld rfl ag_3 rfl ((hR0 _ H.drew.ext).fld hxl rfl (j := 1) rfl) ?_
              refine op_calld rfl rfl ca_24 hcl rfl ?_
              rintro v w ⟨D2, way2, a2, c2, full2, av, nv, cv, fv, rfl, P⟩
              have H2 := H1.back P.ctx
              refine op_assign rfl (.slice _ _ _) rfl ?_
              refine op_nil (at_then ?_)
              refine W_rseq ?_
              refine op_move rfl (.slice _ _ _) rfl ?_
              refine op_neqnil rfl el_23 rfl ?_
              refine op_nil (at_then ?_)
              refine W_cond _ rfl ?_ ?_
              · intro h5
                refine W_rseq ?_
                refine op_move rfl (.slice _ _ _) rfl ?_
                refine op_assign rfl (.slice _ _ _) rfl ?_
                refine op_nil (at_then ?_)
                refine W_ret (ret_then (ret_block (ret_then (ret_then (ret_block (ret_then (ret_scope (leave1 (v := (.slice _ _ _)) rfl rfl rfl ?_))))))))
                rcases P.out with ⟨rfl, _⟩ | ⟨_, r, hr, hnr, hOr⟩
                · cases h5
                · exact ⟨D2, way2, a2, c2, full2, av, nv, cv, fv, rfl, P.os, P.topo, fun b hb => P.sub b (hsub b hb), H2.left, .inr ⟨h5, r, hr, hnr, hOr⟩⟩
              · intro h5
                rcases P.out with ⟨rfl, rfl, rfl, rfl, hbt⟩ | ⟨hso, _⟩
                · have O2 := P.os
                  have hle := O2.le
                  have H3 := Ctx.comm H2
                  rw [show ent none 3 fv = [] from rfl, List.append_nil] at H3
                  replace H : Ctx w0 S w ((b8, Bl 41 d.enc) :: FB a c l bl bd bw bf D2 a2 c2 (way ++ [(k : Int)]) full2) := H3
                  refine W_skip (at_then ?_)
                  refine W_rseq ?_
                  first | refine op_ldb rfl ag_23 rfl H (by first | exact at0 | exact at1 | exact at2 | exact at3 | exact at4 | exact at5 | exact at6 | exact at7 | exact at8 | exact at9) rfl ?_ | refine op_ld rfl ag_23 rfl (RW1.one (f := iv) hx) ?_ | refine op_ld rfl ag_23 rfl ((hR0 _ H.drew.ext).fld hxl rfl (j := 1) rfl) ?_
                  first | refine op_ldb rfl ag_23 rfl H (by first | exact at0 | exact at1 | exact at2 | exact at3 | exact at4 | exact at5 | exact at6 | exact at7 | exact at8 | exact at9) rfl ?_ | refine op_ld rfl ag_23 rfl (RW1.one (f := iv) hx) ?_ | refine op_ld rfl ag_23 rfl ((hR0 _ H.drew.ext).fld hxl rfl (j := 1) rfl) ?_
                  refine op_len rfl el_23 rfl ?_
                  refine op_sub_i64 rfl rfl rfl (by omega) (by omega) ?_
                  refine op_slice_hi rfl el_23 sz_3 rfl rfl (by omega) (by omega) ?_
                  refine op_stb (.slice _ _ _) rfl sz_23 rfl rfl rfl H (by first | exact at0 | exact at1 | exact at2 | exact at3 | exact at4 | exact at5 | exact at6 | exact at7 | exact at8 | exact at9) (by first | decide | (simp; done) | (simp; omega)) ?_
                  rintro w H
                  refine op_nil (at_then ?_)
                  refine W_exit (exit_here (at_then ?_))
                  refine W_region ?_
                  refine op_add_i64 rfl rfl rfl (by omega) (by omega) ?_
                  refine op_move rfl (.int _ _) rfl ?_
                  refine op_nil (at_then ?_)
                  have hpop : (((way ++ [(k : Int)]).length : Int) - 1).toNat = way.length := by rw [hl1]; omega
                  replace H : Ctx w0 S w ((b8, Bl 41 d.enc) :: (bl, _) :: (bd, _) :: (bw, Bl 23 [.slice a2 (((way ++ [(k : Int)]).length : Int) - 1).toNat c2]) :: _) := H
                  rw [hpop] at H
                  refine ⟨(k + 1, D2, a2, c2, full2), rfl, ⟨rfl, trivial⟩, ⟨by omega, H.tail, OS.pop (x := iv k) (by rw [← hl1]; simpa using O2) (by simp), P.topo, fun b hb => P.sub b (hsub b hb), ?_⟩, by dsimp only; omega⟩
                  dsimp only
                  rw [take_snoc hd]
                  intro e he hh' hf'
                  rcases List.mem_append.1 he with he | he
                  · exact P.sub _ (hdone e he hh' hf')
                  · rw [List.mem_singleton] at he
                    subst he
                    rw [htn]; exact hbt
                · rw [hso] at h5; cases h5
      · intro h1
        replace h1 := dec_f h1
        have hke : k = l.length := by omega
        subst hke
        rw [List.take_length] at hdone
        obtain ⟨D2, hD2⟩ : ∃ D2, D2 = if bank ∈ D1 then D1 else bank :: D1 := ⟨_, rfl⟩
        have hmem : bank ∈ D2 := by rw [hD2]; split <;> simp_all
        have hmem2 : ∀ q, q ≠ bank → D2.contains q = D1.contains q := fun q hq => by rw [hD2]; split <;> simp [hq]
        have htop : Topo l D2 := by
          rw [hD2]; split
          · exact hT
          · rename_i hb1; exact ⟨hdone, hb1, hT⟩
        have hsub2 : ∀ q, q ∈ D1 → q ∈ D2 := fun q hq => by rw [hD2]; split <;> simp [hq]
        refine W_exit (exit_then (exit_then (exit_here (at_then ?_))))
        refine W_rseq ?_
        refine op_move rfl (.int _ _) rfl ?_
        refine op_indexArr rfl ar_47 sz_4 rfl rfl (by omega) (by omega) ?_
        refine op_str bank (fun q => .bool (D2.contains q)) (.bool true) rfl sz_4 rfl rfl rfl H at1 (by simp) (by omega) (by simp [hmem]) (fun q hq hne => by rw [hmem2 q hne]) ?_
        rintro w H
        refine op_nil (at_then ?_)
        refine W_rseq ?_
        refine op_assign rfl (.slice _ _ _) rfl ?_
        refine op_nil (at_then ?_)
        refine W_ret (ret_scope (leave1 (v := (.slice _ _ _)) rfl rfl rfl ?_))
        refine ⟨D2, way, a1, c1, full1, none, 0, 0, [], rfl, O, htop, fun q hq => hsub2 q (hsub q hq), ?_, .inl ⟨rfl, rfl, rfl, rfl, hmem⟩⟩
        rw [show ent none 3 [] = [] from rfl, List.append_nil]
        exact H

end Go.Proofs.Ytogaoppnoibgdaa
