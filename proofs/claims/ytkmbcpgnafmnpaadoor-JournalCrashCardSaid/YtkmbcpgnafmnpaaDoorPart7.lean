/- Part 7 of the proof. The last text: JournalCrash: for every input the law answers true, and turns nothing. The tables that its row lists are premises, and tied to the text by its card. -/
import Derived.Test.YtkmbcpgnafmnpaaDoorPart6
/- JournalCrash: the walk. -/
namespace Go.Proofs.YtkmbcpgnafmnpaaDoor
open Go.GV
theorem ag_24_JoY : aggB Tryd.prog 24 = some false := by kernel_rfl
theorem ag_45_JoY : aggB Tryd.prog 45 = some false := by kernel_rfl
theorem ag_68_JoY : aggB Tryd.prog 68 = some false := by kernel_rfl
theorem ag_70_JoY : aggB Tryd.prog 70 = some true := by kernel_rfl
theorem ag_73_JoY : aggB Tryd.prog 73 = some true := by kernel_rfl
theorem ca_20_JoY : callable Tryd.prog 20 = true := by kernel_rfl
theorem ca_24_JoY : callable Tryd.prog 24 = true := by kernel_rfl
theorem ca_32_JoY : callable Tryd.prog 32 = true := by kernel_rfl
theorem ca_33_JoY : callable Tryd.prog 33 = true := by kernel_rfl
theorem ca_37_JoY : callable Tryd.prog 37 = true := by kernel_rfl
theorem ca_38_JoY : callable Tryd.prog 38 = true := by kernel_rfl
theorem ca_39_JoY : callable Tryd.prog 39 = true := by kernel_rfl
theorem ca_40_JoY : callable Tryd.prog 40 = true := by kernel_rfl
theorem ca_41_JoY : callable Tryd.prog 41 = true := by kernel_rfl
theorem ca_42_JoY : callable Tryd.prog 42 = true := by kernel_rfl
theorem ca_43_JoY : callable Tryd.prog 43 = true := by kernel_rfl
theorem ca_44_JoY : callable Tryd.prog 44 = true := by kernel_rfl
theorem ca_45_JoY : callable Tryd.prog 45 = true := by kernel_rfl
theorem el_68_JoY : elemT Tryd.prog 68 = some 73 := by kernel_rfl
theorem fo_70_4_JoY : fieldO Tryd.prog 70 4 = some 4 := by kernel_rfl
theorem fo_73_0_JoY : fieldO Tryd.prog 73 0 = some 0 := by kernel_rfl
theorem fo_73_1_JoY : fieldO Tryd.prog 73 1 = some 1 := by kernel_rfl
theorem fo_73_2_JoY : fieldO Tryd.prog 73 2 = some 2 := by kernel_rfl
theorem fo_73_4_JoY : fieldO Tryd.prog 73 4 = some 4 := by kernel_rfl
theorem fo_81_0_JoY : fieldO Tryd.prog 81 0 = some 0 := by kernel_rfl
theorem sz_70_JoY : tsize Tryd.prog 70 = some 5 := by kernel_rfl
theorem sz_73_JoY : tsize Tryd.prog 73 = some 5 := by kernel_rfl
theorem un_24_JoY : Tryd.prog.underlying 24 = some (.int .u16) := by kernel_rfl
theorem un_57_JoY : Tryd.prog.underlying 57 = some (.pointer 108) := by kernel_rfl
theorem zc_73_JoY : zcells Tryd.prog 73 = some ([.int .i64 0, .int .u16 0, .int .u8 0, .bool false, .slice none 0 0]) := by kernel_rfl
attribute [local irreducible] Wops W Wq Wt

set_option maxRecDepth 20000 in
set_option maxHeartbeats 8000000 in
theorem crash5_ok (x : Cs) (aa : Option Addr) (ca : Nat) (arms : List UInt8) (w : World) (hx : x.Ok w) (RA : Rd w aa 1 B8 arms) :
    Ret Tryd.prog 10 #[.agg x.enc.toArray, .slice aa arms.length ca] w fun v w' => v = .bool true ∧ Ext [] w w' := by
  obtain ⟨w0, rfl⟩ : ∃ w0, w0 = w := ⟨_, rfl⟩
  have H := Ctx.start w0 []
  have RL := hx.rl
  refine ret_of_W (fn := Tryd.f10) Tryd.func10 rfl [.agg x.enc.toArray, .slice aa arms.length ca] rfl (by kernel_rfl) ?_
  refine W_rseq ?_
  refine op_box rfl x.enc (.agg _) rfl rfl H ?_
  rintro b2 w - H
  refine op_assign rfl (.bool _) rfl ?_
  refine op_nil (at_then ?_)
  refine W_seq ?_
  refine W_rseq (Wops_join (α := Unit) 534773760 (fun _ => [(28, .bool (decide (30 < arms.length) || !x.few))]) (fun _ w' => Ctx w0 [] w' [(b2, Bl 70 x.enc)]) rfl ?_ ?_)
  · refine op_ldbN rfl ag_70_JoY sz_70_JoY rfl H (by first | exact at0 | exact at1 | exact at2 | exact at3 | exact at4 | exact at5 | exact at6 | exact at7 | exact at8 | exact at9) rfl ?_
    refine op_call rfl ca_38_JoY (few_ok x _ (hx.ext0 H.ext)) rfl ?_
    rintro v w ⟨rfl, hx22⟩
    replace H := H.call hx22
    refine op_not rfl rfl ?_
    refine op_move rfl (.bool _) rfl ?_
    refine Wops_split 24 rfl ?_ ?_
    · intro h1
      replace h1 := nvar_t h1
      refine op_skip rfl ?_
      refine op_skip rfl ?_
      refine op_skip rfl ?_
      refine op_pick1 rfl rfl (.bool _) rfl ?_
      refine op_nil ?_
      exact ⟨rfl, (), rfl, ⟨congrArg Value.bool (by rw [Bool.eq_iff_iff]; simp_all; try omega), trivial⟩, H⟩
    · intro h2
      replace h2 := nvar_f h2
      refine op_move rfl (.slice _ _ _) rfl ?_
      refine op_len rfl el_23 rfl ?_
      refine op_gtr rfl rfl rfl ?_
      refine op_pick0 rfl rfl (.bool _) rfl ?_
      refine op_nil ?_
      exact ⟨rfl, (), rfl, ⟨congrArg Value.bool (by rw [Bool.eq_iff_iff]; simp_all; try omega), trivial⟩, H⟩
  rintro - j28 w H
  refine W_cond _ rfl ?_ ?_
  · intro h1
    refine W_rseq ?_
    refine op_call rfl ca_37_JoY (works5_ok _) rfl ?_
    rintro v w ⟨rfl, hxw⟩
    refine op_assign rfl (.bool _) rfl ?_
    refine op_nil (at_then ?_)
    refine W_ret (ret_then (leave1 (v := (.bool _)) rfl rfl rfl ?_))
    exact ⟨rfl, H.ext.trans hxw⟩
  · intro h1
    have h1b : x.few = true ∧ arms.length ≤ 30 := by
      cases hf : x.few <;> simp_all
    obtain ⟨h1a, ha30⟩ := h1b
    obtain ⟨hl60, hsq, hp100⟩ := Cs.few_true (x := x) h1a
    refine W_skip (at_then ?_)
    refine W_rseq ?_
    refine op_ldbN rfl ag_70_JoY sz_70_JoY rfl H (by first | exact at0 | exact at1 | exact at2 | exact at3 | exact at4 | exact at5 | exact at6 | exact at7 | exact at8 | exact at9) rfl ?_
    refine op_call rfl ca_40_JoY (begin_ok x _ (hx.ext0 H.ext) hsq) rfl ?_
    rintro v w2 ⟨bd, bj, br, F, G, rfl, T0, g⟩
    have hxe := H.ext
    have hb2lt := H.lt (k := 0) rfl
    have hT0e := T0.one.own.ext
    have T := Jtwo.from hxe T0
    have B2 : BlF w2 (Fj F bj) G b2 (Bl 70 x.enc) := ⟨by rw [hT0e.block b2 hb2lt (by simp)]; exact H.get at0, Nat.lt_of_lt_of_le hb2lt hT0e.size, (T0.old hb2lt).1, (T0.old hb2lt).2⟩
    refine op_move rfl (.tuple _) rfl ?_
    refine op_extract rfl rfl rfl ?_
    refine op_extract rfl rfl rfl ?_
    refine op_extract rfl rfl rfl ?_
    refine op_extract rfl rfl rfl ?_
    refine op_assign rfl (.pointer _) rfl ?_
    refine op_assign rfl (.pointer _) rfl ?_
    refine op_assign rfl (.pointer _) rfl ?_
    refine op_assign rfl (.bool _) rfl ?_
    refine op_nil (at_then ?_)
    refine W_seq ?_
    refine W_rseq ?_
    refine op_move rfl (.bool _) rfl ?_
    refine op_not rfl rfl ?_
    refine op_nil (at_then ?_)
    refine W_cond0 rfl ?_
    refine W_skip (at_then ?_)
    refine W_seq ?_
    have H : True := trivial
    have ha0 : ∀ {i : Nat}, i < arms.length → ∃ y, arms[i]? = some y := fun h => get_some h
    refine W_rseq (Wops_join (α := Unit) 2251250057871360 (fun _ => [(50, .bool (false))]) (fun _ w' => ∃ A', Jtwo w0 w' bd bj br A' (jrK x.f x.R x.R.L) x.R F G ∧ Good (x.f + x.z) x.f A' x.R ∧ BlF w' (Fj F bj) G b2 (Bl 70 x.enc)) rfl ?_ ?_)
    · refine op_move rfl (.slice _ _ _) rfl ?_
      refine op_len rfl el_23 rfl ?_
      refine op_gtr rfl rfl rfl ?_
      refine op_move rfl (.bool _) rfl ?_
      refine Wops_split 42 rfl ?_ ?_
      · intro h3
        replace h3 := dec_t h3
        refine op_move rfl (.pointer _) rfl ?_
        refine op_move rfl (.slice _ _ _) rfl ?_
        first | refine op_indexRd RA rfl el_23 sz_5 rfl rfl (by omega) (by omega) (by first | rfl | omega) ?_ | refine op_indexAddr rfl el_23 sz_5 rfl rfl (by omega) (by omega) ?_
        obtain ⟨y, hy⟩ := ha0 (i := 0) (by omega)
        have hyl := y.toNat_lt
        refine op_ld rfl ag_5 rfl ((RA.ext0 T.one.own.ext).one (f := bv) hy) ?_
        refine op_conv_i64 rfl rfl un_5 un_3 (by omega) (by omega) ?_
        refine op_call rfl ca_20_JoY (T.arm g (y.toNat : Int) (by omega)) rfl ?_
        rintro v w ⟨rfl, A', T, g, s⟩
        replace B2 := B2.go s
        refine op_neq rfl rfl rfl ?_
        refine op_pick1 rfl rfl (.bool _) rfl ?_
        refine op_nil ?_
        exact ⟨rfl, (), rfl, ⟨congrArg Value.bool (by simp_all), trivial⟩, ⟨_, T, g, B2⟩⟩
      · intro h4
        replace h4 := dec_f h4
        refine op_skip rfl ?_
        refine op_skip rfl ?_
        refine op_skip rfl ?_
        refine op_skip rfl ?_
        refine op_skip rfl ?_
        refine op_skip rfl ?_
        refine op_skip rfl ?_
        refine op_pick0 rfl rfl (.bool _) rfl ?_
        refine op_nil ?_
        exact ⟨rfl, (), rfl, ⟨congrArg Value.bool (by simp_all), trivial⟩, ⟨_, T, g, B2⟩⟩
    rintro - j50 w ⟨A0, T, g, B2⟩
    refine W_cond0 rfl ?_
    refine W_skip (at_then ?_)
    refine W_rseq ?_
    refine op_assign rfl (.int _ _) rfl ?_
    refine op_nil (at_then ?_)
    refine W_seq ?_
    refine W_rseq ?_
    refine op_assign rfl (.int _ _) rfl ?_
    refine op_nil (at_then ?_)
    refine W_block ?_
    refine W_loop 803469022129495137770981046170581301261101494639596606062160 (α := Nat × Nat × Nat × Dev × Rj × (Nat → Prop) × (Nat → Prop)) (fun s => [(10, .int .i64 (s.1 : Int)), (6, ptr s.2.1), (9, .int .i64 (s.2.2.1 : Int))]) (fun s w' => s.1 ≤ x.l.length ∧ Jtwo w0 w' bd s.2.1 br s.2.2.2.1 (jrK x.f s.2.2.2.2.1 s.2.2.2.2.1.L) s.2.2.2.2.1 s.2.2.2.2.2.1 s.2.2.2.2.2.2 ∧ Good (x.f + x.z) x.f s.2.2.2.1 s.2.2.2.2.1 ∧ s.2.2.1 ≤ s.1 + 1 ∧ 1 ≤ s.2.2.2.2.1.seq ∧ s.2.2.2.2.1.seq + s.2.2.2.2.1.L.length ≤ x.seq + 1 + s.1 ∧ BlF w' (Fj s.2.2.2.2.2.1 s.2.1) s.2.2.2.2.2.2 b2 (Bl 70 x.enc)) (fun s => x.l.length - s.1) (0, bj, 1, A0, x.R, F, G) rfl ?_ ?_ ?_
    · exact ⟨rfl, rfl, rfl, trivial⟩
    · exact ⟨Nat.zero_le _, T, g, Nat.le_refl _, Nat.le_add_left 1 _, Nat.le_refl _, B2⟩
    · clear T g B2 T0 hT0e
      rintro ⟨i, bj, nx, A, R, F, G⟩ j w ⟨hi, T, g, hnx, hq1, hq2, B2⟩; dsimp only at hi T g hnx hq1 hq2 B2; dsimp only
      refine W_seq ?_
      refine W_rseq ?_
      refine op_move rfl (.int _ _) rfl ?_
      refine op_fieldAddr rfl fo_70_4_JoY rfl ?_
      first | refine op_ldb rfl ag_68_JoY rfl H (by first | exact at0 | exact at1 | exact at2 | exact at3 | exact at4 | exact at5 | exact at6 | exact at7 | exact at8 | exact at9) rfl ?_ | refine op_ld rfl ag_68_JoY rfl (cell_bl B2.1 (0 + 4)) ?_
      refine op_len rfl el_68_JoY rfl ?_
      refine op_lss rfl rfl rfl ?_
      refine op_nil (at_then ?_)
      refine W_cond _ rfl ?_ ?_
      · intro h2
        replace h2 := dec_t h2
        obtain ⟨s, hs⟩ := get_some (l := x.l) (i := i) (by omega)
        have hos := hx.steps s (List.mem_of_getElem? hs)
        have hsn := hos.n
        have hsm := hos.mp
        have H := Ctx.start w []
        refine W_skip (at_then ?_)
        refine W_join 803469022129495137770981046170581301261101208661020268034640 (α := Nat × Nat × Dev × Rj × (Nat → Prop) × (Nat → Prop)) (fun s => [(6, ptr s.1), (9, .int .i64 (s.2.1 : Int))]) (fun s w' => Jtwo w0 w' bd s.1 br s.2.2.1 (jrK x.f s.2.2.2.1 s.2.2.2.1.L) s.2.2.2.1 s.2.2.2.2.1 s.2.2.2.2.2 ∧ Good (x.f + x.z) x.f s.2.2.1 s.2.2.2.1 ∧ s.2.1 ≤ i + 2 ∧ 1 ≤ s.2.2.2.1.seq ∧ s.2.2.2.1.seq + s.2.2.2.1.L.length ≤ x.seq + 1 + (i + 1) ∧ BlF w' (Fj s.2.2.2.2.1 s.1) s.2.2.2.2.2 b2 (Bl 70 x.enc)) rfl ?_ ?_
        · skip
          refine W_block ?_
          refine W_rseq ?_
          refine op_fieldAddr rfl fo_70_4_JoY rfl ?_
          first | refine op_ldb rfl ag_68_JoY rfl H (by first | exact at0 | exact at1 | exact at2 | exact at3 | exact at4 | exact at5 | exact at6 | exact at7 | exact at8 | exact at9) rfl ?_ | refine op_ld rfl ag_68_JoY rfl (cell_bl B2.1 (0 + 4)) ?_
          refine op_move rfl (.int _ _) rfl ?_
          first | refine op_indexRd RA rfl el_68_JoY sz_73_JoY rfl rfl (by omega) (by omega) (by first | rfl | omega) ?_ | refine op_indexRd RL rfl el_68_JoY sz_73_JoY rfl rfl (by omega) (by omega) (by first | rfl | omega) ?_ | refine op_indexAddr rfl el_68_JoY sz_73_JoY rfl rfl (by omega) (by omega) ?_
          first | refine op_ldN _ rfl ag_73_JoY sz_73_JoY rfl rfl ((RL.ext0 (T.one.own.ext.trans H.ext)).row hs rfl) ?_ | refine op_ldbN rfl ag_73_JoY sz_73_JoY rfl H (by first | exact at0 | exact at1 | exact at2 | exact at3 | exact at4 | exact at5 | exact at6 | exact at7 | exact at8 | exact at9) rfl ?_
          refine op_alloc rfl zc_73_JoY H ?_
          rintro b11 w - H
          refine op_stb0 rfl sz_73_JoY rfl rfl rfl (Sj.one s) H at0 rfl ?_
          rintro w H
          refine op_nil (at_then ?_)
          refine W_seq ?_
          have hlt8 := H.lt (k := 0) rfl
          have hge8 := (H.own _ (List.mem_cons_self ..)).elim (fun h => by cases h) id
          have E8 : BlF _ (Fj F bj) G _ (Bl 73 s.enc) := ⟨H.get at0, T.free hge8 hlt8⟩
          replace B2 := B2.go (.call H.ext)
          replace T := T.call H.ext
          refine W_rseq ?_
          refine op_fieldAddr rfl fo_73_0_JoY rfl ?_
          first | refine op_ldb rfl ag_3 rfl H (by first | exact at0 | exact at1 | exact at2 | exact at3 | exact at4 | exact at5 | exact at6 | exact at7 | exact at8 | exact at9) rfl ?_ | refine op_ld rfl ag_3 rfl (cell_bl B2.1 (0 + 4)) ?_
          refine op_eql rfl rfl rfl ?_
          refine op_nil (at_then ?_)
          refine W_cond _ rfl ?_ ?_
          · intro k1
            replace k1 := dec_t k1
            refine W_seq ?_
            refine W_rseq ?_
            refine op_move rfl (.pointer _) rfl ?_
            refine op_call rfl ca_33_JoY (T.forget0 g) rfl ?_
            rintro v w3 ⟨rfl, T3, s3⟩
            replace B2 := B2.go s3
            refine op_neq rfl rfl rfl ?_
            refine op_nil (at_then ?_)
            refine W_cond0 rfl ?_
            refine W_skip (at_then ?_)
            refine W_rseq ?_
            refine op_move rfl (.pointer _) rfl ?_
            refine op_call rfl ca_42_JoY (T3.rforget g.ok) rfl ?_
            rintro v w4 ⟨G', T4, s4⟩
            replace B2 := B2.go s4
            refine op_nil (at_then ?_)
            refine W_exit (exit_then (exit_here (at_then ?_)))
            have hRq : R.seq + R.L.length ≤ 8000000000000000000 := by omega
            exact ⟨(bj, nx, A, R.forget, F, G'), rfl, ⟨rfl, rfl, trivial⟩, T4, g.forget hRq, by dsimp only; omega, by show 1 ≤ R.seq + R.L.length; omega, by show R.seq + R.L.length + 0 ≤ _; omega, B2⟩
          · intro k1
            replace k1 := dec_f k1
            have H : True := trivial
            refine W_skip (at_then ?_)
            refine W_rseq ?_
            refine op_fieldAddr rfl fo_73_1_JoY rfl ?_
            first | refine op_ldb rfl ag_24_JoY rfl H (by first | exact at0 | exact at1 | exact at2 | exact at3 | exact at4 | exact at5 | exact at6 | exact at7 | exact at8 | exact at9) rfl ?_ | refine op_ld rfl ag_24_JoY rfl (cell_bl B2.1 (0 + 4)) ?_ | refine op_ld rfl ag_24_JoY rfl (cell_bl E8.1 (0 + 1)) ?_ | refine op_ld rfl ag_24_JoY rfl (cell_bl E8.1 (0 + 2)) ?_
            refine op_conv_i64 rfl rfl un_24_JoY un_3 (by omega) (by omega) ?_
            refine op_rem rfl rfl rfl (by omega) (by omega) ?_
            rw [show (s.n : Int) % 4000 = ((s.n % 4000 : Nat) : Int) by omega]
            refine op_fieldAddr rfl fo_73_2_JoY rfl ?_
            first | refine op_ldb rfl ag_5 rfl H (by first | exact at0 | exact at1 | exact at2 | exact at3 | exact at4 | exact at5 | exact at6 | exact at7 | exact at8 | exact at9) rfl ?_ | refine op_ld rfl ag_5 rfl (cell_bl B2.1 (0 + 4)) ?_ | refine op_ld rfl ag_5 rfl (cell_bl E8.1 (0 + 1)) ?_ | refine op_ld rfl ag_5 rfl (cell_bl E8.1 (0 + 2)) ?_
            refine op_call rfl ca_39_JoY (text_ok (s.n % 4000) (by omega) s.c _) rfl ?_
            rintro v w3 FT
            obtain ⟨a9, c9, rfl, R9, hc9, hn9⟩ := newB_text FT
            have X9 := T.new8 R9 hn9
            replace B2 := B2.go (.call FT.ext)
            replace E8 := E8.go (.call FT.ext)
            replace T := T.call FT.ext
            refine op_assign rfl (.slice _ _ _) rfl ?_
            refine op_nil (at_then ?_)
            obtain ⟨bt, hbt⟩ : ∃ bt, bt = textB (s.n % 4000) s.c := ⟨_, rfl⟩
            have hbl : bt.length = s.n % 4000 := by rw [hbt, textB_len]
            rw [← hbt] at R9 X9 hc9
            refine W_rseq ?_
            refine op_move rfl (.pointer _) rfl ?_
            refine op_move rfl (.slice _ _ _) rfl ?_
            refine op_call rfl ca_32_JoY (T.app g a9 c9 _ bt X9 (by rw [hbt]) (by rw [textB_len]; omega) (by rw [← hbt]; exact hc9)) rfl ?_
            rintro v w6 ⟨e, A', J', F', rfl, T6, hcame, hfw, s6⟩
            replace B2 := B2.go s6
            replace X9 := X9.go s6
            replace E8 := E8.go s6
            refine op_assign rfl (.int _ _) rfl ?_
            refine op_nil (at_then ?_)
            refine W_seq ?_
            refine W_rseq (Wops_join (α := Unit) 152324653271443276012978176 (fun _ => [(86, .bool (decide (e = 0) || decide (e = 7)))]) (fun _ w' => Jtwo w0 w' bd bj br A' J' R F' G ∧ BlF w' (Fj F' bj) G b2 (Bl 70 x.enc) ∧ RdF w' (Fj F' bj) G a9 1 B8 bt ∧ BlF w' (Fj F' bj) G b11 (Bl 73 s.enc)) rfl ?_ ?_)
            · refine op_move rfl (.int _ _) rfl ?_
              refine op_eql rfl rfl rfl ?_
              refine op_move rfl (.bool _) rfl ?_
              refine Wops_split 83 rfl ?_ ?_
              · intro h5
                replace h5 := dec_t h5
                refine op_skip rfl ?_
                refine op_skip rfl ?_
                refine op_pick1 rfl rfl (.bool _) rfl ?_
                refine op_nil ?_
                exact ⟨rfl, (), rfl, ⟨congrArg Value.bool (by rw [Bool.eq_iff_iff]; simp_all), trivial⟩, ⟨T6, B2, X9, E8⟩⟩
              · intro h6
                replace h6 := dec_f h6
                refine op_move rfl (.int _ _) rfl ?_
                refine op_eql rfl rfl rfl ?_
                refine op_pick0 rfl rfl (.bool _) rfl ?_
                refine op_nil ?_
                exact ⟨rfl, (), rfl, ⟨congrArg Value.bool (by rw [Bool.eq_iff_iff]; simp_all), trivial⟩, ⟨T6, B2, X9, E8⟩⟩
            rintro - j86 w ⟨T6, B2, X9, E8⟩
            have hle := appR_len R bt
            have hsame := appR_same R bt
            refine W_cond _ rfl ?_ ?_
            · intro k2
              obtain ⟨rfl, g', rfl⟩ : e = appRE R bt ∧ Good (x.f + x.z) x.f A' (appR R bt) ∧ J' = jrK x.f (appR R bt) (appR R bt).L := by
                rcases hcame with h | ⟨rfl, _⟩
                · exact h
                · simp at k2
              refine W_seq ?_
              refine W_rseq ?_
              refine op_move rfl (.pointer _) rfl ?_
              refine op_move rfl (.slice _ _ _) rfl ?_
              refine op_call rfl ca_41_JoY (T6.rapp g.ok a9 c9 _ bt X9 (by rw [hbt]) (by rw [textB_len]; omega)) rfl ?_
              rintro v w8 ⟨rfl, G', T8, s8⟩
              replace B2 := B2.go s8
              refine op_move rfl (.int _ _) rfl ?_
              refine op_neq rfl rfl rfl ?_
              rw [show decide (appRE R bt = appRE R bt) = true from decide_eq_true rfl]
              refine op_nil (at_then ?_)
              refine W_cond0 rfl ?_
              refine W_skip (at_then ?_)
              refine W_exit (exit_then (exit_here (at_then ?_)))
              exact ⟨(bj, nx, A', appR R bt, F', G'), rfl, ⟨rfl, rfl, trivial⟩, T8, g', by dsimp only; omega, by dsimp only; omega, by dsimp only; omega, B2⟩
            · intro k2
              obtain ⟨rfl, hE0, hoff, rfl, hpk⟩ : e = 8 ∧ appRE R bt = 0 ∧ A'.on = false ∧ J' = Dead (jrK x.f R R.L) ∧ ∀ picks, Good (x.f + x.z) x.f (onD A' picks) R ∨ Good (x.f + x.z) x.f (onD A' picks) (appR R bt) := by
                rcases hcame with ⟨h, _⟩ | h
                · rw [h] at k2
                  unfold appRE at k2
                  split at k2 <;> simp at k2
                · exact h
              obtain ⟨R', hR', hg'⟩ : ∃ R', (R' = R ∨ R' = appR R bt) ∧ Good (x.f + x.z) x.f (onD A' s.picks) R' := by
                rcases hpk s.picks with h | h
                · exact ⟨_, .inl rfl, h⟩
                · exact ⟨_, .inr rfl, h⟩
              have hR2 : R' = R ∨ ∃ b, R' = appR R b := hR'.imp id fun h => ⟨_, h⟩
              have hLen : R'.L.length ≤ 1000000 := by have := takenL_two R'.L; have := hg'.ok.t; have := hg'.ok.s2; omega
              refine W_skip (at_then ?_)
              refine W_seq ?_
              refine W_rseq ?_
              refine op_move rfl (.int _ _) rfl ?_
              refine op_neq rfl rfl rfl ?_
              refine op_move rfl (.bool _) rfl ?_
              refine op_move rfl (.pointer _) rfl ?_
              refine op_call rfl ca_32_JoY (T6.appdead g.jok hfw) rfl ?_
              rintro v w7 ⟨rfl, F7, T7, s7⟩
              replace B2 := B2.go s7
              replace X9 := X9.go s7
              replace E8 := E8.go s7
              refine op_neq rfl rfl rfl ?_
              refine op_pick0 rfl rfl (.bool _) rfl ?_
              refine op_move rfl (.bool _) rfl ?_
              refine op_move rfl (.pointer _) rfl ?_
              refine op_call rfl ca_33_JoY T7.forgetdead rfl ?_
              rintro v w8 ⟨rfl, T8, s8⟩
              replace B2 := B2.go s8
              replace X9 := X9.go s8
              replace E8 := E8.go s8
              refine op_neq rfl rfl rfl ?_
              refine op_pick0 rfl rfl (.bool _) rfl ?_
              refine op_move rfl (.bool _) rfl ?_
              refine op_move rfl (.pointer _) rfl ?_
              refine op_fieldAddr rfl fo_73_4_JoY rfl ?_
              first | refine op_ldb rfl ag_45_JoY rfl H (by first | exact at0 | exact at1 | exact at2 | exact at3 | exact at4 | exact at5 | exact at6 | exact at7 | exact at8 | exact at9) rfl ?_ | refine op_ld rfl ag_45_JoY rfl (cell_bl B2.1 (0 + 4)) ?_ | refine op_ld rfl ag_45_JoY rfl (cell_bl E8.1 (0 + 1)) ?_ | refine op_ld rfl ag_45_JoY rfl (cell_bl E8.1 (0 + 2)) ?_ | refine op_ld rfl ag_45_JoY rfl (cell_bl E8.1 (0 + 4)) ?_
              refine op_call rfl ca_24_JoY (T8.on hoff hfw s.pa s.pc _ s.picks (hos.rp.ext0 T8.one.own.ext) rfl (by omega) hos.cp (rd_lt hos.rp (by decide) (fun _ _ => rfl)) hos.picks) rfl ?_
              rintro v w9 ⟨rfl, T9, s9⟩
              replace B2 := B2.go s9
              replace X9 := X9.go s9
              refine op_neq rfl rfl rfl ?_
              refine op_pick0 rfl rfl (.bool _) rfl ?_
              refine op_nil (at_then ?_)
              refine W_cond0 rfl ?_
              refine W_skip (at_then ?_)
              refine W_rseq ?_
              refine op_move rfl (.pointer _) rfl ?_
              refine op_ldN x.enc rfl ag_70_JoY sz_70_JoY rfl rfl (fun j v hv => by rw [cell_bl B2.1, Nat.zero_add]; exact hv) ?_
              refine op_move rfl (.pointer _) rfl ?_
              refine op_call rfl ca_43_JoY (again2_ok x hx.frm T9 hg' hR2 hq1 (by omega)) rfl ?_
              rintro v w10 ⟨bj2, a15, n15, c15, rfl, -, -, T10, s10, S15⟩
              have hG9 := (fun y hy => (T9.g y hy).2)
              replace B2 := B2.go s10
              replace X9 := X9.go s10
              refine op_move rfl (.tuple _) rfl ?_
              refine op_extract rfl rfl rfl ?_
              refine op_extract rfl rfl rfl ?_
              refine op_extract rfl rfl rfl ?_
              refine op_assign rfl (.pointer _) rfl ?_
              refine op_assign rfl (.slice _ _ _) rfl ?_
              refine op_assign rfl (.int _ _) rfl ?_
              refine op_nil (at_then ?_)
              refine W_rseq ?_
              refine op_move rfl (.pointer _) rfl ?_
              refine op_ldN x.enc rfl ag_70_JoY sz_70_JoY rfl rfl (fun j v hv => by rw [cell_bl B2.1, Nat.zero_add]; exact hv) ?_
              refine op_move rfl (.pointer _) rfl ?_
              refine op_call rfl ca_43_JoY (again2_ok x hx.frm T10 hg' hR2 hq1 (by omega)) rfl ?_
              rintro v w11 ⟨bj3, a18, n18, c18, rfl, hge3, hx11, T11a, -, S18⟩
              have S15b := S15.ext0 hx11
              have T11 := T10.call hx11
              replace B2 := B2.go (.call hx11)
              replace X9 := X9.go (.call hx11)
              refine op_move rfl (.tuple _) rfl ?_
              refine op_extract rfl rfl rfl ?_
              refine op_extract rfl rfl rfl ?_
              refine op_extract rfl rfl rfl ?_
              refine op_assign rfl (.pointer _) rfl ?_
              refine op_assign rfl (.slice _ _ _) rfl ?_
              refine op_assign rfl (.int _ _) rfl ?_
              refine op_nil (at_then ?_)
              refine W_seq ?_
              refine W_rseq ?_
              refine op_move rfl (.int _ _) rfl ?_
              refine op_neq rfl rfl rfl ?_
              refine op_move rfl (.bool _) rfl ?_
              refine op_move rfl (.int _ _) rfl ?_
              refine op_neq rfl rfl rfl ?_
              refine op_pick0 rfl rfl (.bool _) rfl ?_
              refine op_move rfl (.bool _) rfl ?_
              refine op_move rfl (.pointer _) rfl ?_
              refine op_eqlptr rfl un_57_JoY rfl ?_
              refine op_pick0 rfl rfl (.bool _) rfl ?_
              refine op_move rfl (.bool _) rfl ?_
              refine op_move rfl (.slice _ _ _) rfl ?_
              refine op_move rfl (.slice _ _ _) rfl ?_
              refine op_call rfl ca_44_JoY (same_ok S15b.strs S18.strs hLen) rfl ?_
              rintro v w12 ⟨rfl, hx12⟩
              rw [show decide (R'.L = R'.L) = true from decide_eq_true rfl]
              replace B2 := B2.go (.call hx12)
              replace X9 := X9.go (.call hx12)
              replace T11 := T11.call hx12
              have S15c := S15b.ext0 hx12
              refine op_not rfl rfl ?_
              refine op_pick0 rfl rfl (.bool _) rfl ?_
              refine op_nil (at_then ?_)
              refine W_cond0 rfl ?_
              refine W_skip (at_then ?_)
              have hn15 : n15 = R'.L.length := S15.num
              obtain ⟨ar, cr, hbr, SR⟩ := T11.strs
              rcases hR' with rfl | rfl
              · skip
                refine W_rseq ?_
                refine op_move rfl (.slice _ _ _) rfl ?_
                refine op_len rfl el_58 rfl ?_
                refine op_move rfl (.pointer _) rfl ?_
                refine op_nilCheck rfl rfl ?_
                refine op_fieldAddr rfl fo_81_0_JoY rfl ?_
                first | refine op_ldb rfl ag_58 rfl H (by first | exact at0 | exact at1 | exact at2 | exact at3 | exact at4 | exact at5 | exact at6 | exact at7 | exact at8 | exact at9) rfl ?_ | refine op_ld rfl ag_58 rfl (cell_bl hbr (0 + 0)) ?_
                refine op_len rfl el_58 rfl ?_
                refine op_sub_i64 rfl rfl rfl (by omega) (by omega) ?_
                rw [show (n15 : Int) - (R'.L.length : Int) = 0 by omega]
                refine op_assign rfl (.int _ _) rfl ?_
                refine op_nil (at_then ?_)
                refine W_seq ?_
                refine W_rseq ?_
                refine op_move rfl (.int _ _) rfl ?_
                refine op_eql rfl rfl rfl ?_
                refine op_move rfl (.bool _) rfl ?_
                refine op_skip rfl ?_
                refine op_skip rfl ?_
                refine op_skip rfl ?_
                refine op_skip rfl ?_
                refine op_pick0 rfl rfl (.bool _) rfl ?_
                refine op_move rfl (.bool _) rfl ?_
                refine op_move rfl (.int _ _) rfl ?_
                refine op_neq rfl rfl rfl ?_
                refine op_move rfl (.bool _) rfl ?_
                refine op_skip rfl ?_
                refine op_skip rfl ?_
                refine op_pick0 rfl rfl (.bool _) rfl ?_
                refine op_pick0 rfl rfl (.bool _) rfl ?_
                refine op_move rfl (.bool _) rfl ?_
                refine op_move rfl (.slice _ _ _) rfl ?_
                refine op_move rfl (.pointer _) rfl ?_
                refine op_nilCheck rfl rfl ?_
                refine op_fieldAddr rfl fo_81_0_JoY rfl ?_
                first | refine op_ldb rfl ag_58 rfl H (by first | exact at0 | exact at1 | exact at2 | exact at3 | exact at4 | exact at5 | exact at6 | exact at7 | exact at8 | exact at9) rfl ?_ | refine op_ld rfl ag_58 rfl (cell_bl hbr (0 + 0)) ?_
                refine op_call rfl ca_44_JoY (same_ok S15c.strs SR hLen) rfl ?_
                rintro v w13 ⟨rfl, hx13⟩
                rw [show decide (R'.L = R'.L) = true from decide_eq_true rfl]
                replace B2 := B2.go (.call hx13)
                replace T11 := T11.call hx13
                refine op_not rfl rfl ?_
                refine op_pick0 rfl rfl (.bool _) rfl ?_
                refine op_nil (at_then ?_)
                refine W_cond0 rfl ?_
                refine W_skip (at_then ?_)
                refine W_rseq ?_
                refine op_move rfl (.pointer _) rfl ?_
                refine op_assign rfl (.pointer _) rfl ?_
                refine op_nil (at_then ?_)
                refine W_seq ?_
                refine W_rseq (Wops_join (α := Unit) 200867063970431176206637966749266931526627421880458831462400 (fun _ => [(196, .bool (false))]) (fun _ w' => ∃ A2, Jtwo w0 w' bd bj2 br A2 (jrK x.f R' R'.L) R' F7 G ∧ Good (x.f + x.z) x.f A2 R' ∧ BlF w' (Fj F7 bj2) G b2 (Bl 70 x.enc)) rfl ?_ ?_)
                · refine op_move rfl (.pointer _) rfl ?_
                  refine op_move rfl (.pointer _) rfl ?_
                  refine op_call rfl ca_45_JoY (alike_ok T11 hg') rfl ?_
                  rintro v w14 ⟨rfl, hx14⟩
                  replace B2 := B2.go (.call hx14)
                  replace T11 := T11.call hx14
                  refine op_not rfl rfl ?_
                  refine op_move rfl (.bool _) rfl ?_
                  refine op_move rfl (.int _ _) rfl ?_
                  refine op_move rfl (.slice _ _ _) rfl ?_
                  refine op_len rfl el_23 rfl ?_
                  refine op_lss rfl rfl rfl ?_
                  refine op_move rfl (.bool _) rfl ?_
                  refine Wops_split 186 rfl ?_ ?_
                  · intro h7
                    replace h7 := dec_t h7
                    refine op_move rfl (.pointer _) rfl ?_
                    refine op_move rfl (.slice _ _ _) rfl ?_
                    refine op_move rfl (.int _ _) rfl ?_
                    first | refine op_indexRd RA rfl el_23 sz_5 rfl rfl (by omega) (by omega) (by first | rfl | omega) ?_ | refine op_indexRd RL rfl el_23 sz_5 rfl rfl (by omega) (by omega) (by first | rfl | omega) ?_ | refine op_indexRd RA rfl el_23 sz_5 rfl rfl (by omega) (by omega) (by first | rfl | omega) ?_ | refine op_indexAddr rfl el_23 sz_5 rfl rfl (by omega) (by omega) ?_
                    obtain ⟨y, hy⟩ := ha0 (i := nx) (by omega)
                    have hyl := y.toNat_lt
                    refine op_ld rfl ag_5 rfl ((RA.ext0 T11.one.own.ext).one (f := bv) hy) ?_
                    refine op_conv_i64 rfl rfl un_5 un_3 (by omega) (by omega) ?_
                    refine op_call rfl ca_20_JoY (T11.arm hg' (y.toNat : Int) (by omega)) rfl ?_
                    rintro v w15 ⟨rfl, A2, T11, hg', s15⟩
                    replace B2 := B2.go s15
                    refine op_neq rfl rfl rfl ?_
                    refine op_pick1 rfl rfl (.bool _) rfl ?_
                    refine op_pick0 rfl rfl (.bool _) rfl ?_
                    refine op_nil ?_
                    exact ⟨rfl, (), rfl, ⟨congrArg Value.bool (by simp_all), trivial⟩, ⟨_, T11, hg', B2⟩⟩
                  · intro h8
                    replace h8 := dec_f h8
                    refine op_skip rfl ?_
                    refine op_skip rfl ?_
                    refine op_skip rfl ?_
                    refine op_skip rfl ?_
                    refine op_skip rfl ?_
                    refine op_skip rfl ?_
                    refine op_skip rfl ?_
                    refine op_skip rfl ?_
                    refine op_pick0 rfl rfl (.bool _) rfl ?_
                    refine op_pick0 rfl rfl (.bool _) rfl ?_
                    refine op_nil ?_
                    exact ⟨rfl, (), rfl, ⟨congrArg Value.bool (by simp_all), trivial⟩, ⟨_, T11, hg', B2⟩⟩
                rintro - j196 w ⟨A2, T11, hg', B2⟩
                refine W_cond0 rfl ?_
                refine W_skip (at_then ?_)
                refine W_region ?_
                refine op_move rfl (.int _ _) rfl ?_
                refine op_add_i64 rfl rfl rfl (by omega) (by omega) ?_
                refine op_assign rfl (.int _ _) rfl ?_
                refine op_nil (at_block (at_then ?_))
                exact ⟨(bj2, nx + 1, A2, R', F7, G), rfl, ⟨rfl, rfl, trivial⟩, T11, hg', by dsimp only; omega, by dsimp only; omega, by dsimp only; omega, B2⟩
              · skip
                have h1L := appR_one hE0
                refine W_rseq ?_
                refine op_move rfl (.slice _ _ _) rfl ?_
                refine op_len rfl el_58 rfl ?_
                refine op_move rfl (.pointer _) rfl ?_
                refine op_nilCheck rfl rfl ?_
                refine op_fieldAddr rfl fo_81_0_JoY rfl ?_
                first | refine op_ldb rfl ag_58 rfl H (by first | exact at0 | exact at1 | exact at2 | exact at3 | exact at4 | exact at5 | exact at6 | exact at7 | exact at8 | exact at9) rfl ?_ | refine op_ld rfl ag_58 rfl (cell_bl hbr (0 + 0)) ?_
                refine op_len rfl el_58 rfl ?_
                refine op_sub_i64 rfl rfl rfl (by omega) (by omega) ?_
                rw [show (n15 : Int) - (R.L.length : Int) = 1 by omega]
                refine op_assign rfl (.int _ _) rfl ?_
                refine op_nil (at_then ?_)
                refine W_seq ?_
                refine W_rseq ?_
                refine op_move rfl (.int _ _) rfl ?_
                refine op_eql rfl rfl rfl ?_
                refine op_move rfl (.bool _) rfl ?_
                refine op_move rfl (.pointer _) rfl ?_
                refine op_move rfl (.slice _ _ _) rfl ?_
                refine op_call rfl ca_41_JoY (T11.rapp2 g.ok a9 c9 _ bt X9 (by rw [hbt]) (by rw [textB_len]; omega)) rfl ?_
                rintro v w13 ⟨rfl, G', T11, s13, Sx, hSx, hx13⟩
                replace B2 := B2.go s13
                rw [hE0]
                clear hbr SR
                obtain ⟨ar, cr, hbr, SR⟩ := T11.strs
                replace S15c := S15c.side hx13 (fun y hy => hG9 y (hSx y hy))
                refine op_neq rfl rfl rfl ?_
                refine op_pick1 rfl rfl (.bool _) rfl ?_
                refine op_move rfl (.bool _) rfl ?_
                refine op_move rfl (.int _ _) rfl ?_
                refine op_neq rfl rfl rfl ?_
                refine op_move rfl (.bool _) rfl ?_
                refine op_move rfl (.int _ _) rfl ?_
                refine op_neq rfl rfl rfl ?_
                refine op_pick1 rfl rfl (.bool _) rfl ?_
                refine op_pick0 rfl rfl (.bool _) rfl ?_
                refine op_move rfl (.bool _) rfl ?_
                refine op_move rfl (.slice _ _ _) rfl ?_
                refine op_move rfl (.pointer _) rfl ?_
                refine op_nilCheck rfl rfl ?_
                refine op_fieldAddr rfl fo_81_0_JoY rfl ?_
                first | refine op_ldb rfl ag_58 rfl H (by first | exact at0 | exact at1 | exact at2 | exact at3 | exact at4 | exact at5 | exact at6 | exact at7 | exact at8 | exact at9) rfl ?_ | refine op_ld rfl ag_58 rfl (cell_bl hbr (0 + 0)) ?_
                refine op_call rfl ca_44_JoY (same_ok S15c.strs SR hLen) rfl ?_
                rintro v w13 ⟨rfl, hx13⟩
                rw [show decide ((appR R bt).L = (appR R bt).L) = true from decide_eq_true rfl]
                replace B2 := B2.go (.call hx13)
                replace T11 := T11.call hx13
                refine op_not rfl rfl ?_
                refine op_pick0 rfl rfl (.bool _) rfl ?_
                refine op_nil (at_then ?_)
                refine W_cond0 rfl ?_
                refine W_skip (at_then ?_)
                refine W_rseq ?_
                refine op_move rfl (.pointer _) rfl ?_
                refine op_assign rfl (.pointer _) rfl ?_
                refine op_nil (at_then ?_)
                refine W_seq ?_
                refine W_rseq (Wops_join (α := Unit) 200867063970431176206637966749266931526627421880458831462400 (fun _ => [(196, .bool (false))]) (fun _ w' => ∃ A2, Jtwo w0 w' bd bj2 br A2 (jrK x.f (appR R bt) (appR R bt).L) (appR R bt) F7 G' ∧ Good (x.f + x.z) x.f A2 (appR R bt) ∧ BlF w' (Fj F7 bj2) G' b2 (Bl 70 x.enc)) rfl ?_ ?_)
                · refine op_move rfl (.pointer _) rfl ?_
                  refine op_move rfl (.pointer _) rfl ?_
                  refine op_call rfl ca_45_JoY (alike_ok T11 hg') rfl ?_
                  rintro v w14 ⟨rfl, hx14⟩
                  replace B2 := B2.go (.call hx14)
                  replace T11 := T11.call hx14
                  refine op_not rfl rfl ?_
                  refine op_move rfl (.bool _) rfl ?_
                  refine op_move rfl (.int _ _) rfl ?_
                  refine op_move rfl (.slice _ _ _) rfl ?_
                  refine op_len rfl el_23 rfl ?_
                  refine op_lss rfl rfl rfl ?_
                  refine op_move rfl (.bool _) rfl ?_
                  refine Wops_split 186 rfl ?_ ?_
                  · intro h9
                    replace h9 := dec_t h9
                    refine op_move rfl (.pointer _) rfl ?_
                    refine op_move rfl (.slice _ _ _) rfl ?_
                    refine op_move rfl (.int _ _) rfl ?_
                    first | refine op_indexRd RA rfl el_23 sz_5 rfl rfl (by omega) (by omega) (by first | rfl | omega) ?_ | refine op_indexRd RL rfl el_23 sz_5 rfl rfl (by omega) (by omega) (by first | rfl | omega) ?_ | refine op_indexRd RA rfl el_23 sz_5 rfl rfl (by omega) (by omega) (by first | rfl | omega) ?_ | refine op_indexRd RA rfl el_23 sz_5 rfl rfl (by omega) (by omega) (by first | rfl | omega) ?_ | refine op_indexAddr rfl el_23 sz_5 rfl rfl (by omega) (by omega) ?_
                    obtain ⟨y, hy⟩ := ha0 (i := nx) (by omega)
                    have hyl := y.toNat_lt
                    refine op_ld rfl ag_5 rfl ((RA.ext0 T11.one.own.ext).one (f := bv) hy) ?_
                    refine op_conv_i64 rfl rfl un_5 un_3 (by omega) (by omega) ?_
                    refine op_call rfl ca_20_JoY (T11.arm hg' (y.toNat : Int) (by omega)) rfl ?_
                    rintro v w15 ⟨rfl, A2, T11, hg', s15⟩
                    replace B2 := B2.go s15
                    refine op_neq rfl rfl rfl ?_
                    refine op_pick1 rfl rfl (.bool _) rfl ?_
                    refine op_pick0 rfl rfl (.bool _) rfl ?_
                    refine op_nil ?_
                    exact ⟨rfl, (), rfl, ⟨congrArg Value.bool (by simp_all), trivial⟩, ⟨_, T11, hg', B2⟩⟩
                  · intro h10
                    replace h10 := dec_f h10
                    refine op_skip rfl ?_
                    refine op_skip rfl ?_
                    refine op_skip rfl ?_
                    refine op_skip rfl ?_
                    refine op_skip rfl ?_
                    refine op_skip rfl ?_
                    refine op_skip rfl ?_
                    refine op_skip rfl ?_
                    refine op_pick0 rfl rfl (.bool _) rfl ?_
                    refine op_pick0 rfl rfl (.bool _) rfl ?_
                    refine op_nil ?_
                    exact ⟨rfl, (), rfl, ⟨congrArg Value.bool (by simp_all), trivial⟩, ⟨_, T11, hg', B2⟩⟩
                rintro - j196 w ⟨A2, T11, hg', B2⟩
                refine W_cond0 rfl ?_
                refine W_skip (at_then ?_)
                refine W_region ?_
                refine op_move rfl (.int _ _) rfl ?_
                refine op_add_i64 rfl rfl rfl (by omega) (by omega) ?_
                refine op_assign rfl (.int _ _) rfl ?_
                refine op_nil (at_block (at_then ?_))
                exact ⟨(bj2, nx + 1, A2, appR R bt, F7, G'), rfl, ⟨rfl, rfl, trivial⟩, T11, hg', by dsimp only; omega, by dsimp only; omega, by dsimp only; omega, B2⟩
        · rintro ⟨bj', nx', A', R', F', G'⟩ j7 w ⟨T, g, hnx, hq1, hq2, B2⟩; dsimp only at T g hnx hq1 hq2 B2; dsimp only
          refine W_region ?_
          refine op_move rfl (.int _ _) rfl ?_
          refine op_add_i64 rfl rfl rfl (by omega) (by omega) ?_
          refine op_assign rfl (.int _ _) rfl ?_
          refine op_nil (at_then ?_)
          exact ⟨(i + 1, bj', nx', A', R', F', G'), rfl, ⟨rfl, rfl, rfl, trivial⟩, ⟨by dsimp only; omega, T, g, by dsimp only; omega, hq1, hq2, B2⟩, by dsimp only; omega⟩
      · intro h2
        replace h2 := dec_f h2
        refine W_exit (exit_then (exit_then (exit_here (at_then ?_))))
        refine W_rseq ?_
        refine op_call rfl ca_37_JoY (works5_ok _) rfl ?_
        rintro v w3 ⟨rfl, hx3⟩
        refine op_assign rfl (.bool _) rfl ?_
        refine op_nil (at_then ?_)
        refine W_ret (leave1 (v := (.bool _)) rfl rfl rfl ?_)
        exact ⟨rfl, T.one.own.ext.trans hx3⟩

end Go.Proofs.YtkmbcpgnafmnpaaDoor

/- What the form reads of the cases of the laws of journals. -/
namespace Go.Proofs.YtkmbcpgnafmnpaaDoor
open Go.GV Go.ChangeShapes Go.WideShapes Go.ChangeAt Go.RowKit

theorem sjStruct : ∃ fs, Tryd.prog.underlying 73 = some (.struct fs) ∧ (List.range 5).map (fun i => fs[i]?.map fun f => (f.type, f.offset)) = [some (3, 0), some (24, 1), some (5, 2), some (4, 3), some (45, 4)] := ⟨_, Tryd.underlying73, by kernel_rfl⟩
theorem sjCells : Tryd.prog.cellsOf 73 = 5 := by kernel_rfl
theorem sjsCells : Tryd.prog.cellsOf 68 = 1 := by kernel_rfl
theorem csStruct : ∃ fs, Tryd.prog.underlying 70 = some (.struct fs) ∧ (List.range 5).map (fun i => fs[i]?.map fun f => (f.type, f.offset)) = [some (5, 0), some (5, 1), some (5, 2), some (22, 3), some (68, 4)] := ⟨_, Tryd.underlying70, by kernel_rfl⟩
theorem csCells : Tryd.prog.cellsOf 70 = 5 := by kernel_rfl

set_option maxRecDepth 100000 in
theorem dec_sj {H : Type} {enc : TypeId × Value → H} {w : World} {base : Nat} {spare : Nat → Bool} {held : Bool} : ∀ n cs y, DataW.trod enc Tryd.prog w base spare held n 73 cs = some y → Light Tryd.prog 73 y.1 → ∃ d : Sj, cs = d.enc ∧ d.Ok w := by
  intro n cs y h hL
  obtain ⟨fs, ht, hf⟩ := sjStruct
  have hl := trod_slen ht h
  rw [sjCells] at hl
  simp only [List.range, List.range.loop, List.map_cons, List.map_nil, List.cons.injEq, and_true] at hf
  obtain ⟨f0, f1, f2, f3, f4⟩ := hf
  obtain ⟨a, ha, _⟩ := fld_int ht h 0 0 f0 Tryd.underlying3
  obtain ⟨e, he, e1, e2⟩ := fld_int ht h 1 1 f1 Tryd.underlying24
  obtain ⟨f, hf, g1, g2⟩ := fld_int ht h 2 2 f2 Tryd.underlying5
  obtain ⟨b, hb⟩ := fld_bool ht h 3 3 f3 Tryd.underlying4
  obtain ⟨ga, gc, gl, hg, gR, gle, _, gw, gi⟩ := fld_slice ht h hL 4 4 f4 Tryd.underlying45 intsCells intCells (by decide) (fun n cs y h _ => dec_int Tryd.underlying3 n cs y h)
  obtain ⟨e, rfl, he2⟩ := nat_of (m := 65535) e1 e2
  obtain ⟨f, rfl, hf2⟩ := nat_of (m := 255) g1 g2
  rw [intBytes] at gw
  unfold reachBytes at gw
  refine ⟨⟨a, e, UInt8.ofNat f, b, ga, gc, gl⟩, ?_, ⟨gR, gle, by dsimp only; omega, by dsimp only; omega, fun i hi => gi i hi⟩⟩
  have hff : bv (UInt8.ofNat f) = .int .u8 (f : Int) := by
    have h9 : (UInt8.ofNat f).toNat = f := by rw [UInt8.toNat_ofNat']; omega
    rw [bv, h9]
  match cs, hl with
  | [_, _, _, _, _], _ =>
    simp at ha he hf hb hg
    simp [Sj.enc, hff, ha, he, hf, hb, hg]

set_option maxRecDepth 100000 in
theorem dec_cs {H : Type} {enc : TypeId × Value → H} {w : World} {base : Nat} {spare : Nat → Bool} {held : Bool} : ∀ n cs y, DataW.trod enc Tryd.prog w base spare held n 70 cs = some y → Light Tryd.prog 70 y.1 → ∃ d : Cs, cs = d.enc ∧ d.Ok w := by
  intro n cs y h hL
  obtain ⟨fs, ht, hf⟩ := csStruct
  have hl := trod_slen ht h
  rw [csCells] at hl
  simp only [List.range, List.range.loop, List.map_cons, List.map_nil, List.cons.injEq, and_true] at hf
  obtain ⟨f0, f1, f2, f3, f4⟩ := hf
  obtain ⟨a, ha, a1, a2⟩ := fld_int ht h 0 0 f0 Tryd.underlying5
  obtain ⟨b, hb, b1, b2⟩ := fld_int ht h 1 1 f1 Tryd.underlying5
  obtain ⟨c, hc, c1, c2⟩ := fld_int ht h 2 2 f2 Tryd.underlying5
  obtain ⟨e, he, e1, e2⟩ := fld_int ht h 3 3 f3 Tryd.underlying22
  obtain ⟨ga, gc, gl, hg, gR, gle, gm, _, gi⟩ := fld_slice ht h hL 4 4 f4 Tryd.underlying68 sjsCells sjCells (by decide) dec_sj
  obtain ⟨a, rfl, ha2⟩ := nat_of (m := 255) a1 a2
  obtain ⟨b, rfl, hb2⟩ := nat_of (m := 255) b1 b2
  obtain ⟨c, rfl, hc2⟩ := nat_of (m := 255) c1 c2
  obtain ⟨e, rfl, he2⟩ := nat_of (m := 18446744073709551615) e1 e2
  unfold maxLen at gm
  refine ⟨⟨a, b, c, e, ga, gc, gl⟩, ?_, ⟨gR, gi, by dsimp only; omega, ha2, hb2, hc2, he2⟩⟩
  match cs, hl with
  | [_, _, _, _, _], _ =>
    simp at ha hb hc he hg
    simp [Cs.enc, ha, hb, hc, he, hg]
set_option maxRecDepth 100000 in
theorem cs_of {H : Type} {enc : TypeId × Value → H} {w : World} {base b : Nat} {spare : Nat → Bool} {held : Bool} {v : Value} {d : DataW H} {ps : List MemPlace} (hv : Value.okWide Tryd.prog w .any b 70 v)
    (h : DataW.Trod enc Tryd.prog w base spare held 70 v d ps) (hL : Light Tryd.prog 70 d) : ∃ x : Cs, v = .agg x.enc.toArray ∧ x.Ok w := by
  obtain ⟨fs, ht, _⟩ := csStruct
  obtain ⟨cs, rfl, _⟩ := okWide_struct ht hv
  obtain ⟨fuel, hf⟩ := h
  obtain ⟨x, hx, hok⟩ := dec_cs fuel cs.toList (d, ps) (by simpa [Value.cells] using hf) hL
  exact ⟨x, by rw [← hx], hok⟩

end Go.Proofs.YtkmbcpgnafmnpaaDoor

/- JournalCrash: for every input the law answers true, and turns nothing. The tables that its row lists are premises, and tied to the text by its card. -/
namespace Go.Proofs.YtkmbcpgnafmnpaaDoor.journalCrash
open Go.GV Go.ChangeShapes Go.WideShapes Go.ChangeAt Go.RowKit

theorem laid_met (os : Os) : laidMet Tryd.prog Rows.journalCrashRow.laid ((laidWorld os).forCall (fun _ _ => 0) ⟨#[], #[.agg #[.int .u8 0, .int .u8 0, .int .u8 0, .int .u64 0, .slice none 0 0], .slice none 0 0], []⟩).memory :=
  laidMet_of_run' 8 (by kernel_rfl) (by kernel_rfl)
theorem reads (os : Os) {H : Type} (enc : TypeId × Value → H) : ∃ ds places, DataW.whole enc Tryd.prog ((laidWorld os).forCall (fun _ _ => 0) ⟨#[], #[.agg #[.int .u8 0, .int .u8 0, .int .u8 0, .int .u64 0, .slice none 0 0], .slice none 0 0], []⟩).memory Tryd.f10.params.toList Rows.journalCrashSpec.vars false (#[.agg #[.int .u8 0, .int .u8 0, .int .u8 0, .int .u64 0, .slice none 0 0], .slice none 0 0] : Array Value).toList 8 = some (ds, [], places) :=
  ⟨[.agg [.lit (.int .u8 0), .lit (.int .u8 0), .lit (.int .u8 0), .lit (.int .u64 0), .nil], .nil], [], by kernel_rfl⟩

set_option maxRecDepth 100000 in
theorem lifted (os : Os) (started : os.Started) (H : Type) (enc : TypeId × Value → H) (F : Stop.Interp) :
    ReturnsInHanded {} Tryd.checked os 10 .any ((OpenSpec.ofChange Rows.journalCrashSpec).preRow enc Tryd.prog Tryd.f10 Rows.journalCrashRow.domain false Rows.journalCrashRow.laid) (((OpenSpec.ofChange Rows.journalCrashSpec).at F).post enc Tryd.prog Tryd.f10 false true false false) := by
  obtain ⟨ds, places, hx⟩ := reads os enc
  refine returnsInHanded_of_row (C := Tryd.checked) (s := OpenSpec.ofChange Rows.journalCrashSpec) own started (by kernel_rfl) Tryd.func10
    (witness_row_at (enc := enc) (C := Tryd.checked) false (laidWorld os) #[.agg #[.int .u8 0, .int .u8 0, .int .u8 0, .int .u64 0, .slice none 0 0], .slice none 0 0] rfl (by kernel_rfl) (by kernel_rfl) (by kernel_rfl)
      (OpenSpec.preRow_of_cond 8 hx (by kernel_rfl) (fun k hk => by cases hk) (by kernel_rfl) (laid_met os))) ?_
  intro W base args ds gs before hval0 hW _ _ hLt _ _ _
  have hval : ∀ (j : Nat) t v, Tryd.f10.params[j]? = some t → args[j]? = some v → Value.okWide Tryd.prog W .any base t v := hval0
  have hW' := hW
  obtain ⟨p, q, hA0, hV, rfl, hfz, hnd⟩ := hW
  have hA : DataW.TrodAll enc Tryd.prog W 0 (fun _ => true) true Tryd.f10.params.toList args.toList ds p := hA0
  rw [Tryd.params10] at hA hval
  obtain ⟨v0, vs0, d0, ds0, p0, q0, hargs, rfl, rfl, h0, r0⟩ := trodAll_cons hA
  obtain ⟨v1, vs1, d1, ds1, p1, q1, rfl, rfl, rfl, h1, r1⟩ := trodAll_cons r0
  obtain ⟨rfl, rfl, rfl⟩ := trodAll_nil r1
  obtain rfl : args = #[v0, v1] := by cases args; simp_all
  have hL0 : Light Tryd.prog 70 d0 := light_of hLt (i := 0) rfl rfl
  obtain ⟨x0, rfl, X0⟩ := cs_of (hval 0 _ v0 rfl rfl) h0 hL0
  have hL1 : Light Tryd.prog 23 d1 := light_of hLt (i := 1) rfl rfl
  obtain ⟨a1, c1, l1, rfl, R1, hc1, _, hw1, _⟩ := rdw_of_T Tryd.underlying23 byteCells (by decide) (fun n cs y h _ => dec_byte n cs y h) (okWide_slice Tryd.underlying23 (hval 1 _ v1 rfl rfl)) h1 hL1
  rw [byteBytes] at hw1
  unfold reachBytes at hw1
  refine (crash5_ok x0 a1 c1 l1 W X0 R1).calls.mono ?_
  rintro e W' ⟨v, rfl, rfl, hx⟩
  exact ⟨_, rfl, law_post laidOut rfl (by kernel_rfl) rfl Tryd.underlying4 (fun ds h => match ds, h with | [_, _], _ => rfl) hW' hx⟩

theorem said : Rows.JournalCrashSaid :=
  OpenClaim.holds_of_cond 10 Tryd.f10 rfl rfl rfl rfl rfl rfl rfl ⟨rfl, rfl, rfl, rfl, rfl⟩ rfl rfl rfl rfl rfl (by kernel_rfl) Tryd.func10 (by kernel_rfl)
    (of_decide_eq_true (by kernel_rfl)) (by unfold Func.isWrapper; first | (rw [if_pos (by decide +kernel)]; kernel_rfl) | (rw [if_neg (by decide +kernel)]; exact ⟨rfl, rfl⟩))
    (fun os started H enc _ F => by rw [OpenClaim.pre_eq_preRow]; exact lifted os started H enc F)

theorem plain (f : FuncId) (fn : Func) (hf : Tryd.pinned.checked.prog.funcNamed "gablet/gabletlaw05.JournalCrash" = some f) (hfn : Tryd.pinned.checked.prog.funcs[f]? = some fn) :
    false = Tryd.pinned.checked.prog.looks [] ∧ ∀ (j : Nat) t, fn.params[j]? = some t → Tryd.pinned.checked.prog.wantsStandIn t = false := by
  obtain rfl : f = 10 := Option.some.inj ((show Tryd.prog.funcNamed "gablet/gabletlaw05.JournalCrash" = some 10 by kernel_rfl).symm.trans hf) |>.symm
  obtain rfl : fn = Tryd.f10 := (Option.some.inj (Tryd.func10.symm.trans hfn)).symm
  refine ⟨by kernel_rfl, fun j t ht => ?_⟩
  rw [Tryd.params10] at ht
  have hm := Array.mem_of_getElem? ht
  exact List.all_eq_true.1 (show (Tryd.f10.params.toList.all fun t => !Tryd.prog.wantsStandIn t) = true by kernel_rfl) t (by rw [Tryd.params10]; simpa using hm) |> fun h => (Bool.not_eq_true' _).mp h

theorem card : Rows.JournalCrashCardSaid :=
  Claim7.holds_tied_plain_at .later [] _ _ _ _ said (fun _ h => by cases h) (by kernel_rfl) (fun _ h => by cases h) journalCrash_row_tie rfl ⟨rfl, rfl⟩ (by kernel_rfl) rfl plain (by kernel_rfl)
end Go.Proofs.YtkmbcpgnafmnpaaDoor.journalCrash
namespace Go.Proofs.YtkmbcpgnafmnpaaDoor
theorem journalCrash_holds : Rows.JournalCrashCardSaid := journalCrash.card
#print axioms journalCrash_holds
end Go.Proofs.YtkmbcpgnafmnpaaDoor
