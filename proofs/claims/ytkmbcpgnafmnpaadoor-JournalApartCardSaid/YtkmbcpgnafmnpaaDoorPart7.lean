/- Part 7 of the proof. The last text: JournalApart: for every input the law answers true, and turns nothing. The tables that its row lists are premises, and tied to the text by its card. -/
import Derived.Test.YtkmbcpgnafmnpaaDoorPart6
/- JournalApart: the walk. -/
namespace Go.Proofs.YtkmbcpgnafmnpaaDoor
open Go.GV
theorem ag_24_JoA2 : aggB Tryd.prog 24 = some false := by kernel_rfl
theorem ag_68_JoA2 : aggB Tryd.prog 68 = some false := by kernel_rfl
theorem ag_70_JoA2 : aggB Tryd.prog 70 = some true := by kernel_rfl
theorem ca_12_JoA2 : callable Tryd.prog 12 = true := by kernel_rfl
theorem ca_14_JoA2 : callable Tryd.prog 14 = true := by kernel_rfl
theorem ca_15_JoA2 : callable Tryd.prog 15 = true := by kernel_rfl
theorem ca_29_JoA2 : callable Tryd.prog 29 = true := by kernel_rfl
theorem ca_32_JoA2 : callable Tryd.prog 32 = true := by kernel_rfl
theorem ca_33_JoA2 : callable Tryd.prog 33 = true := by kernel_rfl
theorem ca_37_JoA2 : callable Tryd.prog 37 = true := by kernel_rfl
theorem ca_38_JoA2 : callable Tryd.prog 38 = true := by kernel_rfl
theorem ca_39_JoA2 : callable Tryd.prog 39 = true := by kernel_rfl
theorem el_68_JoA2 : elemT Tryd.prog 68 = some 73 := by kernel_rfl
theorem fo_70_0_JoA2 : fieldO Tryd.prog 70 0 = some 0 := by kernel_rfl
theorem fo_70_1_JoA2 : fieldO Tryd.prog 70 1 = some 1 := by kernel_rfl
theorem fo_70_2_JoA2 : fieldO Tryd.prog 70 2 = some 2 := by kernel_rfl
theorem fo_70_3_JoA2 : fieldO Tryd.prog 70 3 = some 3 := by kernel_rfl
theorem fo_70_4_JoA2 : fieldO Tryd.prog 70 4 = some 4 := by kernel_rfl
theorem fo_73_0_JoA2 : fieldO Tryd.prog 73 0 = some 0 := by kernel_rfl
theorem fo_73_1_JoA2 : fieldO Tryd.prog 73 1 = some 1 := by kernel_rfl
theorem fo_73_2_JoA2 : fieldO Tryd.prog 73 2 = some 2 := by kernel_rfl
theorem sz_70_JoA2 : tsize Tryd.prog 70 = some 5 := by kernel_rfl
theorem sz_73_JoA2 : tsize Tryd.prog 73 = some 5 := by kernel_rfl
theorem un_24_JoA2 : Tryd.prog.underlying 24 = some (.int .u16) := by kernel_rfl
theorem un_57_JoA2 : Tryd.prog.underlying 57 = some (.pointer 108) := by kernel_rfl
attribute [local irreducible] Wops W Wq Wt

def Cs.f1 (x : Cs) : Nat := 1 + x.frm % 20

set_option maxRecDepth 20000 in
set_option maxHeartbeats 8000000 in
theorem apart5_ok (x : Cs) (w : World) (hx : x.Ok w) : Ret Tryd.prog 8 #[.agg x.enc.toArray] w fun v w' => v = .bool true ∧ Ext [] w w' := by
  obtain ⟨w0, rfl⟩ : ∃ w0, w0 = w := ⟨_, rfl⟩
  have H := Ctx.start w0 []
  refine ret_of_W (fn := Tryd.f8) Tryd.func8 rfl [.agg x.enc.toArray] rfl (by kernel_rfl) ?_
  refine W_rseq ?_
  refine op_box rfl x.enc (.agg _) rfl rfl H ?_
  rintro b1 w - H
  refine op_assign rfl (.bool _) rfl ?_
  refine op_nil (at_then ?_)
  refine W_seq ?_
  refine W_rseq ?_
  refine op_ldbN rfl ag_70_JoA2 sz_70_JoA2 rfl H (by first | exact at0 | exact at1 | exact at2 | exact at3 | exact at4 | exact at5 | exact at6 | exact at7 | exact at8 | exact at9) rfl ?_
  refine op_call rfl ca_38_JoA2 (few_ok x _ (hx.ext0 H.ext)) rfl ?_
  rintro v w ⟨rfl, hx17⟩
  replace H := H.call hx17
  refine op_not rfl rfl ?_
  refine op_nil (at_then ?_)
  refine W_cond _ rfl ?_ ?_
  · intro h1
    replace h1 := nvar_t h1
    refine W_rseq ?_
    refine op_call rfl ca_37_JoA2 (works5_ok _) rfl ?_
    rintro v w ⟨rfl, hxw⟩
    refine op_assign rfl (.bool _) rfl ?_
    refine op_nil (at_then ?_)
    refine W_ret (ret_then (leave1 (v := (.bool _)) rfl rfl rfl ?_))
    exact ⟨rfl, H.ext.trans hxw⟩
  · intro h1
    replace h1 := nvar_f h1
    obtain ⟨hl60, hsq, hp100⟩ := Cs.few_true (x := x) (by cases hf : x.few <;> simp_all)
    obtain ⟨wb, rfl⟩ : ∃ wb, wb = w := ⟨_, rfl⟩
    have h1f := hx.frm; have h2f := hx.size; have h3f := hx.at'
    have hz : x.z = 2 + x.size % 30 := rfl
    have hf : x.f1 = 1 + x.frm % 20 := rfl
    have hp : x.p = x.at' % x.z := rfl
    have hpl := Nat.mod_lt x.at' (show 0 < x.z by omega)
    have hb1 := H.get at0
    have hwb := H.ext
    have RL := hx.rl.ext0 hwb
    have hcase : ∀ {z : World}, Ext [] wb z → z.heap[b1]? = some (Bl 70 x.enc) := fun {z} h => by rw [h.block b1 (heap_lt hb1) (by simp)]; exact hb1
    have H : True := trivial
    refine W_skip (at_then ?_)
    refine W_rseq ?_
    refine op_call rfl ca_12_JoA2 (own_new (n := 60) (by decide) (by decide) _) rfl ?_
    rintro v w ⟨bd, F0, rfl, O⟩
    rw [show (60 : Int).toNat = 60 from rfl] at O
    refine op_move rfl (.tuple _) rfl ?_
    refine op_extract rfl rfl rfl ?_
    refine op_extract rfl rfl rfl ?_
    refine op_assign rfl (.pointer _) rfl ?_
    refine op_assign rfl (.int _ _) rfl ?_
    refine op_nil (at_then ?_)
    refine W_seq ?_
    refine W_rseq ?_
    refine op_move rfl (.int _ _) rfl ?_
    refine op_neq rfl rfl rfl ?_
    refine op_move rfl (.bool _) rfl ?_
    refine op_move rfl (.pointer _) rfl ?_
    refine op_eqlptr rfl un_27 rfl ?_
    refine op_pick0 rfl rfl (.bool _) rfl ?_
    refine op_nil (at_then ?_)
    refine W_cond0 rfl ?_
    refine W_skip (at_then ?_)
    refine W_rseq ?_
    refine op_fieldAddr rfl fo_70_0_JoA2 rfl ?_
    first | refine op_ldb rfl ag_5 rfl H (by first | exact at0 | exact at1 | exact at2 | exact at3 | exact at4 | exact at5 | exact at6 | exact at7 | exact at8 | exact at9) rfl ?_ | refine op_ld rfl ag_5 rfl (cell_bl (hcase O.ext) (0 + 0)) ?_ | refine op_ld rfl ag_5 rfl (cell_bl (hcase O.ext) (0 + 1)) ?_
    refine op_conv_i64 rfl rfl un_5 un_3 (by omega) (by omega) ?_
    refine op_rem rfl rfl rfl (by omega) (by omega) ?_
    refine op_add_i64 rfl rfl rfl (by omega) (by omega) ?_
    rw [show (1 : Int) + (x.frm : Int) % 20 = (x.f1 : Int) by omega]
    refine op_assign rfl (.int _ _) rfl ?_
    refine op_nil (at_then ?_)
    refine W_rseq ?_
    refine op_fieldAddr rfl fo_70_1_JoA2 rfl ?_
    first | refine op_ldb rfl ag_5 rfl H (by first | exact at0 | exact at1 | exact at2 | exact at3 | exact at4 | exact at5 | exact at6 | exact at7 | exact at8 | exact at9) rfl ?_ | refine op_ld rfl ag_5 rfl (cell_bl (hcase O.ext) (0 + 0)) ?_ | refine op_ld rfl ag_5 rfl (cell_bl (hcase O.ext) (0 + 1)) ?_
    refine op_conv_i64 rfl rfl un_5 un_3 (by omega) (by omega) ?_
    refine op_rem rfl rfl rfl (by omega) (by omega) ?_
    refine op_add_i64 rfl rfl rfl (by omega) (by omega) ?_
    rw [show (2 : Int) + (x.size : Int) % 30 = (x.z : Int) by omega]
    refine op_assign rfl (.int _ _) rfl ?_
    refine op_nil (at_then ?_)
    refine W_seq ?_
    refine W_rseq ?_
    refine op_assign rfl (.int _ _) rfl ?_
    refine op_nil (at_then ?_)
    refine W_block ?_
    refine W_loop 36027697507336580 (α := Nat × Dev × (Nat → Prop)) (fun s => [(7, .int .i64 (s.1 : Int))]) (fun s w' => s.1 ≤ 60 ∧ Own wb w' bd s.2.1 s.2.2 ∧ s.2.1.on = true ∧ s.2.1.left = -1 ∧ s.2.1.B.length = 60 ∧ Few s.2.1 s.1 ∧ ∀ p, p < s.1 → at' s.2.1 p = fillB p) (fun s => 60 - s.1) (0, newD 60, F0) rfl ?_ ?_ ?_
    · exact ⟨rfl, trivial⟩
    · exact ⟨Nat.zero_le _, O, rfl, rfl, List.length_replicate, new_few _, fun p hp => absurd hp (Nat.not_lt_zero _)⟩
    · clear O
      rintro ⟨k, A, F⟩ j w ⟨hk, O, hon, hleft, hlen, hfew, hat⟩; dsimp only at hk O hon hleft hlen hfew hat; dsimp only
      refine W_seq ?_
      refine W_rseq ?_
      refine op_move rfl (.int _ _) rfl ?_
      refine op_lss rfl rfl rfl ?_
      refine op_nil (at_then ?_)
      refine W_cond _ rfl ?_ ?_
      · intro h2
        replace h2 := dec_t h2
        have H := Ctx.start w []
        have hwsz := O.own
        refine W_skip (at_then ?_)
        refine W_seq ?_
        refine W_block ?_
        refine W_rseq ?_
        refine op_make rfl el_23 sz_5 by_5 zc_5 rfl rfl (by omega) (by omega) (by omega) (by omega) H ?_
        rintro b44 w - H
        refine op_assign rfl (.slice _ _ _) rfl ?_
        refine op_nil (at_then ?_)
        refine W_rseq ?_
        refine op_move rfl (.slice _ _ _) rfl ?_
        refine op_move rfl (.int _ _) rfl ?_
        refine op_add_i64 rfl rfl rfl (by omega) (by omega) ?_
        refine op_conv_u8 rfl rfl un_3 un_5 (by omega) (by omega) ?_
        refine op_indexAddr rfl el_23 sz_5 rfl rfl (by omega) (by omega) ?_
        refine op_stb (.int _ _) rfl sz_5 rfl rfl rfl H (by first | exact at0 | exact at1 | exact at2 | exact at3 | exact at4 | exact at5 | exact at6 | exact at7 | exact at8 | exact at9) (by first | decide | (simp; done) | (simp; omega)) ?_
        rintro w H
        refine op_nil (at_then ?_)
        have X : Rd w (some ⟨b44, 0, none⟩) 1 B8 (fillB k) := rd_blB (by rw [H.get at0]; exact congrArg (fun l => some (Bl _ l)) (fillB_vals k (by omega)))
        have hge := (H.own _ (List.mem_cons_self ..)).elim (fun h => by cases h) id
        replace O := O.call H.ext
        have hwf := write_free hon hleft (k := k) (by omega) (fillB_len k)
        refine W_rseq ?_
        refine op_move rfl (.pointer _) rfl ?_
        refine op_move rfl (.int _ _) rfl ?_
        refine op_move rfl (.slice _ _ _) rfl ?_
        refine op_call rfl ca_15_JoA2 (own_write2 O (k : Int) (some ⟨b44, 0, none⟩) 512 512 (fillB k) ⟨X, .inr fun h => by have := (hwsz _ h).2; dsimp only [adr] at this; omega⟩ (fillB_len k) (by decide) hfew (by omega)) rfl ?_
        rintro v w2 ⟨rfl, F', O2, -⟩
        rw [hwf.1]
        rw [hwf.2] at O2
        refine op_neq rfl rfl rfl ?_
        refine op_nil (at_then ?_)
        refine W_cond0 rfl ?_
        refine W_skip (at_block (at_then ?_))
        refine W_region ?_
        refine op_move rfl (.int _ _) rfl ?_
        refine op_add_i64 rfl rfl rfl (by omega) (by omega) ?_
        refine op_assign rfl (.int _ _) rfl ?_
        refine op_nil (at_then ?_)
        refine ⟨(k + 1, addW A k (fillB k), F'), rfl, ⟨rfl, trivial⟩, ⟨by dsimp only; omega, O2, hon, hleft, by dsimp only; simp [addW, hlen], ?_, fun p hp => ?_⟩, by dsimp only; omega⟩
        · have h9 := write_few hfew (k : Int) (fillB k)
          rw [hwf.2] at h9
          exact h9
        · dsimp only at hp ⊢
          rw [addW_at A k _ (by omega)]
          split
          · rename_i he; rw [he]
          · exact hat p (by omega)
      · intro h2
        replace h2 := dec_f h2
        have hk60 : k = 60 := by omega
        subst hk60
        have hr : rightJ A.B.length x.f1 x.z x.p ((x.seq + 1 : Nat)) = true := by
          simp only [rightJ, Bool.and_eq_true, decide_eq_true_eq, hlen]
          omega
        have hraw : bodyOf (at' A ((jr0 x.f1 x.z x.p (x.seq + 1)).place 0)) = [] := by
          have hm := Nat.mod_lt x.p (show 0 < x.z by omega)
          have hpl : (jr0 x.f1 x.z x.p (x.seq + 1)).place 0 = x.f1 + (x.p + 0) % x.z := by
            simp only [Jr.place, jr0, Int.toNat_natCast]
          rw [hpl, hat _ (by rw [Nat.add_zero]; omega), body_raw]
        refine W_exit (exit_then (exit_then (exit_here (at_then ?_))))
        refine W_sseqz [([0, 1, 2, 3, 4, 5, 6, 7, 8, 9, 10], 11), ([12, 13, 14, 15, 16, 17], 18)] (fun z => Ext [] wb z) [] mixed (by kernel_rfl) (O.ext.trans (Ext.drew [] w)) ?_
        refine seg_cons rfl rfl ?_
        refine t_move rfl (.pointer _) rfl ?_
        refine t_move rfl (.int _ _) rfl ?_
        refine t_move rfl (.int _ _) rfl ?_
        refine t_fieldAddr rfl fo_70_2_JoA2 rfl ?_
        first | refine t_ldb rfl ag_5 rfl (fun _ _ => Ctx.start _ []) (by first | exact at0 | exact at1 | exact at2 | exact at3 | exact at4 | exact at5 | exact at6 | exact at7 | exact at8 | exact at9) rfl ?_ | refine t_ld rfl ag_5 rfl (fun _ hx => cell_bl (hcase O.ext) (0 + 0)) ?_ | refine t_ld rfl ag_5 rfl (fun _ hx => cell_bl (hcase O.ext) (0 + 1)) ?_ | refine t_ld rfl ag_5 rfl (fun _ hx => cell_bl (hcase hx) (0 + 2)) ?_ | refine t_ld rfl ag_5 rfl (fun _ hx => cell_bl (hcase hx) (0 + 3)) ?_
        refine t_conv_i64 rfl rfl un_5 un_3 (by omega) (by omega) ?_
        refine t_move rfl (.int _ _) rfl ?_
        refine t_rem rfl rfl rfl (by omega) (by omega) ?_
        rw [show (x.at' : Int) % (x.z : Int) = (x.p : Int) by rw [hp, Int.natCast_emod]]
        refine t_fieldAddr rfl fo_70_3_JoA2 rfl ?_
        first | refine t_ldb rfl ag_22 rfl (fun _ _ => Ctx.start _ []) (by first | exact at0 | exact at1 | exact at2 | exact at3 | exact at4 | exact at5 | exact at6 | exact at7 | exact at8 | exact at9) rfl ?_ | refine t_ld rfl ag_22 rfl (fun _ hx => cell_bl (hcase O.ext) (0 + 0)) ?_ | refine t_ld rfl ag_22 rfl (fun _ hx => cell_bl (hcase O.ext) (0 + 1)) ?_ | refine t_ld rfl ag_22 rfl (fun _ hx => cell_bl (hcase hx) (0 + 2)) ?_ | refine t_ld rfl ag_22 rfl (fun _ hx => cell_bl (hcase hx) (0 + 3)) ?_
        refine t_add_u64 rfl rfl rfl (by omega) (by omega) ?_
        rw [show (x.seq : Int) + 1 = ((x.seq + 1 : Nat) : Int) by omega]
        refine t_nil ?_
        skip
        refine op_call rfl ca_29_JoA2 (jone_openraw (O.call (Ext.drew [] w)) x.f1 x.z x.p (x.seq + 1) hr hon hraw hfew (by decide)) rfl ?_
        rintro v w2 ⟨bj, a67, c67, rfl, T⟩
        refine op_nil (at_seg (T.own.ext) ?_)
        refine seg_cons rfl rfl ?_
        refine t_move rfl (.tuple _) rfl ?_
        refine t_extract rfl rfl rfl ?_
        refine t_extract rfl rfl rfl ?_
        refine t_extract rfl rfl rfl ?_
        refine t_assign rfl (.pointer _) rfl ?_
        refine t_assign rfl (.slice _ _ _) rfl ?_
        refine t_nil ?_
        refine op_assign rfl (.int _ _) rfl ?_
        refine op_nil (at_seg (T.own.ext) ?_)
        refine seg_nil ?_
        refine W_seq ?_
        refine W_rseq ?_
        refine op_move rfl (.int _ _) rfl ?_
        refine op_neq rfl rfl rfl ?_
        refine op_move rfl (.bool _) rfl ?_
        refine op_move rfl (.pointer _) rfl ?_
        refine op_eqlptr rfl un_57_JoA2 rfl ?_
        refine op_pick0 rfl rfl (.bool _) rfl ?_
        refine op_move rfl (.bool _) rfl ?_
        refine op_move rfl (.slice _ _ _) rfl ?_
        refine op_len rfl el_58 rfl ?_
        refine op_neq rfl rfl rfl ?_
        refine op_pick0 rfl rfl (.bool _) rfl ?_
        refine op_nil (at_then ?_)
        refine W_cond0 rfl ?_
        refine W_skip (at_then ?_)
        refine W_seq ?_
        refine W_rseq ?_
        refine op_assign rfl (.int _ _) rfl ?_
        refine op_nil (at_then ?_)
        refine W_block ?_
        refine W_loop 41538374863442917749785453934940160 (α := Nat × Dev × Jr × (Nat → Prop)) (fun s => [(12, .int .i64 (s.1 : Int))]) (fun s w' => s.1 ≤ x.l.length ∧ Jone wb w' bd bj s.2.1 s.2.2.1 s.2.2.2 ∧ s.2.2.1.Ok ∧ s.2.2.1.frm = x.f1 ∧ s.2.2.1.size = x.z ∧ s.2.2.1.seq ≤ x.seq + 1 + s.1 ∧ Out x.f1 x.z A s.2.1 ∧ Few s.2.1 (60 + 4002 * s.1)) (fun s => x.l.length - s.1) (0, A, jr0 x.f1 x.z x.p (x.seq + 1), F) rfl ?_ ?_ ?_
        · exact ⟨rfl, trivial⟩
        · refine ⟨Nat.zero_le _, T, ?_, by simp [jr0], by simp [jr0], Nat.le_refl _, .refl hon hleft, hfew⟩
          refine ⟨?_, ?_, ?_, ?_, ?_⟩ <;> simp only [jr0] <;> omega
        · clear T
          rintro ⟨i, A', J, F'⟩ j w ⟨hi, T, hJ, hJf, hJz, hJq, hout, hfw⟩; dsimp only at hi T hJ hJf hJz hJq hout hfw; dsimp only
          refine W_seq ?_
          refine W_rseq ?_
          refine op_move rfl (.int _ _) rfl ?_
          refine op_fieldAddr rfl fo_70_4_JoA2 rfl ?_
          first | refine op_ldb rfl ag_68_JoA2 rfl H (by first | exact at0 | exact at1 | exact at2 | exact at3 | exact at4 | exact at5 | exact at6 | exact at7 | exact at8 | exact at9) rfl ?_ | refine op_ld rfl ag_68_JoA2 rfl (cell_bl (hcase T.own.ext) (0 + 4)) ?_
          refine op_len rfl el_68_JoA2 rfl ?_
          refine op_lss rfl rfl rfl ?_
          refine op_nil (at_then ?_)
          refine W_cond _ rfl ?_ ?_
          · intro h3
            replace h3 := dec_t h3
            obtain ⟨s, hs⟩ := get_some (l := x.l) (i := i) (by omega)
            have hos := hx.steps s (List.mem_of_getElem? hs)
            have hsn := hos.n
            refine W_skip (at_then ?_)
            refine W_seq ?_
            refine W_block ?_
            refine W_rseq ?_
            refine op_fieldAddr rfl fo_70_4_JoA2 rfl ?_
            first | refine op_ldb rfl ag_68_JoA2 rfl H (by first | exact at0 | exact at1 | exact at2 | exact at3 | exact at4 | exact at5 | exact at6 | exact at7 | exact at8 | exact at9) rfl ?_ | refine op_ld rfl ag_68_JoA2 rfl (cell_bl (hcase T.own.ext) (0 + 4)) ?_ | refine op_ld rfl ag_68_JoA2 rfl ((RL.ext0 T.own.ext).fld hs rfl (j := 0) rfl) ?_
            refine op_move rfl (.int _ _) rfl ?_
            first | refine op_indexRd RL rfl el_68_JoA2 sz_73_JoA2 rfl rfl (by omega) (by omega) (by first | rfl | omega) ?_ | refine op_indexAddr rfl el_68_JoA2 sz_73_JoA2 rfl rfl (by omega) (by omega) ?_
            refine op_fieldAddr rfl fo_73_0_JoA2 rfl ?_
            first | refine op_ldb rfl ag_3 rfl H (by first | exact at0 | exact at1 | exact at2 | exact at3 | exact at4 | exact at5 | exact at6 | exact at7 | exact at8 | exact at9) rfl ?_ | refine op_ld rfl ag_3 rfl (cell_bl (hcase T.own.ext) (0 + 4)) ?_ | refine op_ld rfl ag_3 rfl ((RL.ext0 T.own.ext).fld hs rfl (j := 0) rfl) ?_
            refine op_eql rfl rfl rfl ?_
            refine op_nil (at_then ?_)
            refine W_cond _ rfl ?_ ?_
            · intro k1
              replace k1 := dec_t k1
              refine W_region ?_
              refine op_move rfl (.pointer _) rfl ?_
              refine op_call rfl ca_33_JoA2 (jone_forget2 T hJ) rfl ?_
              rintro v w3 ⟨e, J', rfl, T3, hJ', hf', hz', hq'⟩
              refine op_nil (at_block (at_then ?_))
              refine W_region ?_
              refine op_move rfl (.int _ _) rfl ?_
              refine op_add_i64 rfl rfl rfl (by omega) (by omega) ?_
              refine op_assign rfl (.int _ _) rfl ?_
              refine op_nil (at_then ?_)
              exact ⟨(i + 1, A', J', F'), rfl, ⟨rfl, trivial⟩, ⟨by dsimp only; omega, T3, hJ', hf'.trans hJf, hz'.trans hJz, by dsimp only; omega, hout, hfw.mono (by omega)⟩, by dsimp only; omega⟩
            · intro k1
              replace k1 := dec_f k1
              have hJs := hJ.q
              refine W_segz [([0, 1, 2, 3, 4, 5, 6, 7, 8, 9, 10, 11, 12, 13, 14], 15), ([], 16)] (fun z => Ext [] wb z) [] mixed (by kernel_rfl) (T.own.ext.trans (Ext.drew [] w)) ?_
              refine seg_cons rfl rfl ?_
              refine t_move rfl (.pointer _) rfl ?_
              refine t_fieldAddr rfl fo_70_4_JoA2 rfl ?_
              first | refine t_ldb rfl ag_68_JoA2 rfl (fun _ _ => Ctx.start _ []) (by first | exact at0 | exact at1 | exact at2 | exact at3 | exact at4 | exact at5 | exact at6 | exact at7 | exact at8 | exact at9) rfl ?_ | refine t_ld rfl ag_68_JoA2 rfl (fun _ hx => cell_bl (hcase hx) (0 + 4)) ?_ | refine t_ld rfl ag_68_JoA2 rfl (fun _ hx => (RL.ext0 hx).fld hs rfl (j := 1) rfl) ?_ | refine t_ld rfl ag_68_JoA2 rfl (fun _ hx => (RL.ext0 hx).fld hs rfl (j := 2) rfl) ?_
              refine t_move rfl (.int _ _) rfl ?_
              first | refine t_indexRd RL rfl el_68_JoA2 sz_73_JoA2 rfl rfl (by omega) (by omega) (by first | rfl | omega) ?_ | refine t_indexAddr rfl el_68_JoA2 sz_73_JoA2 rfl rfl (by omega) (by omega) ?_
              refine t_fieldAddr rfl fo_73_1_JoA2 rfl ?_
              first | refine t_ldb rfl ag_24_JoA2 rfl (fun _ _ => Ctx.start _ []) (by first | exact at0 | exact at1 | exact at2 | exact at3 | exact at4 | exact at5 | exact at6 | exact at7 | exact at8 | exact at9) rfl ?_ | refine t_ld rfl ag_24_JoA2 rfl (fun _ hx => cell_bl (hcase hx) (0 + 4)) ?_ | refine t_ld rfl ag_24_JoA2 rfl (fun _ hx => (RL.ext0 hx).fld hs rfl (j := 1) rfl) ?_ | refine t_ld rfl ag_24_JoA2 rfl (fun _ hx => (RL.ext0 hx).fld hs rfl (j := 2) rfl) ?_
              refine t_conv_i64 rfl rfl un_24_JoA2 un_3 (by omega) (by omega) ?_
              refine t_rem rfl rfl rfl (by omega) (by omega) ?_
              rw [show (s.n : Int) % 4000 = ((s.n % 4000 : Nat) : Int) by omega]
              refine t_fieldAddr rfl fo_70_4_JoA2 rfl ?_
              first | refine t_ldb rfl ag_68_JoA2 rfl (fun _ _ => Ctx.start _ []) (by first | exact at0 | exact at1 | exact at2 | exact at3 | exact at4 | exact at5 | exact at6 | exact at7 | exact at8 | exact at9) rfl ?_ | refine t_ld rfl ag_68_JoA2 rfl (fun _ hx => cell_bl (hcase hx) (0 + 4)) ?_ | refine t_ld rfl ag_68_JoA2 rfl (fun _ hx => (RL.ext0 hx).fld hs rfl (j := 1) rfl) ?_ | refine t_ld rfl ag_68_JoA2 rfl (fun _ hx => (RL.ext0 hx).fld hs rfl (j := 2) rfl) ?_
              refine t_move rfl (.int _ _) rfl ?_
              first | refine t_indexRd RL rfl el_68_JoA2 sz_73_JoA2 rfl rfl (by omega) (by omega) (by first | rfl | omega) ?_ | refine t_indexAddr rfl el_68_JoA2 sz_73_JoA2 rfl rfl (by omega) (by omega) ?_
              refine t_fieldAddr rfl fo_73_2_JoA2 rfl ?_
              first | refine t_ldb rfl ag_5 rfl (fun _ _ => Ctx.start _ []) (by first | exact at0 | exact at1 | exact at2 | exact at3 | exact at4 | exact at5 | exact at6 | exact at7 | exact at8 | exact at9) rfl ?_ | refine t_ld rfl ag_5 rfl (fun _ hx => cell_bl (hcase hx) (0 + 4)) ?_ | refine t_ld rfl ag_5 rfl (fun _ hx => (RL.ext0 hx).fld hs rfl (j := 1) rfl) ?_ | refine t_ld rfl ag_5 rfl (fun _ hx => (RL.ext0 hx).fld hs rfl (j := 2) rfl) ?_
              refine t_nil ?_
              skip
              refine op_call rfl ca_39_JoA2 (text_ok (s.n % 4000) (by omega) s.c _) rfl ?_
              rintro v w3 FT
              obtain ⟨a9, c9, rfl, R9, hc9, hn9⟩ := newB_text FT
              have hx3 := (Ext.drew [] w).trans FT.ext
              have T3 := T.call hx3
              refine op_nil (at_seg (T3.own.ext) ?_)
              refine seg_cons rfl rfl ?_
              refine t_nil ?_
              refine op_call rfl ca_32_JoA2 (jone_append2 T3 hJ a9 c9 _ _ R9 rfl (by rw [textB_len]; omega) hc9 (T.new R9 hn9) hfw (by omega)) rfl ?_
              rintro v w4 ⟨e, rfl, F4, T4⟩
              refine op_nil (at_seg (T4.own.ext) ?_)
              refine seg_nil ?_
              refine at_block (at_then ?_)
              refine W_region ?_
              refine op_move rfl (.int _ _) rfl ?_
              refine op_add_i64 rfl rfl rfl (by omega) (by omega) ?_
              refine op_assign rfl (.int _ _) rfl ?_
              refine op_nil (at_then ?_)
              have hao := appJ_ok (A := A') hJ (textB (s.n % 4000) s.c) (by omega)
              refine ⟨(i + 1, appD A' J (textB (s.n % 4000) s.c), appJ A' J (textB (s.n % 4000) s.c), F4), rfl, ⟨rfl, trivial⟩, ⟨by dsimp only; omega, T4, hao.1, hao.2.1.trans hJf, hao.2.2.1.trans hJz, Nat.le_trans hao.2.2.2 (by dsimp only; omega), hout.trans ?_, (appD_few hfw).mono ?_⟩, by dsimp only; omega⟩
              · have h9 := appD_out hout.on hout.left hJ (textB (s.n % 4000) s.c)
                rw [hJf, hJz] at h9
                exact h9
              · have := blk_le (textB (s.n % 4000) s.c).length
                rw [textB_len] at this
                rw [textB_len]; omega
          · intro h3
            replace h3 := dec_f h3
            refine W_exit (exit_then (exit_then (exit_here (at_then ?_))))
            refine W_seq ?_
            refine W_rseq ?_
            refine op_assign rfl (.int _ _) rfl ?_
            refine op_nil (at_then ?_)
            refine W_block ?_
            refine W_loop 730750818665409920726974137737113265857332568068 (α := Nat) (fun k => [(13, .int .i64 (k : Int))]) (fun k w' => k ≤ 60 ∧ Own wb w' bd A' F') (fun k => 60 - k) 0 rfl ?_ ?_ ?_
            · exact ⟨rfl, trivial⟩
            · exact ⟨Nat.zero_le _, T.own⟩
            · clear T
              rintro k j w ⟨hk, O⟩
              refine W_seq ?_
              refine W_rseq ?_
              refine op_move rfl (.int _ _) rfl ?_
              refine op_lss rfl rfl rfl ?_
              refine op_nil (at_then ?_)
              refine W_cond _ rfl ?_ ?_
              · intro h4
                replace h4 := dec_t h4
                have hlen' : A'.B.length = 60 := hout.len.trans hlen
                have hrE : readE A' (k : Int) = 0 := by
                  unfold readE
                  rw [hout.on, show A'.has (k : Int) = true by unfold Dev.has; simp; omega]; rfl
                have hrB : readB A' (k : Int) = at' A' k := by
                  unfold readB
                  rw [hrE]; rfl
                refine W_skip (at_then ?_)
                refine W_seq ?_
                refine W_block ?_
                refine W_rseq ?_
                refine op_move rfl (.pointer _) rfl ?_
                refine op_move rfl (.int _ _) rfl ?_
                refine op_call rfl ca_14_JoA2 (dread_ok (k : Int) hfw (by omega) O.dev) rfl ?_
                rintro v w3 ⟨s3, rfl, F3⟩
                rw [hrE]
                rw [hrB] at F3
                obtain ⟨a3, c3, rfl, R3, hc3⟩ := Fresh.rdB F3
                replace O := O.call F3.ext
                refine op_move rfl (.tuple _) rfl ?_
                refine op_extract rfl rfl rfl ?_
                refine op_extract rfl rfl rfl ?_
                refine op_assign rfl (.slice _ _ _) rfl ?_
                refine op_assign rfl (.int _ _) rfl ?_
                refine op_nil (at_then ?_)
                have hleaf : k < x.f1 ∨ x.f1 + x.z ≤ k → at' A' k = fillB k := fun h => by rw [hout.stay k h, hat k (by omega)]
                have hv0 : (UInt8.ofNat (k + 1)).toNat = k + 1 := by rw [UInt8.toNat_ofNat']; omega
                rcases Nat.lt_or_ge k x.f1 with hin | hin
                · have he := hleaf (.inl hin); rw [he, fillB_len]; have R4 := R3; rw [he] at R4; have hfl := fillB_len k
                  refine W_rseq ?_
                  refine op_move rfl (.int _ _) rfl ?_
                  refine op_move rfl (.int _ _) rfl ?_
                  refine op_lss rfl rfl rfl ?_
                  rw [decide_eq_true (show (k : Int) < (x.f1 : Int) by omega)]
                  refine op_move rfl (.bool _) rfl ?_
                  refine op_skip rfl ?_
                  refine op_skip rfl ?_
                  refine op_skip rfl ?_
                  refine op_skip rfl ?_
                  refine op_skip rfl ?_
                  refine op_pick1 rfl rfl (.bool _) rfl ?_
                  refine op_move rfl (.bool _) rfl ?_
                  refine op_move rfl (.int _ _) rfl ?_
                  refine op_neq rfl rfl rfl ?_
                  refine op_move rfl (.bool _) rfl ?_
                  refine op_move rfl (.slice _ _ _) rfl ?_
                  refine op_len rfl el_23 rfl ?_
                  refine op_neq rfl rfl rfl ?_
                  refine op_pick0 rfl rfl (.bool _) rfl ?_
                  refine op_move rfl (.bool _) rfl ?_
                  refine op_move rfl (.slice _ _ _) rfl ?_
                  first | refine op_indexRd RL rfl el_23 sz_5 rfl rfl (by omega) (by omega) (by first | rfl | omega) ?_ | refine op_indexRd R4 rfl el_23 sz_5 rfl rfl (by omega) (by omega) (by first | rfl | omega) ?_ | refine op_indexAddr rfl el_23 sz_5 rfl rfl (by omega) (by omega) ?_
                  first | refine op_ldb rfl ag_5 rfl H (by first | exact at0 | exact at1 | exact at2 | exact at3 | exact at4 | exact at5 | exact at6 | exact at7 | exact at8 | exact at9) rfl ?_ | refine op_ld rfl ag_5 rfl (R4.one (f := bv) (i := 0) rfl) ?_ | refine op_ld rfl ag_5 rfl (R4.one (f := bv) (i := 1) rfl) ?_
                  refine op_move rfl (.int _ _) rfl ?_
                  refine op_add_i64 rfl rfl rfl (by omega) (by omega) ?_
                  refine op_conv_u8 rfl rfl un_3 un_5 (by omega) (by omega) ?_
                  refine op_neq rfl rfl rfl ?_
                  rw [hv0, show decide (((k + 1 : Nat) : Int) = (k : Int) + 1) = true from decide_eq_true (by omega)]
                  refine op_pick0 rfl rfl (.bool _) rfl ?_
                  refine op_move rfl (.bool _) rfl ?_
                  refine op_move rfl (.slice _ _ _) rfl ?_
                  first | refine op_indexRd RL rfl el_23 sz_5 rfl rfl (by omega) (by omega) (by first | rfl | omega) ?_ | refine op_indexRd R4 rfl el_23 sz_5 rfl rfl (by omega) (by omega) (by first | rfl | omega) ?_ | refine op_indexAddr rfl el_23 sz_5 rfl rfl (by omega) (by omega) ?_
                  first | refine op_ldb rfl ag_5 rfl H (by first | exact at0 | exact at1 | exact at2 | exact at3 | exact at4 | exact at5 | exact at6 | exact at7 | exact at8 | exact at9) rfl ?_ | refine op_ld rfl ag_5 rfl (R4.one (f := bv) (i := 0) rfl) ?_ | refine op_ld rfl ag_5 rfl (R4.one (f := bv) (i := 1) rfl) ?_
                  refine op_neq rfl rfl rfl ?_
                  refine op_pick0 rfl rfl (.bool _) rfl ?_
                  refine op_pick1 rfl rfl (.bool _) rfl ?_
                  refine op_nil (at_then ?_)
                  refine W_cond0 rfl ?_
                  refine W_skip (at_block (at_then ?_))
                  refine W_region ?_
                  refine op_move rfl (.int _ _) rfl ?_
                  refine op_add_i64 rfl rfl rfl (by omega) (by omega) ?_
                  refine op_assign rfl (.int _ _) rfl ?_
                  refine op_nil (at_then ?_)
                  exact ⟨k + 1, rfl, ⟨rfl, trivial⟩, ⟨by omega, O⟩, by omega⟩
                · skip
                  rcases Nat.lt_or_ge k (x.f1 + x.z) with hin2 | hin2
                  · skip
                    refine W_rseq ?_
                    refine op_move rfl (.int _ _) rfl ?_
                    refine op_move rfl (.int _ _) rfl ?_
                    refine op_lss rfl rfl rfl ?_
                    rw [decide_eq_false (show ¬ (k : Int) < (x.f1 : Int) by omega)]
                    refine op_move rfl (.bool _) rfl ?_
                    refine op_move rfl (.int _ _) rfl ?_
                    refine op_move rfl (.int _ _) rfl ?_
                    refine op_move rfl (.int _ _) rfl ?_
                    refine op_add_i64 rfl rfl rfl (by omega) (by omega) ?_
                    refine op_geq rfl rfl rfl ?_
                    rw [decide_eq_false (show ¬ (x.f1 : Int) + (x.z : Int) ≤ (k : Int) by omega)]
                    refine op_pick0 rfl rfl (.bool _) rfl ?_
                    refine op_move rfl (.bool _) rfl ?_
                    refine op_skip rfl ?_
                    refine op_skip rfl ?_
                    refine op_skip rfl ?_
                    refine op_skip rfl ?_
                    refine op_skip rfl ?_
                    refine op_skip rfl ?_
                    refine op_skip rfl ?_
                    refine op_skip rfl ?_
                    refine op_skip rfl ?_
                    refine op_skip rfl ?_
                    refine op_skip rfl ?_
                    refine op_skip rfl ?_
                    refine op_skip rfl ?_
                    refine op_skip rfl ?_
                    refine op_skip rfl ?_
                    refine op_skip rfl ?_
                    refine op_skip rfl ?_
                    refine op_skip rfl ?_
                    refine op_skip rfl ?_
                    refine op_skip rfl ?_
                    refine op_skip rfl ?_
                    refine op_skip rfl ?_
                    refine op_pick0 rfl rfl (.bool _) rfl ?_
                    refine op_nil (at_then ?_)
                    refine W_cond0 rfl ?_
                    refine W_skip (at_block (at_then ?_))
                    refine W_region ?_
                    refine op_move rfl (.int _ _) rfl ?_
                    refine op_add_i64 rfl rfl rfl (by omega) (by omega) ?_
                    refine op_assign rfl (.int _ _) rfl ?_
                    refine op_nil (at_then ?_)
                    exact ⟨k + 1, rfl, ⟨rfl, trivial⟩, ⟨by omega, O⟩, by omega⟩
                  · have he := hleaf (.inr hin2); rw [he, fillB_len]; have R4 := R3; rw [he] at R4; have hfl := fillB_len k
                    refine W_rseq ?_
                    refine op_move rfl (.int _ _) rfl ?_
                    refine op_move rfl (.int _ _) rfl ?_
                    refine op_lss rfl rfl rfl ?_
                    rw [decide_eq_false (show ¬ (k : Int) < (x.f1 : Int) by omega)]
                    refine op_move rfl (.bool _) rfl ?_
                    refine op_move rfl (.int _ _) rfl ?_
                    refine op_move rfl (.int _ _) rfl ?_
                    refine op_move rfl (.int _ _) rfl ?_
                    refine op_add_i64 rfl rfl rfl (by omega) (by omega) ?_
                    refine op_geq rfl rfl rfl ?_
                    rw [decide_eq_true (show (x.f1 : Int) + (x.z : Int) ≤ (k : Int) by omega)]
                    refine op_pick0 rfl rfl (.bool _) rfl ?_
                    refine op_move rfl (.bool _) rfl ?_
                    refine op_move rfl (.int _ _) rfl ?_
                    refine op_neq rfl rfl rfl ?_
                    refine op_move rfl (.bool _) rfl ?_
                    refine op_move rfl (.slice _ _ _) rfl ?_
                    refine op_len rfl el_23 rfl ?_
                    refine op_neq rfl rfl rfl ?_
                    refine op_pick0 rfl rfl (.bool _) rfl ?_
                    refine op_move rfl (.bool _) rfl ?_
                    refine op_move rfl (.slice _ _ _) rfl ?_
                    first | refine op_indexRd RL rfl el_23 sz_5 rfl rfl (by omega) (by omega) (by first | rfl | omega) ?_ | refine op_indexRd R4 rfl el_23 sz_5 rfl rfl (by omega) (by omega) (by first | rfl | omega) ?_ | refine op_indexAddr rfl el_23 sz_5 rfl rfl (by omega) (by omega) ?_
                    first | refine op_ldb rfl ag_5 rfl H (by first | exact at0 | exact at1 | exact at2 | exact at3 | exact at4 | exact at5 | exact at6 | exact at7 | exact at8 | exact at9) rfl ?_ | refine op_ld rfl ag_5 rfl (R4.one (f := bv) (i := 0) rfl) ?_ | refine op_ld rfl ag_5 rfl (R4.one (f := bv) (i := 1) rfl) ?_
                    refine op_move rfl (.int _ _) rfl ?_
                    refine op_add_i64 rfl rfl rfl (by omega) (by omega) ?_
                    refine op_conv_u8 rfl rfl un_3 un_5 (by omega) (by omega) ?_
                    refine op_neq rfl rfl rfl ?_
                    rw [hv0, show decide (((k + 1 : Nat) : Int) = (k : Int) + 1) = true from decide_eq_true (by omega)]
                    refine op_pick0 rfl rfl (.bool _) rfl ?_
                    refine op_move rfl (.bool _) rfl ?_
                    refine op_move rfl (.slice _ _ _) rfl ?_
                    first | refine op_indexRd RL rfl el_23 sz_5 rfl rfl (by omega) (by omega) (by first | rfl | omega) ?_ | refine op_indexRd R4 rfl el_23 sz_5 rfl rfl (by omega) (by omega) (by first | rfl | omega) ?_ | refine op_indexAddr rfl el_23 sz_5 rfl rfl (by omega) (by omega) ?_
                    first | refine op_ldb rfl ag_5 rfl H (by first | exact at0 | exact at1 | exact at2 | exact at3 | exact at4 | exact at5 | exact at6 | exact at7 | exact at8 | exact at9) rfl ?_ | refine op_ld rfl ag_5 rfl (R4.one (f := bv) (i := 0) rfl) ?_ | refine op_ld rfl ag_5 rfl (R4.one (f := bv) (i := 1) rfl) ?_
                    refine op_neq rfl rfl rfl ?_
                    refine op_pick0 rfl rfl (.bool _) rfl ?_
                    refine op_pick1 rfl rfl (.bool _) rfl ?_
                    refine op_nil (at_then ?_)
                    refine W_cond0 rfl ?_
                    refine W_skip (at_block (at_then ?_))
                    refine W_region ?_
                    refine op_move rfl (.int _ _) rfl ?_
                    refine op_add_i64 rfl rfl rfl (by omega) (by omega) ?_
                    refine op_assign rfl (.int _ _) rfl ?_
                    refine op_nil (at_then ?_)
                    exact ⟨k + 1, rfl, ⟨rfl, trivial⟩, ⟨by omega, O⟩, by omega⟩
              · intro h4
                replace h4 := dec_f h4
                refine W_exit (exit_then (exit_then (exit_here (at_then ?_))))
                refine W_rseq ?_
                refine op_call rfl ca_37_JoA2 (works5_ok _) rfl ?_
                rintro v w3 ⟨rfl, hx3⟩
                refine op_assign rfl (.bool _) rfl ?_
                refine op_nil (at_then ?_)
                refine W_ret (leave1 (v := (.bool _)) rfl rfl rfl ?_)
                exact ⟨rfl, hwb.trans (O.ext.trans hx3)⟩

end Go.Proofs.YtkmbcpgnafmnpaaDoor

/- What the form reads of the cases of the laws of journals. -/
namespace Go.Proofs.YtkmbcpgnafmnpaaDoor
open Go.GV Go.ChangeShapes Go.WideShapes Go.ChangeAt Go.RowKit

theorem sjStruct : ∃ fs, Tryd.prog.underlying 73 = some (.struct fs) ∧ (List.range 5).map (fun i => fs[i]?.map fun f => (f.type, f.offset)) = [some (3, 0), some (24, 1), some (5, 2), some (4, 3), some (45, 4)] := ⟨_, Tryd.underlying73, by kernel_rfl⟩
theorem sjCells : Tryd.prog.cellsOf 73 = 5 := by kernel_rfl
theorem sjsCells : Tryd.prog.cellsOf 68 = 1 := by kernel_rfl
theorem csStruct : ∃ fs, Tryd.prog.underlying 70 = some (.struct fs) ∧ (List.range 5).map (fun i => fs[i]?.map fun f => (f.type, f.offset)) = [some (5, 0), some (5, 1), some (5, 2), some (22, 3), some (68, 4)] := ⟨_, Tryd.underlying70, by kernel_rfl⟩
theorem csCells : Tryd.prog.cellsOf 70 = 5 := by kernel_rfl

set_option maxRecDepth 100000 in
theorem dec_sj {H : Type} {enc : TypeId × Value → H} {w : World} {base : Nat} {spare : Nat → Bool} {held : Bool} : ∀ n cs y, DataW.trod enc Tryd.prog w base spare held n 73 cs = some y → Light Tryd.prog 73 y.1 → ∃ d : Sj, cs = d.enc ∧ d.Ok w := by
  intro n cs y h hL
  obtain ⟨fs, ht, hf⟩ := sjStruct
  have hl := trod_slen ht h
  rw [sjCells] at hl
  simp only [List.range, List.range.loop, List.map_cons, List.map_nil, List.cons.injEq, and_true] at hf
  obtain ⟨f0, f1, f2, f3, f4⟩ := hf
  obtain ⟨a, ha, _⟩ := fld_int ht h 0 0 f0 Tryd.underlying3
  obtain ⟨e, he, e1, e2⟩ := fld_int ht h 1 1 f1 Tryd.underlying24
  obtain ⟨f, hf, g1, g2⟩ := fld_int ht h 2 2 f2 Tryd.underlying5
  obtain ⟨b, hb⟩ := fld_bool ht h 3 3 f3 Tryd.underlying4
  obtain ⟨ga, gc, gl, hg, gR, gle, _, gw, gi⟩ := fld_slice ht h hL 4 4 f4 Tryd.underlying45 intsCells intCells (by decide) (fun n cs y h _ => dec_int Tryd.underlying3 n cs y h)
  obtain ⟨e, rfl, he2⟩ := nat_of (m := 65535) e1 e2
  obtain ⟨f, rfl, hf2⟩ := nat_of (m := 255) g1 g2
  rw [intBytes] at gw
  unfold reachBytes at gw
  refine ⟨⟨a, e, UInt8.ofNat f, b, ga, gc, gl⟩, ?_, ⟨gR, gle, by dsimp only; omega, by dsimp only; omega, fun i hi => gi i hi⟩⟩
  have hff : bv (UInt8.ofNat f) = .int .u8 (f : Int) := by
    have h9 : (UInt8.ofNat f).toNat = f := by rw [UInt8.toNat_ofNat']; omega
    rw [bv, h9]
  match cs, hl with
  | [_, _, _, _, _], _ =>
    simp at ha he hf hb hg
    simp [Sj.enc, hff, ha, he, hf, hb, hg]

set_option maxRecDepth 100000 in
theorem dec_cs {H : Type} {enc : TypeId × Value → H} {w : World} {base : Nat} {spare : Nat → Bool} {held : Bool} : ∀ n cs y, DataW.trod enc Tryd.prog w base spare held n 70 cs = some y → Light Tryd.prog 70 y.1 → ∃ d : Cs, cs = d.enc ∧ d.Ok w := by
  intro n cs y h hL
  obtain ⟨fs, ht, hf⟩ := csStruct
  have hl := trod_slen ht h
  rw [csCells] at hl
  simp only [List.range, List.range.loop, List.map_cons, List.map_nil, List.cons.injEq, and_true] at hf
  obtain ⟨f0, f1, f2, f3, f4⟩ := hf
  obtain ⟨a, ha, a1, a2⟩ := fld_int ht h 0 0 f0 Tryd.underlying5
  obtain ⟨b, hb, b1, b2⟩ := fld_int ht h 1 1 f1 Tryd.underlying5
  obtain ⟨c, hc, c1, c2⟩ := fld_int ht h 2 2 f2 Tryd.underlying5
  obtain ⟨e, he, e1, e2⟩ := fld_int ht h 3 3 f3 Tryd.underlying22
  obtain ⟨ga, gc, gl, hg, gR, gle, gm, _, gi⟩ := fld_slice ht h hL 4 4 f4 Tryd.underlying68 sjsCells sjCells (by decide) dec_sj
  obtain ⟨a, rfl, ha2⟩ := nat_of (m := 255) a1 a2
  obtain ⟨b, rfl, hb2⟩ := nat_of (m := 255) b1 b2
  obtain ⟨c, rfl, hc2⟩ := nat_of (m := 255) c1 c2
  obtain ⟨e, rfl, he2⟩ := nat_of (m := 18446744073709551615) e1 e2
  unfold maxLen at gm
  refine ⟨⟨a, b, c, e, ga, gc, gl⟩, ?_, ⟨gR, gi, by dsimp only; omega, ha2, hb2, hc2, he2⟩⟩
  match cs, hl with
  | [_, _, _, _, _], _ =>
    simp at ha hb hc he hg
    simp [Cs.enc, ha, hb, hc, he, hg]
set_option maxRecDepth 100000 in
theorem cs_of {H : Type} {enc : TypeId × Value → H} {w : World} {base b : Nat} {spare : Nat → Bool} {held : Bool} {v : Value} {d : DataW H} {ps : List MemPlace} (hv : Value.okWide Tryd.prog w .any b 70 v)
    (h : DataW.Trod enc Tryd.prog w base spare held 70 v d ps) (hL : Light Tryd.prog 70 d) : ∃ x : Cs, v = .agg x.enc.toArray ∧ x.Ok w := by
  obtain ⟨fs, ht, _⟩ := csStruct
  obtain ⟨cs, rfl, _⟩ := okWide_struct ht hv
  obtain ⟨fuel, hf⟩ := h
  obtain ⟨x, hx, hok⟩ := dec_cs fuel cs.toList (d, ps) (by simpa [Value.cells] using hf) hL
  exact ⟨x, by rw [← hx], hok⟩

end Go.Proofs.YtkmbcpgnafmnpaaDoor

/- JournalApart: for every input the law answers true, and turns nothing. The tables that its row lists are premises, and tied to the text by its card. -/
namespace Go.Proofs.YtkmbcpgnafmnpaaDoor.journalApart
open Go.GV Go.ChangeShapes Go.WideShapes Go.ChangeAt Go.RowKit

theorem laid_met (os : Os) : laidMet Tryd.prog Rows.journalApartRow.laid ((laidWorld os).forCall (fun _ _ => 0) ⟨#[], #[.agg #[.int .u8 0, .int .u8 0, .int .u8 0, .int .u64 0, .slice none 0 0]], []⟩).memory :=
  laidMet_of_run' 8 (by kernel_rfl) (by kernel_rfl)
theorem reads (os : Os) {H : Type} (enc : TypeId × Value → H) : ∃ ds places, DataW.whole enc Tryd.prog ((laidWorld os).forCall (fun _ _ => 0) ⟨#[], #[.agg #[.int .u8 0, .int .u8 0, .int .u8 0, .int .u64 0, .slice none 0 0]], []⟩).memory Tryd.f8.params.toList Rows.journalApartSpec.vars false (#[.agg #[.int .u8 0, .int .u8 0, .int .u8 0, .int .u64 0, .slice none 0 0]] : Array Value).toList 8 = some (ds, [], places) :=
  ⟨[.agg [.lit (.int .u8 0), .lit (.int .u8 0), .lit (.int .u8 0), .lit (.int .u64 0), .nil]], [], by kernel_rfl⟩

set_option maxRecDepth 100000 in
theorem lifted (os : Os) (started : os.Started) (H : Type) (enc : TypeId × Value → H) (F : Stop.Interp) :
    ReturnsInHanded {} Tryd.checked os 8 .any ((OpenSpec.ofChange Rows.journalApartSpec).preRow enc Tryd.prog Tryd.f8 Rows.journalApartRow.domain false Rows.journalApartRow.laid) (((OpenSpec.ofChange Rows.journalApartSpec).at F).post enc Tryd.prog Tryd.f8 false true false false) := by
  obtain ⟨ds, places, hx⟩ := reads os enc
  refine returnsInHanded_of_row (C := Tryd.checked) (s := OpenSpec.ofChange Rows.journalApartSpec) own started (by kernel_rfl) Tryd.func8
    (witness_row_at (enc := enc) (C := Tryd.checked) false (laidWorld os) #[.agg #[.int .u8 0, .int .u8 0, .int .u8 0, .int .u64 0, .slice none 0 0]] rfl (by kernel_rfl) (by kernel_rfl) (by kernel_rfl)
      (OpenSpec.preRow_of_cond 8 hx (by kernel_rfl) (fun k hk => by cases hk) (by kernel_rfl) (laid_met os))) ?_
  intro W base args ds gs before hval0 hW _ _ hLt _ _ _
  have hval : ∀ (j : Nat) t v, Tryd.f8.params[j]? = some t → args[j]? = some v → Value.okWide Tryd.prog W .any base t v := hval0
  have hW' := hW
  obtain ⟨p, q, hA0, hV, rfl, hfz, hnd⟩ := hW
  have hA : DataW.TrodAll enc Tryd.prog W 0 (fun _ => true) true Tryd.f8.params.toList args.toList ds p := hA0
  rw [Tryd.params8] at hA hval
  obtain ⟨v0, vs0, d0, ds0, p0, q0, hargs, rfl, rfl, h0, r0⟩ := trodAll_cons hA
  obtain ⟨rfl, rfl, rfl⟩ := trodAll_nil r0
  obtain rfl : args = #[v0] := by cases args; simp_all
  have hL0 : Light Tryd.prog 70 d0 := light_of hLt (i := 0) rfl rfl
  obtain ⟨x0, rfl, X0⟩ := cs_of (hval 0 _ v0 rfl rfl) h0 hL0
  refine (apart5_ok x0 W X0).calls.mono ?_
  rintro e W' ⟨v, rfl, rfl, hx⟩
  exact ⟨_, rfl, law_post laidOut rfl (by kernel_rfl) rfl Tryd.underlying4 (fun ds h => match ds, h with | [_], _ => rfl) hW' hx⟩

theorem said : Rows.JournalApartSaid :=
  OpenClaim.holds_of_cond 8 Tryd.f8 rfl rfl rfl rfl rfl rfl rfl ⟨rfl, rfl, rfl, rfl, rfl⟩ rfl rfl rfl rfl rfl (by kernel_rfl) Tryd.func8 (by kernel_rfl)
    (of_decide_eq_true (by kernel_rfl)) (by unfold Func.isWrapper; first | (rw [if_pos (by decide +kernel)]; kernel_rfl) | (rw [if_neg (by decide +kernel)]; exact ⟨rfl, rfl⟩))
    (fun os started H enc _ F => by rw [OpenClaim.pre_eq_preRow]; exact lifted os started H enc F)

theorem plain (f : FuncId) (fn : Func) (hf : Tryd.pinned.checked.prog.funcNamed "gablet/gabletlaw05.JournalApart" = some f) (hfn : Tryd.pinned.checked.prog.funcs[f]? = some fn) :
    false = Tryd.pinned.checked.prog.looks [] ∧ ∀ (j : Nat) t, fn.params[j]? = some t → Tryd.pinned.checked.prog.wantsStandIn t = false := by
  obtain rfl : f = 8 := Option.some.inj ((show Tryd.prog.funcNamed "gablet/gabletlaw05.JournalApart" = some 8 by kernel_rfl).symm.trans hf) |>.symm
  obtain rfl : fn = Tryd.f8 := (Option.some.inj (Tryd.func8.symm.trans hfn)).symm
  refine ⟨by kernel_rfl, fun j t ht => ?_⟩
  rw [Tryd.params8] at ht
  have hm := Array.mem_of_getElem? ht
  exact List.all_eq_true.1 (show (Tryd.f8.params.toList.all fun t => !Tryd.prog.wantsStandIn t) = true by kernel_rfl) t (by rw [Tryd.params8]; simpa using hm) |> fun h => (Bool.not_eq_true' _).mp h

theorem card : Rows.JournalApartCardSaid :=
  Claim7.holds_tied_plain_at .later [] _ _ _ _ said (fun _ h => by cases h) (by kernel_rfl) (fun _ h => by cases h) journalApart_row_tie rfl ⟨rfl, rfl⟩ (by kernel_rfl) rfl plain (by kernel_rfl)
end Go.Proofs.YtkmbcpgnafmnpaaDoor.journalApart
namespace Go.Proofs.YtkmbcpgnafmnpaaDoor
theorem journalApart_holds : Rows.JournalApartCardSaid := journalApart.card
#print axioms journalApart_holds
end Go.Proofs.YtkmbcpgnafmnpaaDoor
