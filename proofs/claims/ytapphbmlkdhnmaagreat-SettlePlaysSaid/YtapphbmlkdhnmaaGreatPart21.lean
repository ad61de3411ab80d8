/- Part 21 of the proof. The last text: SettlePlays: for every input the law answers true, and turns nothing. -/
import Derived.Test.YtapphbmlkdhnmaaGreatPart20
import Derived.Test.YtapphbmlkdhnmaaGreatPart3
import Derived.ProofKit
import Derived.Deep.Slices
import Derived.OpenShut
import Derived.Test.YtapphbmlkdhnmaaGreatPart19
import Derived.Test.YtapphbmlkdhnmaaGreatRows
/- SettlePlays: a plan is the net of now with an accepted proof; any round is applied as the reference does. -/
namespace Go.Proofs.YtapphbmlkdhnmaaGreat
open Go.GV
theorem ag_22_SrG : aggB Tryz.prog 22 = some false := by kernel_rfl
theorem ag_23_SrG : aggB Tryz.prog 23 = some false := by kernel_rfl
theorem ag_24_SrG : aggB Tryz.prog 24 = some false := by kernel_rfl
theorem ag_25_SrG : aggB Tryz.prog 25 = some false := by kernel_rfl
theorem ag_26_SrG : aggB Tryz.prog 26 = some false := by kernel_rfl
theorem ag_28_SrG : aggB Tryz.prog 28 = some true := by kernel_rfl
theorem ag_29_SrG : aggB Tryz.prog 29 = some false := by kernel_rfl
theorem ag_2_SrG : aggB Tryz.prog 2 = some false := by kernel_rfl
theorem ag_31_SrG : aggB Tryz.prog 31 = some true := by kernel_rfl
theorem ag_33_SrG : aggB Tryz.prog 33 = some true := by kernel_rfl
theorem ag_3_SrG : aggB Tryz.prog 3 = some false := by kernel_rfl
theorem ag_4_SrG : aggB Tryz.prog 4 = some false := by kernel_rfl
theorem ca_10_SrG : callable Tryz.prog 10 = true := by kernel_rfl
theorem ca_11_SrG : callable Tryz.prog 11 = true := by kernel_rfl
theorem ca_12_SrG : callable Tryz.prog 12 = true := by kernel_rfl
theorem ca_13_SrG : callable Tryz.prog 13 = true := by kernel_rfl
theorem ca_14_SrG : callable Tryz.prog 14 = true := by kernel_rfl
theorem ca_15_SrG : callable Tryz.prog 15 = true := by kernel_rfl
theorem ca_16_SrG : callable Tryz.prog 16 = true := by kernel_rfl
theorem ca_17_SrG : callable Tryz.prog 17 = true := by kernel_rfl
theorem ca_18_SrG : callable Tryz.prog 18 = true := by kernel_rfl
theorem ca_19_SrG : callable Tryz.prog 19 = true := by kernel_rfl
theorem ca_20_SrG : callable Tryz.prog 20 = true := by kernel_rfl
theorem ca_21_SrG : callable Tryz.prog 21 = true := by kernel_rfl
theorem ca_22_SrG : callable Tryz.prog 22 = true := by kernel_rfl
theorem el_25_SrG : elemT Tryz.prog 25 = some 24 := by kernel_rfl
theorem el_26_SrG : elemT Tryz.prog 26 = some 92 := by kernel_rfl
theorem el_29_SrG : elemT Tryz.prog 29 = some 2 := by kernel_rfl
theorem el_57_SrG : elemT Tryz.prog 57 = some 33 := by kernel_rfl
theorem fo_28_0_SrG : fieldO Tryz.prog 28 0 = some 0 := by kernel_rfl
theorem fo_28_1_SrG : fieldO Tryz.prog 28 1 = some 1 := by kernel_rfl
theorem fo_31_0_SrG : fieldO Tryz.prog 31 0 = some 0 := by kernel_rfl
theorem fo_31_1_SrG : fieldO Tryz.prog 31 1 = some 1 := by kernel_rfl
theorem fo_33_0_SrG : fieldO Tryz.prog 33 0 = some 0 := by kernel_rfl
theorem fo_33_1_SrG : fieldO Tryz.prog 33 1 = some 1 := by kernel_rfl
theorem fo_33_2_SrG : fieldO Tryz.prog 33 2 = some 2 := by kernel_rfl
theorem fo_33_3_SrG : fieldO Tryz.prog 33 3 = some 3 := by kernel_rfl
theorem fo_33_4_SrG : fieldO Tryz.prog 33 4 = some 4 := by kernel_rfl
theorem fo_33_5_SrG : fieldO Tryz.prog 33 5 = some 6 := by kernel_rfl
theorem fo_48_0_SrG : fieldO Tryz.prog 48 0 = some 0 := by kernel_rfl
theorem fo_52_0_SrG : fieldO Tryz.prog 52 0 = some 0 := by kernel_rfl
theorem mixed_SrG : Tryz.prog.follows .mixedOrders = true := by kernel_rfl
theorem sz_28_SrG : tsize Tryz.prog 28 = some 2 := by kernel_rfl
theorem sz_31_SrG : tsize Tryz.prog 31 = some 2 := by kernel_rfl
theorem sz_33_SrG : tsize Tryz.prog 33 = some 8 := by kernel_rfl
theorem un_35_SrG : Tryz.prog.underlying 35 = some (.pointer 116) := by kernel_rfl
theorem un_36_SrG : Tryz.prog.underlying 36 = some (.pointer 123) := by kernel_rfl
theorem un_4_SrG : Tryz.prog.underlying 4 = some (.bool) := by kernel_rfl
theorem zc_28_SrG : zcells Tryz.prog 28 = some ([.int .i64 0, .slice none 0 0]) := by kernel_rfl
theorem zc_33_SrG : zcells Tryz.prog 33 = some ([.int .u64 0, .int .i64 0, .bool false, .slice none 0 0, .int .i64 0, .slice none 0 0, .slice none 0 0, .slice none 0 0]) := by kernel_rfl
attribute [local irreducible] Wops W Wq Wt

/-- A plan, or none. -/
theorem planU_ctx {bx bd b c : Nat} {a : Option Addr} {full : List Value} {o : Obj} {acs : List Ac} {ds : List Du} {nx : Int} {w w0 : World} {S : List Nat} {B R : List (Nat × Obj)} (ha : aofC acs = 0) (hd : ofC ds nx = 0) (net : Bool) (H : Ctx w0 S w (B ++ (LX bx a acs.length c full bd b nx o ++ R))) (O : OS a acs.length c 2 full (acs.flatMap encA)) (hM : MapO .u64 (dm ds) o) :
    Ret Tryz.prog 12 #[ptr bx, ptr bd, .bool net] w fun v w' => ∃ r q code, v = .tuple #[.agg (rcells r q).toArray, .int .i64 code] ∧
      ((brightB (acs.map roomV) ds = false ∧ code = 1) ∨ (brightB (acs.map roomV) ds = true ∧ code = 0 ∧ PlanR acs ds net r ∧ RAt w' r q ∧ ROff q r (· ∈ (B ++ (LX bx a acs.length c full bd b nx o ++ R)).map (fun x : Nat × Obj => x.1)))) ∧ Ext [] w w' := by
  refine Ret.mono (plan_ok ha hd net w (LX.ac (Ctx.in' H) O) (LX.du (Ctx.in' H) hM)) fun v w' h => ?_
  obtain ⟨hx, ⟨h1, rfl⟩ | ⟨h1, r, q, h2, P, RA, hoff⟩⟩ := h
  · exact ⟨⟨0, 0, false, [], 0, [], [], []⟩, ⟨none, 0, none, 0, none, 0, none, 0⟩, 1, rfl, .inl ⟨h1, rfl⟩, hx⟩
  · exact ⟨r, q, 0, h2, .inr ⟨h1, rfl, P, RA, ROff.old H hoff⟩, hx⟩
def NetI (w0 : World) (rs : List Int) (ds : List Du) (net : Bool) (z : NowZ) (w : World) : Prop :=
  Ext [] w0 w ∧ w.heap[z.b]? = some (Bl 28 [.int .i64 z.N, .slice z.aE z.nE z.cE]) ∧ RoundU w rs ds net z.N z.aE z.nE (.slice z.aI z.nI z.cI) z.code ∧ w0.heap.size ≤ z.b
abbrev encZ (p : Rnd × RSl) : List Value := rcells p.1 p.2
structure LpZ where
  i : Nat
  acs : List Ac
  ds : List Du
  full : List Value
  o : Obj
  rfull : List Value
  ad : Option Addr
  cd : Nat
  fd : List Value
structure LpI (w9 : World) (S9 : List Nat) (B : List (Nat × Obj)) (bx : Nat) (a : Option Addr) (n c : Nat) (bd b : Nat) (nx : Int) (ba : Nat) (ra : Option Addr) (rc br : Nat) (z : LpZ) (w : World) : Prop where
  i : z.i ≤ 3
  ha : aofC z.acs = 0
  hd : ofC z.ds nx = 0
  n : z.acs.length = n
  O : OS a z.acs.length c 2 z.full (z.acs.flatMap encA)
  M : MapO .u64 (dm z.ds) z.o
  RO : OS ra z.acs.length rc 2 z.rfull (z.acs.flatMap encA)
  RD : OS z.ad z.ds.length z.cd 7 z.fd (z.ds.flatMap encD)
  H : Ctx w9 S9 w (B ++ (LX bx a z.acs.length c z.full bd b nx z.o ++ RX ba ra z.acs.length rc z.rfull br z.ad z.ds.length z.cd nx z.fd))
set_option maxRecDepth 20000 in
set_option maxHeartbeats 16000000 in
theorem settlePlays_ok (a1 b1 : Option Addr) (c1 e1 : Nat) (acs : List Ac) (ds : List Du) (nx : Int) (net : Bool) (raw : Rnd) (qr : RSl) (w : World) (R1 : Rd w a1 2 encA acs) (R2 : Rd w b1 7 encD ds) (hnx : 0 ≤ nx ∧ nx < 18446744073709551616) (hid : ∀ d ∈ ds, 0 ≤ d.id ∧ d.id < 18446744073709551616) (RAw : RAt w raw qr) (hN : I64 raw.N) :
    Ret Tryz.prog 3 #[.slice a1 acs.length c1, .slice b1 ds.length e1, .int .u64 nx, .bool net, .agg (rcells raw qr).toArray] w fun v w' => v = .bool true ∧ Ext [] w w' := by
  obtain ⟨w0, rfl⟩ : ∃ w0, w0 = w := ⟨_, rfl⟩
  have H := Ctx.start w0 []
  refine ret_of_W (fn := Tryz.f3) Tryz.func3 rfl [.slice a1 acs.length c1, .slice b1 ds.length e1, .int .u64 nx, .bool net, .agg (rcells raw qr).toArray] rfl (by kernel_rfl) ?_
  refine W_rseq ?_
  refine op_box rfl (rcells raw qr) (.agg _) rfl rfl H ?_
  rintro b9 w - H
  refine op_assign rfl (.bool _) rfl ?_
  refine op_nil (at_then ?_)
  refine W_seq ?_
  refine W_rseq (Wops_join (α := Unit) 72057594004373504 (fun _ => [(55, .bool (((((decide (300 < raw.es.length) || decide (300 < raw.fl.length)) || decide (100 < raw.pot.length)) || decide (300 < raw.ids.length)) || decide (100 < raw.N))))]) (fun _ w' => Ctx w0 [] w' [(b9, Bl 33 (rcells raw qr))]) rfl ?_ ?_)
  · refine op_fieldAddr rfl fo_33_4_SrG rfl ?_
    refine op_fieldAddr rfl fo_28_1_SrG rfl ?_
    refine op_ldb rfl ag_26_SrG rfl H (by first | exact at0 | exact at1 | exact at2 | exact at3 | exact at4 | exact at5 | exact at6 | exact at7 | exact at8 | exact at9) rfl ?_
    refine op_len rfl el_26_SrG rfl ?_
    refine op_gtr rfl rfl rfl ?_
    refine op_move rfl (.bool _) rfl ?_
    refine Wops_split 30 rfl ?_ ?_
    · intro h1
      replace h1 := dec_t h1
      refine op_skip rfl ?_
      refine op_skip rfl ?_
      refine op_skip rfl ?_
      refine op_skip rfl ?_
      refine op_skip rfl ?_
      refine op_pick1 rfl rfl (.bool _) rfl ?_
      refine op_move rfl (.bool _) rfl ?_
      refine op_skip rfl ?_
      refine op_skip rfl ?_
      refine op_skip rfl ?_
      refine op_skip rfl ?_
      refine op_skip rfl ?_
      refine op_pick1 rfl rfl (.bool _) rfl ?_
      refine op_move rfl (.bool _) rfl ?_
      refine op_skip rfl ?_
      refine op_skip rfl ?_
      refine op_skip rfl ?_
      refine op_skip rfl ?_
      refine op_pick1 rfl rfl (.bool _) rfl ?_
      refine op_move rfl (.bool _) rfl ?_
      refine op_skip rfl ?_
      refine op_skip rfl ?_
      refine op_skip rfl ?_
      refine op_skip rfl ?_
      refine op_pick1 rfl rfl (.bool _) rfl ?_
      refine op_nil ?_
      exact ⟨rfl, (), rfl, ⟨congrArg Value.bool (by rw [Bool.eq_iff_iff]; simp_all; first | done | omega), trivial⟩, H⟩
    · intro h2
      replace h2 := dec_f h2
      refine op_fieldAddr rfl fo_33_5_SrG rfl ?_
      refine op_fieldAddr rfl fo_31_0_SrG rfl ?_
      refine op_ldb rfl ag_29_SrG rfl H (by first | exact at0 | exact at1 | exact at2 | exact at3 | exact at4 | exact at5 | exact at6 | exact at7 | exact at8 | exact at9) rfl ?_
      refine op_len rfl el_29_SrG rfl ?_
      refine op_gtr rfl rfl rfl ?_
      refine op_pick0 rfl rfl (.bool _) rfl ?_
      refine op_move rfl (.bool _) rfl ?_
      refine Wops_split 37 rfl ?_ ?_
      · intro h3
        replace h3 := dec_t h3
        refine op_skip rfl ?_
        refine op_skip rfl ?_
        refine op_skip rfl ?_
        refine op_skip rfl ?_
        refine op_skip rfl ?_
        refine op_pick1 rfl rfl (.bool _) rfl ?_
        refine op_move rfl (.bool _) rfl ?_
        refine op_skip rfl ?_
        refine op_skip rfl ?_
        refine op_skip rfl ?_
        refine op_skip rfl ?_
        refine op_pick1 rfl rfl (.bool _) rfl ?_
        refine op_move rfl (.bool _) rfl ?_
        refine op_skip rfl ?_
        refine op_skip rfl ?_
        refine op_skip rfl ?_
        refine op_skip rfl ?_
        refine op_pick1 rfl rfl (.bool _) rfl ?_
        refine op_nil ?_
        exact ⟨rfl, (), rfl, ⟨congrArg Value.bool (by rw [Bool.eq_iff_iff]; simp_all; first | done | omega), trivial⟩, H⟩
      · intro h4
        replace h4 := dec_f h4
        refine op_fieldAddr rfl fo_33_5_SrG rfl ?_
        refine op_fieldAddr rfl fo_31_1_SrG rfl ?_
        refine op_ldb rfl ag_29_SrG rfl H (by first | exact at0 | exact at1 | exact at2 | exact at3 | exact at4 | exact at5 | exact at6 | exact at7 | exact at8 | exact at9) rfl ?_
        refine op_len rfl el_29_SrG rfl ?_
        refine op_gtr rfl rfl rfl ?_
        refine op_pick0 rfl rfl (.bool _) rfl ?_
        refine op_move rfl (.bool _) rfl ?_
        refine Wops_split 44 rfl ?_ ?_
        · intro h5
          replace h5 := dec_t h5
          refine op_skip rfl ?_
          refine op_skip rfl ?_
          refine op_skip rfl ?_
          refine op_skip rfl ?_
          refine op_pick1 rfl rfl (.bool _) rfl ?_
          refine op_move rfl (.bool _) rfl ?_
          refine op_skip rfl ?_
          refine op_skip rfl ?_
          refine op_skip rfl ?_
          refine op_skip rfl ?_
          refine op_pick1 rfl rfl (.bool _) rfl ?_
          refine op_nil ?_
          exact ⟨rfl, (), rfl, ⟨congrArg Value.bool (by rw [Bool.eq_iff_iff]; simp_all; first | done | omega), trivial⟩, H⟩
        · intro h6
          replace h6 := dec_f h6
          refine op_fieldAddr rfl fo_33_3_SrG rfl ?_
          refine op_ldb rfl ag_25_SrG rfl H (by first | exact at0 | exact at1 | exact at2 | exact at3 | exact at4 | exact at5 | exact at6 | exact at7 | exact at8 | exact at9) rfl ?_
          refine op_len rfl el_25_SrG rfl ?_
          refine op_gtr rfl rfl rfl ?_
          refine op_pick0 rfl rfl (.bool _) rfl ?_
          refine op_move rfl (.bool _) rfl ?_
          refine Wops_split 50 rfl ?_ ?_
          · intro h7
            replace h7 := dec_t h7
            refine op_skip rfl ?_
            refine op_skip rfl ?_
            refine op_skip rfl ?_
            refine op_skip rfl ?_
            refine op_pick1 rfl rfl (.bool _) rfl ?_
            refine op_nil ?_
            exact ⟨rfl, (), rfl, ⟨congrArg Value.bool (by rw [Bool.eq_iff_iff]; simp_all; first | done | omega), trivial⟩, H⟩
          · intro h8
            replace h8 := dec_f h8
            refine op_fieldAddr rfl fo_33_4_SrG rfl ?_
            refine op_fieldAddr rfl fo_28_0_SrG rfl ?_
            refine op_ldb rfl ag_3_SrG rfl H (by first | exact at0 | exact at1 | exact at2 | exact at3 | exact at4 | exact at5 | exact at6 | exact at7 | exact at8 | exact at9) rfl ?_
            refine op_gtr rfl rfl rfl ?_
            refine op_pick0 rfl rfl (.bool _) rfl ?_
            refine op_nil ?_
            exact ⟨rfl, (), rfl, ⟨congrArg Value.bool (by rw [Bool.eq_iff_iff]; simp_all; first | done | omega), trivial⟩, H⟩
  rintro - j55 w H
  refine W_cond _ rfl ?_ ?_
  · intro h1
    refine W_rseq ?_
    refine op_call rfl ca_10_SrG (works20_ok _) rfl ?_
    rintro v w ⟨rfl, hx56⟩
    replace H := H.call hx56
    refine op_assign rfl (.bool _) rfl ?_
    refine op_nil (at_then ?_)
    refine W_ret (ret_then (leave1 (v := (.bool _)) rfl rfl rfl ?_))
    exact ⟨rfl, H.ext⟩
  · intro h1
    simp only [Bool.or_eq_false_iff, decide_eq_false_iff_not, Nat.not_lt, Int.not_lt] at h1
    obtain ⟨⟨⟨⟨h1e, h1f⟩, h1p⟩, h1i⟩, h1N⟩ := h1
    have hraw : RBnd raw := ⟨hN, by omega, by omega, by omega, by omega⟩
    refine W_skip (at_then ?_)
    refine W_rseq ?_
    refine op_move rfl (.slice _ _ _) rfl ?_
    refine op_move rfl (.slice _ _ _) rfl ?_
    refine op_move rfl (.int _ _) rfl ?_
    refine op_call rfl ca_11_SrG (both20_ok a1 b1 _ c1 _ e1 acs ds nx _ (R1.ext0 H.ext) rfl (R2.ext0 H.ext) rfl hnx hid) rfl ?_
    rintro v w hB
    obtain ⟨p1, p2, p3, p4, is, rfl, hx61, hB⟩ := BothRes.uni' hB bothB_iff
    refine op_move rfl (.tuple _) rfl ?_
    refine op_extract rfl rfl rfl ?_
    refine op_extract rfl rfl rfl ?_
    refine op_extract rfl rfl rfl ?_
    refine op_extract rfl rfl rfl ?_
    refine op_extract rfl rfl rfl ?_
    refine op_assign rfl (.pointer _) rfl ?_
    refine op_assign rfl (.pointer _) rfl ?_
    refine op_assign rfl (.pointer _) rfl ?_
    refine op_assign rfl (.pointer _) rfl ?_
    refine op_assign rfl (.bool _) rfl ?_
    refine op_nil (at_then ?_)
    refine W_seq ?_
    refine W_rseq ?_
    refine op_move rfl (.bool _) rfl ?_
    refine op_not rfl rfl ?_
    refine op_nil (at_then ?_)
    refine W_cond _ rfl ?_ ?_
    · intro h2
      replace h2 := nvar_t h2
      replace H := H.call hx61
      refine W_rseq ?_
      refine op_call rfl ca_10_SrG (works20_ok _) rfl ?_
      rintro v w ⟨rfl, hx69⟩
      replace H := H.call hx69
      refine op_assign rfl (.bool _) rfl ?_
      refine op_nil (at_then ?_)
      refine W_ret (ret_then (leave1 (v := (.bool _)) rfl rfl rfl ?_))
      exact ⟨rfl, H.ext⟩
    · intro h2
      replace h2 := nvar_f h2
      have h2' : is = true := by simpa using h2
      obtain ⟨ha, hd, z, rfl, rfl, rfl, rfl, hz, HL⟩ := hB h2'
      obtain ⟨bx, a, c, full, bd, b, o, ba, ra, rc, rfull, br, ad, cd, fd⟩ := z
      dsimp only [Four.L] at HL ⊢
      obtain ⟨hO, hM, hRO, hRD⟩ := hz
      dsimp only at hO hM hRO hRD
      have hn16 := (aofC_iff.1 ha).1
      have hm64 := (ofC_iff.1 hd).1
      replace H := H.callEnt HL.ext (fun x hx => ⟨HL.blk x hx, (HL.own x hx).elim (fun h => by cases h) id⟩) HL.nd
      clear HL
      obtain ⟨rs, hrs⟩ : ∃ rs, rs = acs.map roomV := ⟨_, rfl⟩
      have hrl : rs.length = acs.length := by rw [hrs, List.length_map]
      refine W_skip (at_then ?_)
      refine W_seq ?_
      refine W_rseq ?_
      refine op_move rfl (.pointer _) rfl ?_
      refine op_eqlptr rfl un_35_SrG rfl ?_
      refine op_move rfl (.bool _) rfl ?_
      refine op_move rfl (.pointer _) rfl ?_
      refine op_eqlptr rfl un_36_SrG rfl ?_
      refine op_pick0 rfl rfl (.bool _) rfl ?_
      refine op_nil (at_then ?_)
      refine W_cond0 rfl ?_
      refine W_skip (at_then ?_)
      refine W_rseq ?_
      refine op_move rfl (.pointer _) rfl ?_
      refine op_move rfl (.pointer _) rfl ?_
      refine op_move rfl (.bool _) rfl ?_
      refine op_call rfl ca_12_SrG (planU_ctx (B := [_]) ha hd net H hO hM) rfl ?_
      rintro v w80 ⟨r, q, code, rfl, hP, hx80⟩
      have H80 := H.call hx80
      have H := Ctx.lend (L2 := []) (show Ctx w0 [] w80 (([(b9, Bl 33 (rcells raw qr))] ++ (LX bx a acs.length c full bd b nx o ++ RX ba ra acs.length rc rfull br ad ds.length cd nx fd)) ++ []) by rw [List.append_nil]; exact H80)
      obtain ⟨S80, hS80⟩ : ∃ S : List Nat, S = ([(b9, Bl 33 (rcells raw qr))] ++ (LX bx a acs.length c full bd b nx o ++ RX ba ra acs.length rc rfull br ad ds.length cd nx fd)).map (fun x : Nat × Obj => x.1) := ⟨_, rfl⟩
      rw [← hS80] at H hP
      replace H : Ctx w80 S80 w80 ([(b9, Bl 33 (rcells raw qr))] ++ (LX bx a acs.length c full bd b nx o ++ RX ba ra acs.length rc rfull br ad ds.length cd nx fd)) := H
      refine op_move rfl (.tuple _) rfl ?_
      refine op_extract rfl rfl rfl ?_
      refine op_extract rfl rfl rfl ?_
      refine op_alloc rfl zc_33_SrG H ?_
      rintro b16 w - H
      refine op_stb0 rfl sz_33_SrG rfl rfl rfl (by simp [oneCell]) H (by first | exact at0 | exact at1 | exact at2 | exact at3 | exact at4 | exact at5 | exact at6 | exact at7 | exact at8 | exact at9) rfl ?_
      rintro w H
      refine op_assign rfl (.int _ _) rfl ?_
      refine op_nil (at_then ?_)
      replace H : Ctx w80 S80 _ ([(b16, Bl 33 (rcells r q)), (b9, Bl 33 (rcells raw qr))] ++ (LX bx a acs.length c full bd b nx o ++ RX ba ra acs.length rc rfull br ad ds.length cd nx fd)) := H
      have hfin : ∀ (w' : World) (L : List (Nat × Obj)), Ctx w80 S80 w' L → Ext [] w0 w' := fun w' L h => by
        rw [hS80] at h
        exact (Ctx.back (L2 := []) (show Ctx w0 [] w80 (([(b9, Bl 33 (rcells raw qr))] ++ (LX bx a acs.length c full bd b nx o ++ RX ba ra acs.length rc rfull br ad ds.length cd nx fd)) ++ []) by rw [List.append_nil]; exact H80) h).ext
      have H5 := H
      have HR := (Ctx.right (L := [_, _]) H).right
      have AR := RX.ac HR hRO
      have hbr := HR.get at1
      have RRd := OS.rd hRD (fun x hx => HR.blk x (List.mem_cons_of_mem _ (List.mem_cons_of_mem _ (List.mem_append_left _ hx)))) (fun _ _ => rfl) (by decide)
      obtain ⟨w5, rfl⟩ : ∃ z, z = w := ⟨_, rfl⟩
      refine W_join 39604409850575251763376160768 (α := NowZ) (fun z => [(18, ptr z.b), (19, .slice z.aI z.nI z.cI), (20, .int .i64 z.code)]) (NetI w5 rs ds net) rfl ?_ ?_
      · skip
        clear H
        refine W_trz (.two [0, 2, 3, 4, 5, 6] 1 (.two [] 7 (.one [8, 9, 10, 11] 12 (.one [] 13 (.one [] 14 (.one [] 15 .stop)))) 12 (.one [] 7 (.one [8, 9, 10, 11] 13 (.one [] 14 (.one [] 15 .stop))))) 12 (.one [] 1 (.one [] 7 (.one [8, 9, 10, 11] 13 (.one [] 14 (.one [] 15 .stop)))))) (fun z => Ext [] w5 z) mixed_SrG (by kernel_rfl) (Ext.drew [] w5) ?_
        refine tr_two rfl rfl rfl ?_
        refine t_move rfl (.pointer _) rfl ?_
        refine t_move rfl (.pointer _) rfl ?_
        refine t_nilCheck rfl rfl ?_
        refine t_fieldAddr rfl fo_48_0_SrG rfl ?_
        first | refine t_ldb rfl ag_23_SrG rfl True.intro (by first | exact at0 | exact at1 | exact at2 | exact at3 | exact at4 | exact at5 | exact at6 | exact at7 | exact at8 | exact at9) rfl ?_ | refine t_ld rfl ag_23_SrG rfl (fun _ hx => (by rw [cell_bl (hx.to hbr (by simp))]; rfl)) ?_
        refine t_move rfl (.bool _) rfl ?_
        refine t_nil ?_
        have E := Ext.drew [] w5
        refine ⟨?_, ?_⟩
        · skip
          refine op_call rfl ca_14_SrG (rrooms7_ok ha _ (AR.ext0 E)) rfl ?_
          rintro v w ⟨hx85, a2, c2, rfl, R2⟩
          rw [← hrs] at R2 ⊢
          replace E := E.trans hx85
          refine op_nil (at_tr (by first | exact E | exact E.trans H.ext | exact E.then H.ext (fun x hx => .inr (by rw [List.mem_singleton.1 hx]; exact hn7))) ?_)
          refine tr_two rfl rfl rfl ?_
          refine t_nil ?_
          refine ⟨?_, ?_⟩
          · skip
            refine op_call rfl ca_13_SrG (r19round_ok a2 ad _ c2 _ cd rs ds net _ R2 rfl (by omega) (RRd.ext0 E) rfl (by omega)) rfl ?_
            rintro v w hR
            obtain ⟨hx91, N, aE, nE, cE, aI, nI, cI, code', rfl, hU⟩ := hR.uni
            replace E := E.trans hx91
            refine op_nil (at_tr (by first | exact E | exact E.trans H.ext | exact E.then H.ext (fun x hx => .inr (by rw [List.mem_singleton.1 hx]; exact hn7))) ?_)
            refine tr_one rfl rfl ?_
            refine t_move rfl (.tuple _) rfl ?_
            refine t_extract rfl rfl rfl ?_
            refine t_extract rfl rfl rfl ?_
            refine t_extract rfl rfl rfl ?_
            refine t_nil ?_
            have H := Ctx.start w []
            refine op_alloc rfl zc_28_SrG H ?_
            rintro b18 w - H
            refine op_nil (at_tr (by first | exact E | exact E.trans H.ext | exact E.then H.ext (fun x hx => .inr (by rw [List.mem_singleton.1 hx]; exact hn7))) ?_)
            refine tr_one rfl rfl ?_
            refine t_nil ?_
            refine op_stb0 rfl sz_28_SrG rfl rfl rfl (by simp [oneCell]) H (by first | exact at0 | exact at1 | exact at2 | exact at3 | exact at4 | exact at5 | exact at6 | exact at7 | exact at8 | exact at9) rfl ?_
            rintro w H
            refine op_nil (at_tr (by first | exact E | exact E.trans H.ext | exact E.then H.ext (fun x hx => .inr (by rw [List.mem_singleton.1 hx]; exact hn7))) ?_)
            refine tr_one rfl rfl ?_
            refine t_nil ?_
            refine op_assign rfl (.slice _ _ _) rfl ?_
            refine op_nil (at_tr (by first | exact E | exact E.trans H.ext | exact E.then H.ext (fun x hx => .inr (by rw [List.mem_singleton.1 hx]; exact hn7))) ?_)
            refine tr_one rfl rfl ?_
            refine t_nil ?_
            refine op_assign rfl (.int _ _) rfl ?_
            refine op_nil (at_tr (by first | exact E | exact E.trans H.ext | exact E.then H.ext (fun x hx => .inr (by rw [List.mem_singleton.1 hx]; exact hn7))) ?_)
            refine tr_stop ?_
            refine at_then ?_
            exact ⟨⟨b18, N, aE, nE, cE, aI, nI, cI, code'⟩, rfl, ⟨rfl, rfl, rfl, trivial⟩, E.trans H.ext, H.get at0, hU [] _ (by simp) H.ext, Nat.le_trans E.size ((H.own _ (List.mem_cons_self ..)).elim (fun h => by cases h) id)⟩
          · skip
            have H := Ctx.start w []
            refine op_alloc rfl zc_28_SrG H ?_
            rintro b18 w - H
            have hn7 : w5.heap.size ≤ b18 := Nat.le_trans E.size ((H.own _ (List.mem_cons_self ..)).elim (fun h => by cases h) id)
            replace E := E.trans H.ext
            have hb18 := H.get at0
            replace R2 := R2.ext0 H.ext
            refine op_nil (at_tr (by first | exact E | exact E.trans H.ext | exact E.then H.ext (fun x hx => .inr (by rw [List.mem_singleton.1 hx]; exact hn7))) ?_)
            refine tr_one rfl rfl ?_
            refine t_nil ?_
            have hl7 := heap_lt hb18
            refine op_call rfl ca_13_SrG (r19round_ok a2 ad _ c2 _ cd rs ds net _ R2 rfl (by omega) (RRd.ext0 E) rfl (by omega)) rfl ?_
            rintro v w hR
            obtain ⟨hx91, N, aE, nE, cE, aI, nI, cI, code', rfl, hU⟩ := hR.uni
            replace E := E.trans hx91
            replace hb18 := hx91.to hb18 (by simp)
            have H := Ctx.start1 hb18
            refine op_nil (at_tr (by first | exact E | exact E.trans H.ext | exact E.then H.ext (fun x hx => .inr (by rw [List.mem_singleton.1 hx]; exact hn7))) ?_)
            refine tr_one rfl rfl ?_
            refine t_move rfl (.tuple _) rfl ?_
            refine t_extract rfl rfl rfl ?_
            refine t_extract rfl rfl rfl ?_
            refine t_extract rfl rfl rfl ?_
            refine t_nil ?_
            refine op_stb0 rfl sz_28_SrG rfl rfl rfl (by simp [oneCell]) H (by first | exact at0 | exact at1 | exact at2 | exact at3 | exact at4 | exact at5 | exact at6 | exact at7 | exact at8 | exact at9) rfl ?_
            rintro w H
            refine op_nil (at_tr (by first | exact E | exact E.trans H.ext | exact E.then H.ext (fun x hx => .inr (by rw [List.mem_singleton.1 hx]; exact hn7))) ?_)
            refine tr_one rfl rfl ?_
            refine t_nil ?_
            refine op_assign rfl (.slice _ _ _) rfl ?_
            refine op_nil (at_tr (by first | exact E | exact E.trans H.ext | exact E.then H.ext (fun x hx => .inr (by rw [List.mem_singleton.1 hx]; exact hn7))) ?_)
            refine tr_one rfl rfl ?_
            refine t_nil ?_
            refine op_assign rfl (.int _ _) rfl ?_
            refine op_nil (at_tr (by first | exact E | exact E.trans H.ext | exact E.then H.ext (fun x hx => .inr (by rw [List.mem_singleton.1 hx]; exact hn7))) ?_)
            refine tr_stop ?_
            refine at_then ?_
            have E2 := E.then H.ext fun x hx => .inr (by rw [List.mem_singleton.1 hx]; exact hn7)
            exact ⟨⟨b18, N, aE, nE, cE, aI, nI, cI, code'⟩, rfl, ⟨rfl, rfl, rfl, trivial⟩, E2, H.get at0, hU [b18] _ (by simpa using hl7) H.ext, hn7⟩
        · skip
          have H := Ctx.start (World.drew w5) []
          refine op_alloc rfl zc_28_SrG H ?_
          rintro b18 w - H
          have hn7 : w5.heap.size ≤ b18 := Nat.le_trans E.size ((H.own _ (List.mem_cons_self ..)).elim (fun h => by cases h) id)
          replace E := E.trans H.ext
          have hb18 := H.get at0
          refine op_nil (at_tr (by first | exact E | exact E.trans H.ext | exact E.then H.ext (fun x hx => .inr (by rw [List.mem_singleton.1 hx]; exact hn7))) ?_)
          refine tr_one rfl rfl ?_
          refine t_nil ?_
          refine op_call rfl ca_14_SrG (rrooms7_ok ha _ (AR.ext0 E)) rfl ?_
          rintro v w ⟨hx85, a2, c2, rfl, R2⟩
          rw [← hrs] at R2 ⊢
          replace E := E.trans hx85
          replace hb18 := hx85.to hb18 (by simp)
          refine op_nil (at_tr (by first | exact E | exact E.trans H.ext | exact E.then H.ext (fun x hx => .inr (by rw [List.mem_singleton.1 hx]; exact hn7))) ?_)
          refine tr_one rfl rfl ?_
          refine t_nil ?_
          have hl7 := heap_lt hb18
          refine op_call rfl ca_13_SrG (r19round_ok a2 ad _ c2 _ cd rs ds net _ R2 rfl (by omega) (RRd.ext0 E) rfl (by omega)) rfl ?_
          rintro v w hR
          obtain ⟨hx91, N, aE, nE, cE, aI, nI, cI, code', rfl, hU⟩ := hR.uni
          replace E := E.trans hx91
          replace hb18 := hx91.to hb18 (by simp)
          have H := Ctx.start1 hb18
          refine op_nil (at_tr (by first | exact E | exact E.trans H.ext | exact E.then H.ext (fun x hx => .inr (by rw [List.mem_singleton.1 hx]; exact hn7))) ?_)
          refine tr_one rfl rfl ?_
          refine t_move rfl (.tuple _) rfl ?_
          refine t_extract rfl rfl rfl ?_
          refine t_extract rfl rfl rfl ?_
          refine t_extract rfl rfl rfl ?_
          refine t_nil ?_
          refine op_stb0 rfl sz_28_SrG rfl rfl rfl (by simp [oneCell]) H (by first | exact at0 | exact at1 | exact at2 | exact at3 | exact at4 | exact at5 | exact at6 | exact at7 | exact at8 | exact at9) rfl ?_
          rintro w H
          refine op_nil (at_tr (by first | exact E | exact E.trans H.ext | exact E.then H.ext (fun x hx => .inr (by rw [List.mem_singleton.1 hx]; exact hn7))) ?_)
          refine tr_one rfl rfl ?_
          refine t_nil ?_
          refine op_assign rfl (.slice _ _ _) rfl ?_
          refine op_nil (at_tr (by first | exact E | exact E.trans H.ext | exact E.then H.ext (fun x hx => .inr (by rw [List.mem_singleton.1 hx]; exact hn7))) ?_)
          refine tr_one rfl rfl ?_
          refine t_nil ?_
          refine op_assign rfl (.int _ _) rfl ?_
          refine op_nil (at_tr (by first | exact E | exact E.trans H.ext | exact E.then H.ext (fun x hx => .inr (by rw [List.mem_singleton.1 hx]; exact hn7))) ?_)
          refine tr_stop ?_
          refine at_then ?_
          have E2 := E.then H.ext fun x hx => .inr (by rw [List.mem_singleton.1 hx]; exact hn7)
          exact ⟨⟨b18, N, aE, nE, cE, aI, nI, cI, code'⟩, rfl, ⟨rfl, rfl, rfl, trivial⟩, E2, H.get at0, hU [b18] _ (by simpa using hl7) H.ext, hn7⟩
      · rintro ⟨b18, N, aE, nE, cE, aI, nI, cI, code'⟩ j1 w ⟨hx9, hb18, hU, hn18⟩; dsimp only at hx9 hb18 hU hn18; dsimp only
        clear HR AR hbr RRd
        replace H : Ctx w80 S80 _ ([(b18, Bl 28 [.int .i64 N, .slice aE nE cE]), (b16, Bl 33 (rcells r q)), (b9, Bl 33 (rcells raw qr))] ++ (LX bx a acs.length c full bd b nx o ++ RX ba ra acs.length rc rfull br ad ds.length cd nx fd)) := (H5.call hx9).add hb18 (.inr (Nat.le_trans H5.size hn18)) (fun x hx => by have := heap_lt (H5.blk x hx); omega)
        rcases hP with ⟨hbb, rfl⟩ | ⟨hbb, rfl, P, RA, hoff⟩
        · skip
          obtain rfl : code' = 1 := by
            rcases hU with ⟨-, h, -⟩ | ⟨h, -⟩
            · exact h
            · rw [hrs, hbb] at h; cases h
          obtain ⟨w1, rfl⟩ : ∃ z, z = w := ⟨_, rfl⟩
          have HG := H
          have HX := (Ctx.right (L := [_, _, _]) H).left
          have HR := (Ctx.right (L := [_, _, _]) H).right
          have hbx := HX.get at0
          have hba := HR.get at0
          have hbr := HR.get at1
          have RXa : Rd w1 a 2 encA acs := OS.rd hO (fun x hx => HX.blk x (List.mem_cons_of_mem _ (List.mem_cons_of_mem _ (List.mem_cons_of_mem _ hx)))) (fun _ _ => rfl) (by decide)
          have RRa : Rd w1 ra 2 encA acs := OS.rd hRO (fun x hx => HR.blk x (List.mem_cons_of_mem _ (List.mem_cons_of_mem _ (List.mem_append_right _ hx)))) (fun _ _ => rfl) (by decide)
          have RRd : Rd w1 ad 7 encD ds := OS.rd hRD (fun x hx => HR.blk x (List.mem_cons_of_mem _ (List.mem_cons_of_mem _ (List.mem_append_left _ hx)))) (fun _ _ => rfl) (by decide)
          have DU1 : DuAt w1 bd ds := LX.du HX hM
          have H := Ctx.start w1 []
          refine W_seq ?_
          refine W_sseqz [([0, 1, 2, 3, 4, 6, 7, 8, 9], 5), ([], 10), ([11, 12, 13, 14, 16, 17, 18, 19], 15), ([], 20), ([21], 22)] (fun z => Ext [] w1 z) [] mixed_SrG (by kernel_rfl) (Ext.drew [] w1) ?_
          refine seg_cons rfl rfl ?_
          refine t_move rfl (.int _ _) rfl ?_
          refine t_move rfl (.int _ _) rfl ?_
          refine t_neq rfl rfl rfl ?_
          refine t_move rfl (.bool _) rfl ?_
          refine t_move rfl (.pointer _) rfl ?_
          refine t_move rfl (.pointer _) rfl ?_
          refine t_nilCheck rfl rfl ?_
          refine t_fieldAddr rfl fo_52_0_SrG rfl ?_
          first | refine t_ldb rfl ag_22_SrG rfl True.intro (by first | exact at0 | exact at1 | exact at2 | exact at3 | exact at4 | exact at5 | exact at6 | exact at7 | exact at8 | exact at9) rfl ?_ | refine t_ld rfl ag_22_SrG rfl (fun _ hx => (by rw [cell_bl (hx.to hba (by simp))]; rfl)) ?_ | refine t_ld rfl ag_22_SrG rfl (fun _ hx => (by rw [cell_bl (hx.to hbr (by simp))]; rfl)) ?_
          refine t_nil ?_
          replace H := H.drew
          refine op_call rfl ca_16_SrG (alist_ok (bd := bx) a _ c acs _ (H.ext.to hbx (by simp)) (RXa.ext0 H.ext) rfl (by omega)) rfl ?_
          rintro v w Fl
          obtain ⟨al, nl, cl, fl7, rfl, Ol, hbl⟩ := Fl.ex
          obtain rfl := Ol.numN (fun _ _ => rfl) (by decide)
          replace H := H.call Fl.ext
          have Rl : Rd w al 2 encA acs := OS.rd Ol (fun x hx => (hbl x hx).1) (fun _ _ => rfl) (by decide)
          refine op_nil (at_seg (H.ext) ?_)
          refine seg_cons rfl rfl ?_
          refine t_nil ?_
          refine op_call rfl ca_15_SrG (same17_ok al ra _ cl _ rc acs acs _ (Rl.ext0 (Ext.refl _ _)) rfl (by omega) (RRa.ext0 H.ext) rfl (by omega)) rfl ?_
          rintro v w ⟨rfl, hxs⟩
          replace H := H.call hxs
          rw [show decide (acs = acs) = true from decide_eq_true rfl]
          refine op_nil (at_seg (H.ext) ?_)
          refine seg_cons rfl rfl ?_
          refine t_not rfl rfl ?_
          refine t_pick0 rfl rfl (.bool _) rfl ?_
          refine t_move rfl (.bool _) rfl ?_
          refine t_move rfl (.pointer _) rfl ?_
          refine t_move rfl (.pointer _) rfl ?_
          refine t_nilCheck rfl rfl ?_
          refine t_fieldAddr rfl fo_48_0_SrG rfl ?_
          first | refine t_ldb rfl ag_23_SrG rfl True.intro (by first | exact at0 | exact at1 | exact at2 | exact at3 | exact at4 | exact at5 | exact at6 | exact at7 | exact at8 | exact at9) rfl ?_ | refine t_ld rfl ag_23_SrG rfl (fun _ hx => (by rw [cell_bl (hx.to hba (by simp))]; rfl)) ?_ | refine t_ld rfl ag_23_SrG rfl (fun _ hx => (by rw [cell_bl (hx.to hbr (by simp))]; rfl)) ?_
          refine t_nil ?_
          refine op_call rfl ca_18_SrG (list7_ok hd _ (DU1.ext0 H.ext)) rfl ?_
          rintro v w ⟨hxd, a3, c3, rfl, Rd3⟩
          replace H := H.call hxd
          refine op_nil (at_seg (H.ext) ?_)
          refine seg_cons rfl rfl ?_
          refine t_nil ?_
          refine op_call rfl ca_17_SrG (same18_ok a3 ad _ c3 _ cd ds ds _ Rd3 rfl (by omega) (RRd.ext0 H.ext) rfl (by omega)) rfl ?_
          rintro v w ⟨rfl, hxs⟩
          replace H := H.call hxs
          rw [show decide (ds = ds) = true from decide_eq_true rfl]
          refine op_nil (at_seg (H.ext) ?_)
          refine seg_cons rfl rfl ?_
          refine t_not rfl rfl ?_
          refine t_nil ?_
          refine op_pick0 rfl rfl (.bool _) rfl ?_
          refine op_nil (at_seg (H.ext) ?_)
          refine seg_nil ?_
          refine W_cond0 rfl ?_
          refine W_skip (at_then ?_)
          refine W_seq ?_
          have H := HG.call H.ext
          refine W_rseq ?_
          refine op_move rfl (.int _ _) rfl ?_
          refine op_neq rfl rfl rfl ?_
          refine op_nil (at_then ?_)
          refine W_cond1 rfl ?_
          refine W_rseq ?_
          refine op_call rfl ca_10_SrG (works20_ok _) rfl ?_
          rintro v w ⟨rfl, hx120⟩
          replace H := H.call hx120
          refine op_assign rfl (.bool _) rfl ?_
          refine op_nil (at_then ?_)
          refine W_ret (ret_then (leave1 (v := (.bool _)) rfl rfl rfl ?_))
          exact ⟨rfl, hfin _ _ H⟩
        · skip
          rcases hU with ⟨h, -⟩ | ⟨-, rfl, hNN, hnE, RE, aI', cI', hI, RI⟩
          · rw [hrs, hbb] at h; cases h
          cases hI
          obtain rfl : N = r.N := by rw [hNN, P.N, hrl]
          have hes : roundE rs (opn ds) net = r.es := by rw [P.es, hrs]
          rw [hes] at hnE RE
          subst hnE
          have hr := plan_bnd P
          obtain ⟨w1, rfl⟩ : ∃ z, z = w := ⟨_, rfl⟩
          have HG := H
          have HX := (Ctx.right (L := [_, _, _]) H).left
          have HR := (Ctx.right (L := [_, _, _]) H).right
          have hbx := HX.get at0
          have hba := HR.get at0
          have hbr := HR.get at1
          have RXa : Rd w1 a 2 encA acs := OS.rd hO (fun x hx => HX.blk x (List.mem_cons_of_mem _ (List.mem_cons_of_mem _ (List.mem_cons_of_mem _ hx)))) (fun _ _ => rfl) (by decide)
          have RRa : Rd w1 ra 2 encA acs := OS.rd hRO (fun x hx => HR.blk x (List.mem_cons_of_mem _ (List.mem_cons_of_mem _ (List.mem_append_right _ hx)))) (fun _ _ => rfl) (by decide)
          have RRd : Rd w1 ad 7 encD ds := OS.rd hRD (fun x hx => HR.blk x (List.mem_cons_of_mem _ (List.mem_cons_of_mem _ (List.mem_append_left _ hx)))) (fun _ _ => rfl) (by decide)
          have DU1 : DuAt w1 bd ds := LX.du HX hM
          have H := Ctx.start w1 []
          refine W_seq ?_
          refine W_sseqz [([0, 1, 2, 3, 4, 6, 7, 8, 9], 5), ([], 10), ([11, 12, 13, 14, 16, 17, 18, 19], 15), ([], 20), ([21], 22)] (fun z => Ext [] w1 z) [] mixed_SrG (by kernel_rfl) (Ext.drew [] w1) ?_
          refine seg_cons rfl rfl ?_
          refine t_move rfl (.int _ _) rfl ?_
          refine t_move rfl (.int _ _) rfl ?_
          refine t_neq rfl rfl rfl ?_
          refine t_move rfl (.bool _) rfl ?_
          refine t_move rfl (.pointer _) rfl ?_
          refine t_move rfl (.pointer _) rfl ?_
          refine t_nilCheck rfl rfl ?_
          refine t_fieldAddr rfl fo_52_0_SrG rfl ?_
          first | refine t_ldb rfl ag_22_SrG rfl True.intro (by first | exact at0 | exact at1 | exact at2 | exact at3 | exact at4 | exact at5 | exact at6 | exact at7 | exact at8 | exact at9) rfl ?_ | refine t_ld rfl ag_22_SrG rfl (fun _ hx => (by rw [cell_bl (hx.to hba (by simp))]; rfl)) ?_ | refine t_ld rfl ag_22_SrG rfl (fun _ hx => (by rw [cell_bl (hx.to hbr (by simp))]; rfl)) ?_
          refine t_nil ?_
          replace H := H.drew
          refine op_call rfl ca_16_SrG (alist_ok (bd := bx) a _ c acs _ (H.ext.to hbx (by simp)) (RXa.ext0 H.ext) rfl (by omega)) rfl ?_
          rintro v w Fl
          obtain ⟨al, nl, cl, fl7, rfl, Ol, hbl⟩ := Fl.ex
          obtain rfl := Ol.numN (fun _ _ => rfl) (by decide)
          replace H := H.call Fl.ext
          have Rl : Rd w al 2 encA acs := OS.rd Ol (fun x hx => (hbl x hx).1) (fun _ _ => rfl) (by decide)
          refine op_nil (at_seg (H.ext) ?_)
          refine seg_cons rfl rfl ?_
          refine t_nil ?_
          refine op_call rfl ca_15_SrG (same17_ok al ra _ cl _ rc acs acs _ (Rl.ext0 (Ext.refl _ _)) rfl (by omega) (RRa.ext0 H.ext) rfl (by omega)) rfl ?_
          rintro v w ⟨rfl, hxs⟩
          replace H := H.call hxs
          rw [show decide (acs = acs) = true from decide_eq_true rfl]
          refine op_nil (at_seg (H.ext) ?_)
          refine seg_cons rfl rfl ?_
          refine t_not rfl rfl ?_
          refine t_pick0 rfl rfl (.bool _) rfl ?_
          refine t_move rfl (.bool _) rfl ?_
          refine t_move rfl (.pointer _) rfl ?_
          refine t_move rfl (.pointer _) rfl ?_
          refine t_nilCheck rfl rfl ?_
          refine t_fieldAddr rfl fo_48_0_SrG rfl ?_
          first | refine t_ldb rfl ag_23_SrG rfl True.intro (by first | exact at0 | exact at1 | exact at2 | exact at3 | exact at4 | exact at5 | exact at6 | exact at7 | exact at8 | exact at9) rfl ?_ | refine t_ld rfl ag_23_SrG rfl (fun _ hx => (by rw [cell_bl (hx.to hba (by simp))]; rfl)) ?_ | refine t_ld rfl ag_23_SrG rfl (fun _ hx => (by rw [cell_bl (hx.to hbr (by simp))]; rfl)) ?_
          refine t_nil ?_
          refine op_call rfl ca_18_SrG (list7_ok hd _ (DU1.ext0 H.ext)) rfl ?_
          rintro v w ⟨hxd, a3, c3, rfl, Rd3⟩
          replace H := H.call hxd
          refine op_nil (at_seg (H.ext) ?_)
          refine seg_cons rfl rfl ?_
          refine t_nil ?_
          refine op_call rfl ca_17_SrG (same18_ok a3 ad _ c3 _ cd ds ds _ Rd3 rfl (by omega) (RRd.ext0 H.ext) rfl (by omega)) rfl ?_
          rintro v w ⟨rfl, hxs⟩
          replace H := H.call hxs
          rw [show decide (ds = ds) = true from decide_eq_true rfl]
          refine op_nil (at_seg (H.ext) ?_)
          refine seg_cons rfl rfl ?_
          refine t_not rfl rfl ?_
          refine t_nil ?_
          refine op_pick0 rfl rfl (.bool _) rfl ?_
          refine op_nil (at_seg (H.ext) ?_)
          refine seg_nil ?_
          refine W_cond0 rfl ?_
          refine W_skip (at_then ?_)
          refine W_seq ?_
          have hxw := H.ext
          have H : Ctx w80 S80 _ ((b18, Bl 28 [.int .i64 r.N, .slice aE r.es.length cE]) :: (b16, Bl 33 (rcells r q)) :: (b9, Bl 33 (rcells raw qr)) :: (LX bx a acs.length c full bd b nx o ++ RX ba ra acs.length rc rfull br ad ds.length cd nx fd)) := HG.call hxw
          have REw := RE.ext0 hxw
          obtain ⟨w10, rfl⟩ : ∃ z, z = w := ⟨_, rfl⟩
          have hre : ∀ (w' : World), Ctx w80 S80 w' ((b18, Bl 28 [.int .i64 r.N, .slice aE r.es.length cE]) :: (b16, Bl 33 (rcells r q)) :: (b9, Bl 33 (rcells raw qr)) :: (LX bx a acs.length c full bd b nx o ++ RX ba ra acs.length rc rfull br ad ds.length cd nx fd)) → RAt w' r q := fun w' h => RA.ext h.ext hoff
          refine W_rseq ?_
          refine op_move rfl (.int _ _) rfl ?_
          refine op_neq rfl rfl rfl ?_
          refine op_nil (at_then ?_)
          refine W_cond0 rfl ?_
          refine W_skip (at_then ?_)
          refine W_seq ?_
          refine W_rseq ?_
          refine op_fieldAddr rfl fo_33_0_SrG rfl ?_
          first | refine op_ldb rfl ag_24_SrG rfl H (by first | exact at0 | exact at1 | exact at2 | exact at3 | exact at4 | exact at5 | exact at6 | exact at7 | exact at8 | exact at9) rfl ?_ | refine op_ld rfl ag_24_SrG rfl ((by rw [cell_bl (hx.to hba (by simp))]; rfl)) ?_ | refine op_ld rfl ag_24_SrG rfl ((by rw [cell_bl (hx.to hbr (by simp))]; rfl)) ?_
          refine op_neq rfl rfl rfl ?_
          rw [P.no]
          refine op_move rfl (.bool _) rfl ?_
          refine op_fieldAddr rfl fo_33_1_SrG rfl ?_
          first | refine op_ldb rfl ag_2_SrG rfl H (by first | exact at0 | exact at1 | exact at2 | exact at3 | exact at4 | exact at5 | exact at6 | exact at7 | exact at8 | exact at9) rfl ?_ | refine op_ld rfl ag_2_SrG rfl ((by rw [cell_bl (hx.to hba (by simp))]; rfl)) ?_ | refine op_ld rfl ag_2_SrG rfl ((by rw [cell_bl (hx.to hbr (by simp))]; rfl)) ?_
          refine op_neq rfl rfl rfl ?_
          rw [P.day]
          refine op_pick0 rfl rfl (.bool _) rfl ?_
          refine op_move rfl (.bool _) rfl ?_
          refine op_fieldAddr rfl fo_33_2_SrG rfl ?_
          first | refine op_ldb rfl ag_4_SrG rfl H (by first | exact at0 | exact at1 | exact at2 | exact at3 | exact at4 | exact at5 | exact at6 | exact at7 | exact at8 | exact at9) rfl ?_ | refine op_ld rfl ag_4_SrG rfl ((by rw [cell_bl (hx.to hba (by simp))]; rfl)) ?_ | refine op_ld rfl ag_4_SrG rfl ((by rw [cell_bl (hx.to hbr (by simp))]; rfl)) ?_
          refine op_move rfl (.bool _) rfl ?_
          refine op_neqb un_4_SrG rfl rfl rfl ?_
          rw [P.cmp, show (!(net == net)) = false from by simp]
          refine op_pick0 rfl rfl (.bool _) rfl ?_
          refine op_move rfl (.bool _) rfl ?_
          refine op_fieldAddr rfl fo_33_4_SrG rfl ?_
          first | refine op_ldN _ rfl ag_28_SrG sz_28_SrG rfl rfl ((sub_cells (b := b16) (t := 33) (l := rcells r q) (H.get at1) 4 [.int .i64 r.N, .slice q.aE r.es.length q.cE] rfl)) ?_ | refine op_ldN _ rfl ag_28_SrG sz_28_SrG rfl rfl ((sub_cells (b := b18) (t := 28) (l := [.int .i64 r.N, .slice aE r.es.length cE]) (H.get at0) 0 [.int .i64 r.N, .slice aE r.es.length cE] rfl)) ?_ | refine op_ldN _ rfl ag_28_SrG sz_28_SrG rfl rfl ((sub_cells (b := b16) (t := 33) (l := rcells r q) (H.get at1) 6 [.slice q.aF r.fl.length q.cF, .slice q.aP r.pot.length q.cP] rfl)) ?_ | refine op_ldbN rfl ag_28_SrG sz_28_SrG rfl H (by first | exact at0 | exact at1 | exact at2 | exact at3 | exact at4 | exact at5 | exact at6 | exact at7 | exact at8 | exact at9) rfl ?_
          first | refine op_ldN _ rfl ag_28_SrG sz_28_SrG rfl rfl ((sub_cells (b := b16) (t := 33) (l := rcells r q) (H.get at1) 4 [.int .i64 r.N, .slice q.aE r.es.length q.cE] rfl)) ?_ | refine op_ldN _ rfl ag_28_SrG sz_28_SrG rfl rfl ((sub_cells (b := b18) (t := 28) (l := [.int .i64 r.N, .slice aE r.es.length cE]) (H.get at0) 0 [.int .i64 r.N, .slice aE r.es.length cE] rfl)) ?_ | refine op_ldN _ rfl ag_28_SrG sz_28_SrG rfl rfl ((sub_cells (b := b16) (t := 33) (l := rcells r q) (H.get at1) 6 [.slice q.aF r.fl.length q.cF, .slice q.aP r.pot.length q.cP] rfl)) ?_ | refine op_ldbN rfl ag_28_SrG sz_28_SrG rfl H (by first | exact at0 | exact at1 | exact at2 | exact at3 | exact at4 | exact at5 | exact at6 | exact at7 | exact at8 | exact at9) rfl ?_
          refine op_call rfl ca_19_SrG (sameNet_ok r.N r.N q.aE aE _ q.cE _ cE r.es r.es _ (hre _ H).E rfl hr.es REw rfl hr.es) rfl ?_
          rintro v w ⟨rfl, hx139⟩
          replace H := H.call hx139
          rw [show sameB r.N r.N r.es r.es = true from by unfold sameB; simp]
          replace REw := REw.ext0 hx139
          refine op_not rfl rfl ?_
          refine op_pick0 rfl rfl (.bool _) rfl ?_
          refine op_move rfl (.bool _) rfl ?_
          refine op_fieldAddr rfl fo_33_3_SrG rfl ?_
          first | refine op_ldb rfl ag_25_SrG rfl H (by first | exact at0 | exact at1 | exact at2 | exact at3 | exact at4 | exact at5 | exact at6 | exact at7 | exact at8 | exact at9) rfl ?_ | refine op_ld rfl ag_25_SrG rfl ((by rw [cell_bl (hx.to hba (by simp))]; rfl)) ?_ | refine op_ld rfl ag_25_SrG rfl ((by rw [cell_bl (hx.to hbr (by simp))]; rfl)) ?_
          refine op_len rfl el_25_SrG rfl ?_
          refine op_move rfl (.slice _ _ _) rfl ?_
          refine op_len rfl el_25_SrG rfl ?_
          refine op_neq rfl rfl rfl ?_
          rw [show (!decide ((r.ids.length : Int) = (((opn ds).map Du.id).length : Int))) = false from by rw [P.ids]; simp]
          refine op_pick0 rfl rfl (.bool _) rfl ?_
          refine op_move rfl (.bool _) rfl ?_
          first | refine op_ldN _ rfl ag_28_SrG sz_28_SrG rfl rfl ((sub_cells (b := b16) (t := 33) (l := rcells r q) (H.get at1) 4 [.int .i64 r.N, .slice q.aE r.es.length q.cE] rfl)) ?_ | refine op_ldN _ rfl ag_28_SrG sz_28_SrG rfl rfl ((sub_cells (b := b18) (t := 28) (l := [.int .i64 r.N, .slice aE r.es.length cE]) (H.get at0) 0 [.int .i64 r.N, .slice aE r.es.length cE] rfl)) ?_ | refine op_ldN _ rfl ag_28_SrG sz_28_SrG rfl rfl ((sub_cells (b := b16) (t := 33) (l := rcells r q) (H.get at1) 6 [.slice q.aF r.fl.length q.cF, .slice q.aP r.pot.length q.cP] rfl)) ?_ | refine op_ldbN rfl ag_28_SrG sz_28_SrG rfl H (by first | exact at0 | exact at1 | exact at2 | exact at3 | exact at4 | exact at5 | exact at6 | exact at7 | exact at8 | exact at9) rfl ?_
          refine op_fieldAddr rfl fo_33_5_SrG rfl ?_
          first | refine op_ldN _ rfl ag_31_SrG sz_31_SrG rfl rfl ((sub_cells (b := b16) (t := 33) (l := rcells r q) (H.get at1) 4 [.int .i64 r.N, .slice q.aE r.es.length q.cE] rfl)) ?_ | refine op_ldN _ rfl ag_31_SrG sz_31_SrG rfl rfl ((sub_cells (b := b18) (t := 28) (l := [.int .i64 r.N, .slice aE r.es.length cE]) (H.get at0) 0 [.int .i64 r.N, .slice aE r.es.length cE] rfl)) ?_ | refine op_ldN _ rfl ag_31_SrG sz_31_SrG rfl rfl ((sub_cells (b := b16) (t := 33) (l := rcells r q) (H.get at1) 6 [.slice q.aF r.fl.length q.cF, .slice q.aP r.pot.length q.cP] rfl)) ?_ | refine op_ldbN rfl ag_31_SrG sz_31_SrG rfl H (by first | exact at0 | exact at1 | exact at2 | exact at3 | exact at4 | exact at5 | exact at6 | exact at7 | exact at8 | exact at9) rfl ?_
          refine op_call rfl ca_20_SrG (r14check_ok r.N aE q.aF q.aP _ cE _ q.cF _ q.cP r.es r.fl r.pot _ REw rfl hr.es (hre _ H).F rfl hr.fl (hre _ H).P rfl hr.pot) rfl ?_
          rintro v w ⟨rfl, hx154⟩
          replace H := H.call hx154
          rw [P.chk]
          refine op_not rfl rfl ?_
          refine op_pick0 rfl rfl (.bool _) rfl ?_
          refine op_nil (at_then ?_)
          refine W_cond0 rfl ?_
          refine W_skip (at_then ?_)
          refine W_rseq ?_
          first | refine op_ldN _ rfl ag_33_SrG sz_33_SrG rfl rfl ((sub_cells (b := b16) (t := 33) (l := rcells r q) (H.get at1) 4 [.int .i64 r.N, .slice q.aE r.es.length q.cE] rfl)) ?_ | refine op_ldN _ rfl ag_33_SrG sz_33_SrG rfl rfl ((sub_cells (b := b18) (t := 28) (l := [.int .i64 r.N, .slice aE r.es.length cE]) (H.get at0) 0 [.int .i64 r.N, .slice aE r.es.length cE] rfl)) ?_ | refine op_ldN _ rfl ag_33_SrG sz_33_SrG rfl rfl ((sub_cells (b := b16) (t := 33) (l := rcells r q) (H.get at1) 6 [.slice q.aF r.fl.length q.cF, .slice q.aP r.pot.length q.cP] rfl)) ?_ | refine op_ldbN rfl ag_33_SrG sz_33_SrG rfl H (by first | exact at0 | exact at1 | exact at2 | exact at3 | exact at4 | exact at5 | exact at6 | exact at7 | exact at8 | exact at9) rfl ?_
          first | refine op_ldN _ rfl ag_33_SrG sz_33_SrG rfl rfl ((sub_cells (b := b16) (t := 33) (l := rcells r q) (H.get at1) 4 [.int .i64 r.N, .slice q.aE r.es.length q.cE] rfl)) ?_ | refine op_ldN _ rfl ag_33_SrG sz_33_SrG rfl rfl ((sub_cells (b := b18) (t := 28) (l := [.int .i64 r.N, .slice aE r.es.length cE]) (H.get at0) 0 [.int .i64 r.N, .slice aE r.es.length cE] rfl)) ?_ | refine op_ldN _ rfl ag_33_SrG sz_33_SrG rfl rfl ((sub_cells (b := b16) (t := 33) (l := rcells r q) (H.get at1) 6 [.slice q.aF r.fl.length q.cF, .slice q.aP r.pot.length q.cP] rfl)) ?_ | refine op_ldbN rfl ag_33_SrG sz_33_SrG rfl H (by first | exact at0 | exact at1 | exact at2 | exact at3 | exact at4 | exact at5 | exact at6 | exact at7 | exact at8 | exact at9) rfl ?_
          first | refine op_ldN _ rfl ag_33_SrG sz_33_SrG rfl rfl ((sub_cells (b := b16) (t := 33) (l := rcells r q) (H.get at1) 4 [.int .i64 r.N, .slice q.aE r.es.length q.cE] rfl)) ?_ | refine op_ldN _ rfl ag_33_SrG sz_33_SrG rfl rfl ((sub_cells (b := b18) (t := 28) (l := [.int .i64 r.N, .slice aE r.es.length cE]) (H.get at0) 0 [.int .i64 r.N, .slice aE r.es.length cE] rfl)) ?_ | refine op_ldN _ rfl ag_33_SrG sz_33_SrG rfl rfl ((sub_cells (b := b16) (t := 33) (l := rcells r q) (H.get at1) 6 [.slice q.aF r.fl.length q.cF, .slice q.aP r.pot.length q.cP] rfl)) ?_ | refine op_ldbN rfl ag_33_SrG sz_33_SrG rfl H (by first | exact at0 | exact at1 | exact at2 | exact at3 | exact at4 | exact at5 | exact at6 | exact at7 | exact at8 | exact at9) rfl ?_
          refine op_buildL (rcells raw qr ++ (rcells r q ++ rcells r q)) rfl el_57_SrG sz_33_SrG zc_33_SrG (by decide) (by decide) (by kernel_rfl) H ?_
          rintro b160 w - H
          refine op_assign rfl (.slice _ _ _) rfl ?_
          refine op_nil (at_then ?_)
          refine W_seq ?_
          refine W_rseq ?_
          refine op_assign rfl (.int _ _) rfl ?_
          refine op_nil (at_then ?_)
          refine W_block ?_
          clear hre REw
          have hraw0 : ROff qr raw (fun x => x ∈ S80 ∨ w80.heap.size ≤ x) := (RAw.lt).mono fun x hx => by
            rcases hx with hx | hx
            · rw [hS80] at hx
              obtain ⟨y, hy, rfl⟩ := List.mem_map.1 hx
              exact (H80.own y hy).elim (fun h => by cases h) id
            · exact Nat.le_trans H80.size hx
          have hZ : ∀ p ∈ [(raw, qr), (r, q), (r, q)], RBnd p.1 ∧ RAt w80 p.1 p.2 ∧ ROff p.2 p.1 (fun x => x ∈ S80 ∨ w80.heap.size ≤ x) := fun p hp => by
            simp only [List.mem_cons, List.not_mem_nil, or_false] at hp
            rcases hp with rfl | rfl | rfl
            · exact ⟨hraw, RAw.ext0 H80.ext, hraw0⟩
            · exact ⟨hr, RA, hoff.or RA.lt⟩
            · exact ⟨hr, RA, hoff.or RA.lt⟩
          refine W_loop 25711008708140921405396731671622194270689815334485373529097216 (α := LpZ) (fun t => [(22, .int .i64 (t.i : Int))]) (fun t w' => LpI w80 S80 [(b160, Bl 33 (rcells raw qr ++ (rcells r q ++ rcells r q))), (b18, Bl 28 [.int .i64 r.N, .slice aE r.es.length cE]), (b16, Bl 33 (rcells r q)), (b9, Bl 33 (rcells raw qr))] bx a acs.length c bd b nx ba ra rc br t w') (fun t => 3 - t.i) ⟨0, acs, ds, full, o, rfull, ad, cd, fd⟩ rfl ?_ ?_ ?_
          · exact ⟨rfl, trivial⟩
          · exact ⟨Nat.zero_le _, ha, hd, rfl, hO, hM, hRO, hRD, H⟩
          · clear H hO hM hRO hRD ha hd hn16 hm64
            rintro ⟨i, acs7, ds7, full7, o7, rfull7, ad7, cd7, fd7⟩ jj w ⟨hi, ha, hd, hln, hO, hM, hRO, hRD, H⟩; dsimp only at hi ha hd hln hO hM hRO hRD H; dsimp only
            have hn16 := (aofC_iff.1 ha).1
            have hm64 := (ofC_iff.1 hd).1
            rw [← hln]
            refine W_seq ?_
            refine W_rseq ?_
            refine op_move rfl (.int _ _) rfl ?_
            refine op_move rfl (.slice _ _ _) rfl ?_
            refine op_len rfl el_57_SrG rfl ?_
            refine op_lss rfl rfl rfl ?_
            refine op_nil (at_then ?_)
            refine W_cond _ rfl ?_ ?_
            · intro h3
              replace h3 := dec_t h3
              obtain ⟨⟨rr, qq⟩, hz⟩ := get_some (l := [(raw, qr), (r, q), (r, q)]) (i := i) (show i < 3 by omega)
              obtain ⟨hbz, hRz, hoz⟩ := hZ _ (List.mem_of_getElem? hz)
              dsimp only at hbz hRz hoz
              obtain ⟨hai, hdi, hli⟩ := apply_inv (r := rr) ha hd
              obtain ⟨cc, hcc⟩ : ∃ cc, cc = applyC acs7 ds7 rr := ⟨_, rfl⟩
              obtain ⟨acs9, ha9⟩ : ∃ z, z = applyA acs7 ds7 rr := ⟨_, rfl⟩
              obtain ⟨ds9, hd9⟩ : ∃ z, z = applyD acs7 ds7 rr := ⟨_, rfl⟩
              rw [← ha9] at hai hli
              rw [← hd9] at hdi
              have hm9 := (ofC_iff.1 hdi).1
              refine W_skip (at_then ?_)
              refine W_seq ?_
              refine W_block ?_
              refine W_rseq ?_
              refine op_move rfl (.pointer _) rfl ?_
              refine op_move rfl (.pointer _) rfl ?_
              refine op_move rfl (.slice _ _ _) rfl ?_
              refine op_move rfl (.int _ _) rfl ?_
              refine op_indexAddr rfl el_57_SrG sz_33_SrG rfl rfl (by omega) (by omega) ?_
              first | refine op_ldN _ rfl ag_33_SrG sz_33_SrG rfl rfl (((Rd.of_bl (xs := [(raw, qr), (r, q), (r, q)]) (enc := encZ) (H.blk _ (List.mem_cons_self ..)) (r := []) rfl (fun _ _ => rfl)).row hz rfl)) ?_ | refine op_ldbN rfl ag_33_SrG sz_33_SrG rfl H (by first | exact at0 | exact at1 | exact at2 | exact at3 | exact at4 | exact at5 | exact at6 | exact at7 | exact at8 | exact at9) rfl ?_
              refine op_call rfl ca_21_SrG (apply_ctx (B := [_, _, _, _]) ha hd H hO hM (hRz.ext H.ext (hoz.mono fun _ => .inl)) (hoz.mono fun x hx => by obtain ⟨y, hy, rfl⟩ := List.mem_map.1 hx; exact H.own y (List.mem_append_right _ (List.mem_append_left _ hy))) hbz) rfl ?_
              rintro v w ⟨rfl, full8, o8, hO8, hM8, -, H8⟩
              rw [← hcc]
              rw [← ha9] at hO8
              rw [← hd9] at hM8
              have H := H8
              refine op_assign rfl (.int _ _) rfl ?_
              refine op_nil (at_then ?_)
              refine W_rseq ?_
              refine op_move rfl (.pointer _) rfl ?_
              refine op_move rfl (.pointer _) rfl ?_
              refine op_move rfl (.slice _ _ _) rfl ?_
              refine op_move rfl (.int _ _) rfl ?_
              refine op_indexAddr rfl el_57_SrG sz_33_SrG rfl rfl (by omega) (by omega) ?_
              first | refine op_ldN _ rfl ag_33_SrG sz_33_SrG rfl rfl (((Rd.of_bl (xs := [(raw, qr), (r, q), (r, q)]) (enc := encZ) (H.blk _ (List.mem_cons_self ..)) (r := []) rfl (fun _ _ => rfl)).row hz rfl)) ?_ | refine op_ldbN rfl ag_33_SrG sz_33_SrG rfl H (by first | exact at0 | exact at1 | exact at2 | exact at3 | exact at4 | exact at5 | exact at6 | exact at7 | exact at8 | exact at9) rfl ?_
              have H9 : Ctx w80 S80 _ (([(b160, Bl 33 (rcells raw qr ++ (rcells r q ++ rcells r q))), (b18, Bl 28 [.int .i64 r.N, .slice aE r.es.length cE]), (b16, Bl 33 (rcells r q)), (b9, Bl 33 (rcells raw qr))] ++ LX bx a acs7.length c full8 bd b nx o8) ++ (RX ba ra acs7.length rc rfull7 br ad7 ds7.length cd7 nx fd7 ++ [])) := by { rw [List.append_nil, List.append_assoc]; exact H }
              refine op_call rfl ca_22_SrG (r20apply_ctx ha hd H9 hRO hRD (hRz.ext H.ext (hoz.mono fun _ => .inl)) (hoz.mono fun x hx => by obtain ⟨y, hy, rfl⟩ := List.mem_map.1 hx; exact H.own y (List.mem_append_right _ (List.mem_append_right _ hy))) hbz) rfl ?_
              rintro v w ⟨rfl, rfull9, ad9, cd9, fd9, hRO9, hRD9, -, H10⟩
              rw [← hcc]
              rw [← ha9] at hRO9
              rw [← hd9] at hRD9 H10
              rw [← hli] at hO8 hRO9 H10
              rw [List.append_nil, List.append_assoc] at H10
              have H := H10
              clear H8 H9 H10
              refine op_assign rfl (.int _ _) rfl ?_
              refine op_nil (at_then ?_)
              obtain ⟨w1, rfl⟩ : ∃ z, z = w := ⟨_, rfl⟩
              have HG := H
              have HX := (Ctx.right (L := [_, _, _, _]) H).left
              have HR := (Ctx.right (L := [_, _, _, _]) H).right
              have hbx := HX.get at0
              have hba := HR.get at0
              have hbr := HR.get at1
              have RXa : Rd w1 a 2 encA acs9 := OS.rd hO8 (fun x hx => HX.blk x (List.mem_cons_of_mem _ (List.mem_cons_of_mem _ (List.mem_cons_of_mem _ hx)))) (fun _ _ => rfl) (by decide)
              have RRa : Rd w1 ra 2 encA acs9 := OS.rd hRO9 (fun x hx => HR.blk x (List.mem_cons_of_mem _ (List.mem_cons_of_mem _ (List.mem_append_right _ hx)))) (fun _ _ => rfl) (by decide)
              have RRd : Rd w1 ad9 7 encD ds9 := OS.rd hRD9 (fun x hx => HR.blk x (List.mem_cons_of_mem _ (List.mem_cons_of_mem _ (List.mem_append_left _ hx)))) (fun _ _ => rfl) (by decide)
              have DU1 : DuAt w1 bd ds9 := LX.du HX hM8
              have H := Ctx.start w1 []
              refine W_sseqz [([0, 1, 2, 3, 4, 6, 7, 8, 9], 5), ([], 10), ([11, 12, 13, 14, 16, 17, 18, 19], 15), ([], 20), ([21], 22)] (fun z => Ext [] w1 z) [] mixed_SrG (by kernel_rfl) (Ext.drew [] w1) ?_
              refine seg_cons rfl rfl ?_
              refine t_move rfl (.int _ _) rfl ?_
              refine t_move rfl (.int _ _) rfl ?_
              refine t_neq rfl rfl rfl ?_
              rw [show (!decide (cc = cc)) = false from by simp]
              refine t_move rfl (.bool _) rfl ?_
              refine t_move rfl (.pointer _) rfl ?_
              refine t_move rfl (.pointer _) rfl ?_
              refine t_nilCheck rfl rfl ?_
              refine t_fieldAddr rfl fo_52_0_SrG rfl ?_
              first | refine t_ldb rfl ag_22_SrG rfl True.intro (by first | exact at0 | exact at1 | exact at2 | exact at3 | exact at4 | exact at5 | exact at6 | exact at7 | exact at8 | exact at9) rfl ?_ | refine t_ld rfl ag_22_SrG rfl (fun _ hx => (by rw [cell_bl (hx.to hba (by simp))]; rfl)) ?_ | refine t_ld rfl ag_22_SrG rfl (fun _ hx => (by rw [cell_bl (hx.to hbr (by simp))]; rfl)) ?_
              refine t_nil ?_
              replace H := H.drew
              refine op_call rfl ca_16_SrG (alist_ok (bd := bx) a _ c acs9 _ (H.ext.to hbx (by simp)) (RXa.ext0 H.ext) rfl (by omega)) rfl ?_
              rintro v w Fl
              obtain ⟨al, nl, cl, fl7, rfl, Ol, hbl⟩ := Fl.ex
              obtain rfl := Ol.numN (fun _ _ => rfl) (by decide)
              replace H := H.call Fl.ext
              have Rl : Rd w al 2 encA acs9 := OS.rd Ol (fun x hx => (hbl x hx).1) (fun _ _ => rfl) (by decide)
              refine op_nil (at_seg (H.ext) ?_)
              refine seg_cons rfl rfl ?_
              refine t_nil ?_
              refine op_call rfl ca_15_SrG (same17_ok al ra _ cl _ rc acs9 acs9 _ (Rl.ext0 (Ext.refl _ _)) rfl (by omega) (RRa.ext0 H.ext) rfl (by omega)) rfl ?_
              rintro v w ⟨rfl, hxs⟩
              replace H := H.call hxs
              rw [show decide (acs9 = acs9) = true from decide_eq_true rfl]
              refine op_nil (at_seg (H.ext) ?_)
              refine seg_cons rfl rfl ?_
              refine t_not rfl rfl ?_
              refine t_pick0 rfl rfl (.bool _) rfl ?_
              refine t_move rfl (.bool _) rfl ?_
              refine t_move rfl (.pointer _) rfl ?_
              refine t_move rfl (.pointer _) rfl ?_
              refine t_nilCheck rfl rfl ?_
              refine t_fieldAddr rfl fo_48_0_SrG rfl ?_
              first | refine t_ldb rfl ag_23_SrG rfl True.intro (by first | exact at0 | exact at1 | exact at2 | exact at3 | exact at4 | exact at5 | exact at6 | exact at7 | exact at8 | exact at9) rfl ?_ | refine t_ld rfl ag_23_SrG rfl (fun _ hx => (by rw [cell_bl (hx.to hba (by simp))]; rfl)) ?_ | refine t_ld rfl ag_23_SrG rfl (fun _ hx => (by rw [cell_bl (hx.to hbr (by simp))]; rfl)) ?_
              refine t_nil ?_
              refine op_call rfl ca_18_SrG (list7_ok hdi _ (DU1.ext0 H.ext)) rfl ?_
              rintro v w ⟨hxd, a3, c3, rfl, Rd3⟩
              replace H := H.call hxd
              refine op_nil (at_seg (H.ext) ?_)
              refine seg_cons rfl rfl ?_
              refine t_nil ?_
              refine op_call rfl ca_17_SrG (same18_ok a3 ad9 _ c3 _ cd9 ds9 ds9 _ Rd3 rfl (by omega) (RRd.ext0 H.ext) rfl (by omega)) rfl ?_
              rintro v w ⟨rfl, hxs⟩
              replace H := H.call hxs
              rw [show decide (ds9 = ds9) = true from decide_eq_true rfl]
              refine op_nil (at_seg (H.ext) ?_)
              refine seg_cons rfl rfl ?_
              refine t_not rfl rfl ?_
              refine t_nil ?_
              refine op_pick0 rfl rfl (.bool _) rfl ?_
              refine op_nil (at_seg (H.ext) ?_)
              refine seg_nil ?_
              refine W_cond0 rfl ?_
              refine W_skip (at_block (at_then ?_))
              refine W_region ?_
              refine op_move rfl (.int _ _) rfl ?_
              refine op_add_i64 rfl rfl rfl (by omega) (by omega) ?_
              refine op_assign rfl (.int _ _) rfl ?_
              refine op_nil (at_then ?_)
              exact ⟨⟨i + 1, acs9, ds9, full8, o8, rfull9, ad9, cd9, fd9⟩, rfl, ⟨rfl, trivial⟩, ⟨by dsimp only; omega, hai, hdi, hli, hO8, hM8, hRO9, hRD9, HG.call H.ext⟩, by dsimp only; omega⟩
            · intro h3
              replace h3 := dec_f h3
              refine W_exit (exit_then (exit_then (exit_here (at_then ?_))))
              refine W_rseq ?_
              refine op_call rfl ca_10_SrG (works20_ok _) rfl ?_
              rintro v w ⟨rfl, hx204⟩
              replace H := Ctx.call H hx204
              refine op_assign rfl (.bool _) rfl ?_
              refine op_nil (at_then ?_)
              refine W_ret (leave1 (v := (.bool _)) rfl rfl rfl ?_)
              exact ⟨rfl, hfin _ _ H⟩
end Go.Proofs.YtapphbmlkdhnmaaGreat

/- From the form's readings of arguments to ours, and the post of a law that answers true and turns nothing. It holds for every program. -/
namespace Go.GV
open Go Go.ChangeShapes Go.WideShapes Go.RowKit

theorem Ext.below {w w' : World} (h : Ext [] w w') : Below w.heap.size w w' := ⟨h.os, h.tape, h.output, h.size, fun k hk => h.block k hk (by simp)⟩

section
variable {H : Type} {enc : TypeId × Value → H} {P : Program} {w : World} {base : Nat} {spare : Nat → Bool} {held : Bool}

theorem trodAll_length : ∀ {ts : List TypeId} {vs : List Value} {ds : List (DataW H)} {ps : List MemPlace}, DataW.TrodAll enc P w base spare held ts vs ds ps → ds.length = ts.length
  | [], vs, ds, ps, h => by obtain ⟨_, rfl, _⟩ := trodAll_nil h; rfl
  | t :: ts, vs, ds, ps, h => by
    obtain ⟨v, vs', d, ds', p, q, rfl, rfl, rfl, _, hr⟩ := trodAll_cons h
    simp [trodAll_length hr]

theorem trodAll_stays {W W' : World} {sp' : Nat → Bool} (hl : laidOutB P = true) (hsp : ∀ b, b < W.heap.size → sp' b = true) (hb : Below W.heap.size W W') :
    ∀ {ts : List TypeId} {vs : List Value} {ds : List (DataW H)} {ps : List MemPlace}, (∀ t ∈ ts, P.readableRec t = true ∧ t < P.types.size) → (∀ x ∈ ps, x.block < W.heap.size) →
      DataW.TrodAll enc P W 0 (fun _ => true) true ts vs ds ps → DataW.TrodAll enc P W' 0 sp' true ts vs ds ps
  | [], vs, ds, ps, _, _, h => by obtain ⟨rfl, rfl, rfl⟩ := trodAll_nil h; rfl
  | t :: ts, vs, ds, ps, hr, hp, h => by
    obtain ⟨v, vs', d, ds', p, q, rfl, rfl, rfl, h0, h1⟩ := trodAll_cons h
    refine ⟨p, q, WideElems.Trod_stays hl (hr t (by simp)).1 (hr t (by simp)).2 h0 (fun x hx => hb.same (hp x (by simp [hx]))) (fun x hx => hsp _ (hp x (by simp [hx]))), ?_, rfl⟩
    exact trodAll_stays hl hsp hb (fun t ht => hr t (by simp [ht])) (fun x hx => hp x (by simp [hx])) h1

/-- The post of a law. -/
theorem law_post {f : Func} {s : ChangeSpec} {W W' : World} {args : Array Value} {ds gs : List (DataW H)} {before : List MemPlace} {tb : TypeId} (hl : laidOutB P = true) (hv : s.vars = [])
    (hr : (f.params.toList.all fun t => P.readableRec t && decide (t < P.types.size)) = true) (hres : f.resultTypes = #[tb]) (htb : P.underlying tb = some .bool)
    (hs : ∀ ds : List (DataW H), ds.length = f.params.size → s.fn H ds = { results := [.lit (.bool true)], args := ds })
    (hW : DataW.Whole enc P f.params.toList s.vars false W args.toList ds gs before) (hx : Ext [] W W') : s.post enc P f false true false false W args (.bool true) W' := by
  have hW' := hW
  obtain ⟨p, q, hA, hV, rfl, _, _⟩ := hW
  rw [hv] at hV
  obtain ⟨rfl, rfl⟩ := trodVars_none hV
  have hlen : ds.length = f.params.size := by rw [trodAll_length hA]; simp
  refine ⟨ds, [], p ++ [], [], p, [], hW', ?_, ?_, ?_, hx.below.frame _, fun h => by cases h⟩
  · rw [List.append_nil, hs ds hlen, hres]
    exact trodAll_mk1 ⟨1, by simp [DataW.trod, Value.cells, htb]⟩
  · rw [List.append_nil, hs ds hlen]
    refine trodAll_stays hl (fun b hb => by simpa using hb) hx.below (fun t ht => ?_) (fun x hxp => ?_) hA
    · have := List.all_eq_true.1 hr t ht
      simpa using this
    · exact hW'.lt x (by simp [hxp])
  · rw [hv, List.append_nil, hs ds hlen]
    rfl

theorem wf_bounds {k : IntKind} {n : Int} (h : (Lit.int k n).wf = true) : k.min ≤ n ∧ n ≤ k.max := by
  simpa [Lit.wf] using h

/-! ### Decoding -/

/-- What a piece of a struct reads as. -/
theorem trod_fld {fuel : Nat} {t : TypeId} {cs : List Value} {x : DataW H × List MemPlace} {fs : Array Field} (ht : P.underlying t = some (.struct fs)) (h : DataW.trod enc P w base spare held fuel t cs = some x) (i : Nat) (f : Field) (hf : fs[i]? = some f) :
    ∃ n y, DataW.trod enc P w base spare held n f.type ((cs.drop f.offset).take (P.cellsOf f.type)) = some y := by
  obtain ⟨xs, n, _, _, _, hl, hx⟩ := DataW.trod_struct ht h
  have h1 := hx i f hf
  have hi : i < xs.length := by rw [hl]; exact (Array.getElem?_eq_some_iff.1 hf).1
  rw [List.getElem?_eq_getElem hi] at h1
  exact ⟨n, _, h1⟩
theorem trod_slen {fuel : Nat} {t : TypeId} {cs : List Value} {x : DataW H × List MemPlace} {fs : Array Field} (ht : P.underlying t = some (.struct fs)) (h : DataW.trod enc P w base spare held fuel t cs = some x) : cs.length = P.cellsOf t := by
  obtain ⟨xs, n, _, _, hl, _, _⟩ := DataW.trod_struct ht h
  exact hl

theorem take_one {l : List Value} {o m : Nat} {v : Value} (h : (l.drop o).take m = [v]) : l[o]? = some v := by
  have h1 : ((l.drop o).take m)[0]? = some v := by rw [h]; rfl
  rw [List.getElem?_take] at h1
  split at h1
  · rw [List.getElem?_drop] at h1; simpa using h1
  · cases h1

theorem fld_int {fuel : Nat} {t u : TypeId} {cs : List Value} {x : DataW H × List MemPlace} {fs : Array Field} {k : IntKind} (ht : P.underlying t = some (.struct fs)) (h : DataW.trod enc P w base spare held fuel t cs = some x) (i o : Nat)
    (hf : (fs[i]?.map fun f => (f.type, f.offset)) = some (u, o)) (hu : P.underlying u = some (.int k)) : ∃ n, cs[o]? = some (.int k n) ∧ k.min ≤ n ∧ n ≤ k.max := by
  cases he : fs[i]? with
  | none => rw [he] at hf; cases hf
  | some f =>
    rw [he] at hf
    simp only [Option.map_some, Option.some.injEq, Prod.mk.injEq] at hf
    obtain ⟨rfl, rfl⟩ := hf
    obtain ⟨n, y, hy⟩ := trod_fld ht h i f he
    obtain ⟨m, h1, _, h2⟩ := DataW.trod_int hu hy
    exact ⟨m, take_one h1, wf_bounds h2⟩
theorem fld_bool {fuel : Nat} {t u : TypeId} {cs : List Value} {x : DataW H × List MemPlace} {fs : Array Field} (ht : P.underlying t = some (.struct fs)) (h : DataW.trod enc P w base spare held fuel t cs = some x) (i o : Nat)
    (hf : (fs[i]?.map fun f => (f.type, f.offset)) = some (u, o)) (hu : P.underlying u = some .bool) : ∃ b, cs[o]? = some (.bool b) := by
  cases he : fs[i]? with
  | none => rw [he] at hf; cases hf
  | some f =>
    rw [he] at hf
    simp only [Option.map_some, Option.some.injEq, Prod.mk.injEq] at hf
    obtain ⟨rfl, rfl⟩ := hf
    obtain ⟨n, y, hy⟩ := trod_fld ht h i f he
    obtain ⟨b, h1, _⟩ := DataW.trod_bool hu hy
    exact ⟨b, take_one h1⟩
/-- A field that is of whatever type. -/
theorem fld_any {fuel : Nat} {t u : TypeId} {cs : List Value} {x : DataW H × List MemPlace} {fs : Array Field} (ht : P.underlying t = some (.struct fs)) (h : DataW.trod enc P w base spare held fuel t cs = some x) (i o : Nat)
    (hf : (fs[i]?.map fun f => (f.type, f.offset)) = some (u, o)) : ∃ n y, DataW.trod enc P w base spare held n u ((cs.drop o).take (P.cellsOf u)) = some y := by
  cases he : fs[i]? with
  | none => rw [he] at hf; cases hf
  | some f =>
    rw [he] at hf
    simp only [Option.map_some, Option.some.injEq, Prod.mk.injEq] at hf
    obtain ⟨rfl, rfl⟩ := hf
    exact trod_fld ht h i f he

theorem cells_at {a : Addr} {n : Nat} {cs : List Value} (h : w.cells? base a n = some cs) : cs.length = n ∧ ∀ j v, cs[j]? = some v → w.cell? (a.add j) = some v := by
  unfold World.cells? at h
  split at h
  · have h1 : ∀ (l : List Nat) (cs : List Value), l.mapM (fun i => w.cell? (a.add i)) = some cs → cs.length = l.length ∧ ∀ (j i : Nat) (v : Value), l[j]? = some i → cs[j]? = some v → w.cell? (a.add i) = some v := by
      intro l
      induction l with
      | nil => intro cs h; simp at h; subst h; exact ⟨rfl, fun j i v h => by simp at h⟩
      | cons k l ih =>
        intro cs h
        rw [List.mapM_cons] at h
        obtain ⟨v, hv, h⟩ := Option.bind_eq_some_iff.1 h
        obtain ⟨cs', hcs, h⟩ := Option.bind_eq_some_iff.1 h
        simp only [Option.pure_def, Option.some.injEq] at h
        subst h
        obtain ⟨h1, h2⟩ := ih cs' hcs
        refine ⟨by simp [h1], fun j i u hi hu => ?_⟩
        cases j with
        | zero => simp at hi hu; subst hi hu; exact hv
        | succ j => exact h2 j i u (by simpa using hi) (by simpa using hu)
    obtain ⟨h2, h3⟩ := h1 _ _ h
    refine ⟨by simpa using h2, fun j v hv => h3 j j v ?_ hv⟩
    have : j < cs.length := (List.getElem?_eq_some_iff.1 hv).1
    rw [List.getElem?_range (by rw [h2] at this; simpa using this)]
  · cases h

theorem cell_none {a : Addr} {v : Value} (h : w.cell? a = some v) : a = ⟨a.block, a.off, none⟩ := by
  unfold World.cell? at h
  split at h
  · split at h
    · cases h
    · rename_i hs
      obtain ⟨b, o, s⟩ := a
      cases s with
      | none => rfl
      | some x => simp at hs
  · cases h

/-- A slice that is read: ours. -/
theorem rd_of {α : Type} {t e : TypeId} {s fuel : Nat} {v : Value} {x : DataW H × List MemPlace} {encd : α → List Value} {Good : α → Prop} (ht : P.underlying t = some (.slice e)) (hs : P.cellsOf e = s) (h0 : 0 < s)
    (dec : ∀ n cs y, DataW.trod enc P w base spare held n e cs = some y → ∃ d, cs = encd d ∧ Good d) (h : DataW.trod enc P w base spare held fuel t [v] = some x) :
    ∃ (a : Option Addr) (c : Nat) (l : List α), v = .slice a l.length c ∧ Rd w a s encd l ∧ l.length ≤ c ∧ c ≤ maxLen ∧ (∀ d ∈ l, Good d) := by
  rcases Go.Deep.open_slice ht h with ⟨hc, _⟩ | ⟨a, len, cap, m, n, D, Pl, hc, _, hl, hm, hmm, _, hx⟩
  · simp only [List.cons.injEq, and_true] at hc
    exact ⟨none, 0, [], hc, Rd.nil, Nat.le_refl _, Nat.zero_le _, by simp⟩
  · simp only [List.cons.injEq, and_true] at hc
    have hle : len ≤ m := by rw [hmm]; split <;> omega
    have hd : ∀ i, i < len → ∃ d : α, (w.cells? base (a.add (i * s)) s = some (encd d)) ∧ Good d := fun i hi => by
      obtain ⟨cs', h1, h2⟩ := hx i (by omega)
      obtain ⟨d, rfl, hg⟩ := dec _ _ _ h2
      exact ⟨d, by rw [← hs]; exact h1, hg⟩
    have hlist : ∀ k, k ≤ len → ∃ l : List α, l.length = k ∧ ∀ i d, l[i]? = some d → w.cells? base (a.add (i * s)) s = some (encd d) ∧ Good d := by
      intro k
      induction k with
      | zero => intro _; exact ⟨[], rfl, fun i d h => by simp at h⟩
      | succ k ih =>
        intro hk
        obtain ⟨l, h1, h2⟩ := ih (by omega)
        obtain ⟨d, hd1, hd2⟩ := hd k (by omega)
        refine ⟨l ++ [d], by simp [h1], fun i d' hi => ?_⟩
        rw [List.getElem?_append] at hi
        split at hi
        · exact h2 i d' hi
        · rename_i hlt
          have : i = k := by
            have := (List.getElem?_eq_some_iff.1 hi).1
            simp at this; omega
          subst this
          rw [h1, Nat.sub_self] at hi
          simp at hi; subst hi
          exact ⟨hd1, hd2⟩
    obtain ⟨l, h1, h2⟩ := hlist len (Nat.le_refl _)
    subst h1
    refine ⟨some a, cap, l, hc, ⟨fun hne => ?_, fun i d hi j u hu hj => ?_⟩, hl, hm, fun d hd => ?_⟩
    · cases l with
      | nil => exact absurd rfl hne
      | cons d l =>
        obtain ⟨h3, _⟩ := h2 0 d rfl
        obtain ⟨h4, h5⟩ := cells_at h3
        obtain ⟨u, hu⟩ := get_some (l := encd d) (i := 0) (by omega)
        have h6 := h5 0 u hu
        rw [Nat.zero_mul] at h6
        have h7 : (a.add 0).add 0 = a := by simp [Addr.add]
        rw [h7] at h6
        exact ⟨a.block, a.off, by rw [← cell_none h6]⟩
    · obtain ⟨h3, _⟩ := h2 i d hi
      have h5 := (cells_at h3).2 j u hu
      rw [Go.Deep.add_add] at h5
      have h6 := cell_none h5
      rw [h6] at h5
      have hblk : ∀ q, (a.add q).block = a.block ∧ (a.add q).off = a.off + q := by
        intro q; unfold Addr.add
        by_cases hq : q = 0 <;> simp [hq]
      rw [(hblk _).1, (hblk _).2, ← Nat.add_assoc] at h5
      obtain ⟨b, o, sp⟩ := a
      exact h5
    · obtain ⟨i, hi⟩ := List.getElem?_of_mem hd
      exact (h2 i d hi).2
theorem rd_of_T {α : Type} {t e : TypeId} {s : Nat} {v : Value} {d : DataW H} {ps : List MemPlace} {encd : α → List Value} {Good : α → Prop} (ht : P.underlying t = some (.slice e)) (hs : P.cellsOf e = s) (h0 : 0 < s)
    (dec : ∀ n cs y, DataW.trod enc P w base spare held n e cs = some y → ∃ d, cs = encd d ∧ Good d) (hv : ∃ a n c, v = .slice a n c) (h : DataW.Trod enc P w base spare held t v d ps) :
    ∃ (a : Option Addr) (c : Nat) (l : List α), v = .slice a l.length c ∧ Rd w a s encd l ∧ l.length ≤ c ∧ c ≤ maxLen ∧ (∀ d ∈ l, Good d) := by
  obtain ⟨fuel, hf⟩ := h
  obtain ⟨a, n, c, rfl⟩ := hv
  exact rd_of ht hs h0 dec (by simpa [Value.cells] using hf)
theorem dec_int {e : TypeId} {k : IntKind} (he : P.underlying e = some (.int k)) : ∀ n cs y, DataW.trod enc P w base spare held n e cs = some y → ∃ d : Int, cs = [Value.int k d] ∧ (k.min ≤ d ∧ d ≤ k.max) := by
  intro n cs y h
  obtain ⟨m, h1, _, h2⟩ := DataW.trod_int he h
  exact ⟨m, h1, wf_bounds h2⟩
end
end Go.GV

/- What the form reads of this seat's arguments. -/
namespace Go.Proofs.YtapphbmlkdhnmaaGreat
open Go.GV Go.ChangeShapes Go.WideShapes

theorem own : ownKnob Tryz.prog.godebug = none := by kernel_rfl
theorem laidOut : laidOutB Tryz.prog = true := by kernel_rfl
section
variable {H : Type} {enc : TypeId × Value → H} {w : World} {base : Nat} {spare : Nat → Bool} {held : Bool}
/-- A field that is a slice. -/
theorem fld_slice0 {α : Type} {P : Program} {fuel : Nat} {t u e : TypeId} {s : Nat} {cs : List Value} {x : DataW H × List MemPlace} {fs : Array Field} {encd : α → List Value} {Good : α → Prop} (ht : P.underlying t = some (.struct fs)) (h : DataW.trod enc P w base spare held fuel t cs = some x) (i o : Nat)
    (hf : (fs[i]?.map fun f => (f.type, f.offset)) = some (u, o)) (hu : P.underlying u = some (.slice e)) (hc : P.cellsOf u = 1) (hs : P.cellsOf e = s) (h0 : 0 < s)
    (dec : ∀ n cs y, DataW.trod enc P w base spare held n e cs = some y → ∃ d, cs = encd d ∧ Good d) :
    ∃ (a : Option Addr) (c : Nat) (l : List α), cs[o]? = some (.slice a l.length c) ∧ Rd w a s encd l ∧ l.length ≤ c ∧ c ≤ maxLen ∧ (∀ d ∈ l, Good d) := by
  obtain ⟨n, y, h1⟩ := fld_any ht h i o hf
  rw [hc] at h1
  have hv : ∃ v, (cs.drop o).take 1 = [v] := by
    rcases Go.Deep.open_slice hu h1 with ⟨hc, -⟩ | ⟨_, _, _, _, _, _, _, hc, -⟩
    · exact ⟨_, hc⟩
    · exact ⟨_, hc⟩
  obtain ⟨v, hv⟩ := hv
  rw [hv] at h1
  obtain ⟨a, c, l, rfl, R, h2, h3, h4⟩ := rd_of hu hs h0 dec h1
  exact ⟨a, c, l, take_one hv, R, h2, h3, h4⟩
theorem acStruct : ∃ fs, Tryz.prog.underlying 64 = some (.struct fs) ∧ (List.range 2).map (fun i => fs[i]?.map fun f => (f.type, f.offset)) = [some (2, 0), some (2, 1)] := ⟨_, Tryz.underlying64, by kernel_rfl⟩
theorem acCells : Tryz.prog.cellsOf 64 = 2 := by kernel_rfl
theorem duStruct : ∃ fs, Tryz.prog.underlying 62 = some (.struct fs) ∧ (List.range 7).map (fun i => fs[i]?.map fun f => (f.type, f.offset)) = [some (24, 0), some (3, 1), some (3, 2), some (2, 3), some (2, 4), some (2, 5), some (4, 6)] := ⟨_, Tryz.underlying62, by kernel_rfl⟩
theorem duCells : Tryz.prog.cellsOf 62 = 7 := by kernel_rfl
theorem edStruct : ∃ fs, Tryz.prog.underlying 92 = some (.struct fs) ∧ (List.range 4).map (fun i => fs[i]?.map fun f => (f.type, f.offset)) = [some (3, 0), some (3, 1), some (2, 2), some (2, 3)] := ⟨_, Tryz.underlying92, by kernel_rfl⟩
theorem edCells : Tryz.prog.cellsOf 92 = 4 := by kernel_rfl
theorem i64Cells : Tryz.prog.cellsOf 2 = 1 := by kernel_rfl
theorem u64Cells : Tryz.prog.cellsOf 24 = 1 := by kernel_rfl
theorem eds1 : Tryz.prog.cellsOf 26 = 1 := by kernel_rfl
theorem i64s1 : Tryz.prog.cellsOf 29 = 1 := by kernel_rfl
theorem u64s1 : Tryz.prog.cellsOf 25 = 1 := by kernel_rfl
theorem netStruct : ∃ fs, Tryz.prog.underlying 28 = some (.struct fs) ∧ (List.range 2).map (fun i => fs[i]?.map fun f => (f.type, f.offset)) = [some (3, 0), some (26, 1)] := ⟨_, Tryz.underlying28, by kernel_rfl⟩
theorem netCells : Tryz.prog.cellsOf 28 = 2 := by kernel_rfl
theorem certStruct : ∃ fs, Tryz.prog.underlying 31 = some (.struct fs) ∧ (List.range 2).map (fun i => fs[i]?.map fun f => (f.type, f.offset)) = [some (29, 0), some (29, 1)] := ⟨_, Tryz.underlying31, by kernel_rfl⟩
theorem certCells : Tryz.prog.cellsOf 31 = 2 := by kernel_rfl
theorem rndStruct : ∃ fs, Tryz.prog.underlying 33 = some (.struct fs) ∧ (List.range 6).map (fun i => fs[i]?.map fun f => (f.type, f.offset)) = [some (24, 0), some (2, 1), some (4, 2), some (25, 3), some (28, 4), some (31, 6)] := ⟨_, Tryz.underlying33, by kernel_rfl⟩
theorem rndCells : Tryz.prog.cellsOf 33 = 8 := by kernel_rfl
theorem dec_ac : ∀ n cs y, DataW.trod enc Tryz.prog w base spare held n 64 cs = some y → ∃ d : Ac, cs = encA d ∧ (I64 d.ba ∧ I64 d.re) := by
  intro n cs y h
  obtain ⟨fs, ht, hf⟩ := acStruct
  have hl := trod_slen ht h
  rw [acCells] at hl
  simp only [List.range, List.range.loop, List.map_cons, List.map_nil, List.cons.injEq, and_true] at hf
  obtain ⟨f0, f1⟩ := hf
  obtain ⟨a, ha, a1, a2⟩ := fld_int ht h 0 0 f0 Tryz.underlying2
  obtain ⟨b, hb, b1, b2⟩ := fld_int ht h 1 1 f1 Tryz.underlying2
  refine ⟨⟨a, b⟩, ?_, ⟨a1, a2⟩, b1, b2⟩
  match cs, hl with
  | [_, _], _ =>
    simp at ha hb
    simp [ha, hb]
/-- What a due's numbers may be, as its type has it. -/
def DuT (d : Du) : Prop := (0 ≤ d.id ∧ d.id < 18446744073709551616) ∧ I64 d.fr ∧ I64 d.to ∧ I64 d.am ∧ I64 d.we ∧ I64 d.un
theorem dec_du : ∀ n cs y, DataW.trod enc Tryz.prog w base spare held n 62 cs = some y → ∃ d : Du, cs = encD d ∧ DuT d := by
  intro n cs y h
  obtain ⟨fs, ht, hf⟩ := duStruct
  have hl := trod_slen ht h
  rw [duCells] at hl
  simp only [List.range, List.range.loop, List.map_cons, List.map_nil, List.cons.injEq, and_true] at hf
  obtain ⟨f0, f1, f2, f3, f4, f5, f6⟩ := hf
  obtain ⟨a, ha, a1, a2⟩ := fld_int ht h 0 0 f0 Tryz.underlying24
  obtain ⟨b, hb, hb'⟩ := fld_int ht h 1 1 f1 Tryz.underlying3
  obtain ⟨c, hc, hc'⟩ := fld_int ht h 2 2 f2 Tryz.underlying3
  obtain ⟨d, hd, hd'⟩ := fld_int ht h 3 3 f3 Tryz.underlying2
  obtain ⟨e, he, he'⟩ := fld_int ht h 4 4 f4 Tryz.underlying2
  obtain ⟨f, hf, hf'⟩ := fld_int ht h 5 5 f5 Tryz.underlying2
  obtain ⟨g, hg⟩ := fld_bool ht h 6 6 f6 Tryz.underlying4
  refine ⟨⟨a, b, c, d, e, f, g⟩, ?_, ⟨a1, by have a3 : a ≤ 18446744073709551615 := a2; dsimp only; omega⟩, hb', hc', hd', he', hf'⟩
  match cs, hl with
  | [_, _, _, _, _, _, _], _ =>
    simp at ha hb hc hd he hf hg
    simp [ha, hb, hc, hd, he, hf, hg]
def EdT (e : Ed) : Prop := I64 e.f ∧ I64 e.t ∧ I64 e.cap ∧ I64 e.cost
theorem dec_ed : ∀ n cs y, DataW.trod enc Tryz.prog w base spare held n 92 cs = some y → ∃ d : Ed, cs = encE d ∧ EdT d := by
  intro n cs y h
  obtain ⟨fs, ht, hf⟩ := edStruct
  have hl := trod_slen ht h
  rw [edCells] at hl
  simp only [List.range, List.range.loop, List.map_cons, List.map_nil, List.cons.injEq, and_true] at hf
  obtain ⟨f0, f1, f2, f3⟩ := hf
  obtain ⟨a, ha, ha'⟩ := fld_int ht h 0 0 f0 Tryz.underlying3
  obtain ⟨b, hb, hb'⟩ := fld_int ht h 1 1 f1 Tryz.underlying3
  obtain ⟨c, hc, hc'⟩ := fld_int ht h 2 2 f2 Tryz.underlying2
  obtain ⟨d, hd, hd'⟩ := fld_int ht h 3 3 f3 Tryz.underlying2
  refine ⟨⟨a, b, c, d⟩, ?_, ha', hb', hc', hd'⟩
  match cs, hl with
  | [_, _, _, _], _ =>
    simp at ha hb hc hd
    simp [encE, ha, hb, hc, hd]
/-- What a round's numbers may be, as its type has it. -/
structure RT (r : Rnd) : Prop where
  no : 0 ≤ r.no ∧ r.no < 18446744073709551616
  day : I64 r.day
  ids : ∀ x ∈ r.ids, 0 ≤ x ∧ x < 18446744073709551616
  N : I64 r.N
  es : ∀ e ∈ r.es, EdT e
  fl : ∀ x ∈ r.fl, I64 x
  pot : ∀ x ∈ r.pot, I64 x
theorem drop_fld {cs : List Value} {o m j : Nat} {v : Value} (h : ((cs.drop o).take m)[j]? = some v) : cs[o + j]? = some v := by
  rw [List.getElem?_take] at h
  split at h
  · rw [List.getElem?_drop] at h; exact h
  · cases h
theorem dec_rnd : ∀ n cs y, DataW.trod enc Tryz.prog w base spare held n 33 cs = some y → ∃ (r : Rnd) (q : RSl), cs = rcells r q ∧ RAt w r q ∧ RT r := by
  intro n cs y h
  obtain ⟨fs, ht, hf⟩ := rndStruct
  have hl := trod_slen ht h
  rw [rndCells] at hl
  simp only [List.range, List.range.loop, List.map_cons, List.map_nil, List.cons.injEq, and_true] at hf
  obtain ⟨f0, f1, f2, f3, f4, f5⟩ := hf
  obtain ⟨no, hno, no1, no2⟩ := fld_int ht h 0 0 f0 Tryz.underlying24
  obtain ⟨day, hday, hday'⟩ := fld_int ht h 1 1 f1 Tryz.underlying2
  obtain ⟨cmp, hcmp⟩ := fld_bool ht h 2 2 f2 Tryz.underlying4
  obtain ⟨aI, cI, ids, hI, RI, -, -, gI⟩ := fld_slice0 ht h 3 3 f3 Tryz.underlying25 u64s1 u64Cells (by decide) (dec_int Tryz.underlying24)
  obtain ⟨n4, y4, h4⟩ := fld_any ht h 4 4 f4
  rw [netCells] at h4
  obtain ⟨n5, y5, h5⟩ := fld_any ht h 5 6 f5
  rw [certCells] at h5
  obtain ⟨gs, gt, hg⟩ := netStruct
  simp only [List.range, List.range.loop, List.map_cons, List.map_nil, List.cons.injEq, and_true] at hg
  obtain ⟨g0, g1⟩ := hg
  obtain ⟨N, hN, hN'⟩ := fld_int gt h4 0 0 g0 Tryz.underlying3
  obtain ⟨aE, cE, es, hE, RE, -, -, gE⟩ := fld_slice0 gt h4 1 1 g1 Tryz.underlying26 eds1 edCells (by decide) dec_ed
  obtain ⟨ks, kt, hk⟩ := certStruct
  simp only [List.range, List.range.loop, List.map_cons, List.map_nil, List.cons.injEq, and_true] at hk
  obtain ⟨k0, k1⟩ := hk
  obtain ⟨aF, cF, fl, hF, RF, hfc, -, gF⟩ := fld_slice0 kt h5 0 0 k0 Tryz.underlying29 i64s1 i64Cells (by decide) (dec_int Tryz.underlying2)
  obtain ⟨aP, cP, pot, hP, RP, -, -, gP⟩ := fld_slice0 kt h5 1 1 k1 Tryz.underlying29 i64s1 i64Cells (by decide) (dec_int Tryz.underlying2)
  have e4 := drop_fld hN
  have e5 := drop_fld hE
  have e6 := drop_fld hF
  have e7 := drop_fld hP
  refine ⟨⟨no, day, cmp, ids, N, es, fl, pot⟩, ⟨aI, cI, aE, cE, aF, cF, aP, cP⟩, ?_, ⟨RI, RE, RF, RP, hfc⟩, ⟨⟨no1, by have a3 : no ≤ 18446744073709551615 := no2; dsimp only; omega⟩, hday', fun x hx => ?_, hN', gE, gF, gP⟩⟩
  · match cs, hl with
    | [_, _, _, _, _, _, _, _], _ =>
      simp at hno hday hcmp hI e4 e5 e6 e7
      simp [hno, hday, hcmp, hI, e4, e5, e6, e7]
  · have h1 := gI x hx
    have h2 : 0 ≤ x := h1.1
    have h3 : x ≤ 18446744073709551615 := h1.2
    omega
set_option maxRecDepth 100000 in
theorem rnd_of {b : Nat} {v : Value} {d : DataW H} {ps : List MemPlace} (hv : Value.okWide Tryz.prog w .any b 33 v) (h : DataW.Trod enc Tryz.prog w base spare held 33 v d ps) : ∃ (r : Rnd) (q : RSl), v = .agg (rcells r q).toArray ∧ RAt w r q ∧ RT r := by
  obtain ⟨fs, ht, _⟩ := rndStruct
  obtain ⟨cs, rfl, _⟩ := okWide_struct ht hv
  obtain ⟨fuel, hf⟩ := h
  obtain ⟨r, q, hx, h1, h2⟩ := dec_rnd fuel cs.toList (d, ps) (by simpa [Value.cells] using hf)
  exact ⟨r, q, by rw [← hx], h1, h2⟩
set_option maxRecDepth 100000 in
theorem ac_of {b : Nat} {v : Value} {d : DataW H} {ps : List MemPlace} (hv : Value.okWide Tryz.prog w .any b 22 v) (h : DataW.Trod enc Tryz.prog w base spare held 22 v d ps) : ∃ a c l, v = .slice a l.length c ∧ Rd w a 2 encA l ∧ ∀ x ∈ l, I64 x.ba ∧ I64 x.re := by
  obtain ⟨a, c, l, h1, h2, -, -, h3⟩ := rd_of_T Tryz.underlying22 acCells (by decide) dec_ac (okWide_slice Tryz.underlying22 hv) h
  exact ⟨a, c, l, h1, h2, h3⟩
set_option maxRecDepth 100000 in
theorem du_of {b : Nat} {v : Value} {d : DataW H} {ps : List MemPlace} (hv : Value.okWide Tryz.prog w .any b 23 v) (h : DataW.Trod enc Tryz.prog w base spare held 23 v d ps) : ∃ a c l, v = .slice a l.length c ∧ Rd w a 7 encD l ∧ ∀ x ∈ l, DuT x := by
  obtain ⟨a, c, l, h1, h2, -, -, h3⟩ := rd_of_T Tryz.underlying23 duCells (by decide) dec_du (okWide_slice Tryz.underlying23 hv) h
  exact ⟨a, c, l, h1, h2, h3⟩
end
end Go.Proofs.YtapphbmlkdhnmaaGreat

/- SettlePlays: for every input the law answers true, and turns nothing. -/
namespace Go.Proofs.YtapphbmlkdhnmaaGreat
open Go.GV Go.ChangeShapes Go.WideShapes Go.RowKit

set_option maxRecDepth 100000 in
theorem settlePlays_lifted (os : Os) (started : os.Started) (H : Type) (enc : TypeId × Value → H) :
    ReturnsInHanded {} Tryz.checked os 3 .any (Rows.settlePlaysSpec.pre6 enc Tryz.prog Tryz.f3 Rows.settlePlaysRow.domain false) (Rows.settlePlaysSpec.post enc Tryz.prog Tryz.f3 false true false false) := by
  refine returnsInHanded_of_change (C := Tryz.checked) own started (by kernel_rfl) Tryz.func3
    (ChangeSpec.witness6 (enc := enc) (C := Tryz.checked) false ⟨#[], #[.slice none 0 0, .slice none 0 0, .int .u64 0, .bool false, .agg #[.int .u64 0, .int .i64 0, .bool false, .slice none 0 0, .int .i64 0, .slice none 0 0, .slice none 0 0, .slice none 0 0]], []⟩ 8 (by kernel_rfl) (by kernel_rfl) (by kernel_rfl) (by kernel_rfl)) ?_
  intro W base args ds gs before hval0 hW hcnd _
  have hval : ∀ (j : Nat) t v, Tryz.f3.params[j]? = some t → args[j]? = some v → Value.okWide Tryz.prog W .any base t v := hval0
  have hW' := hW
  obtain ⟨p, q, hA0, hV, rfl, hfz, hnd⟩ := hW
  have hA : DataW.TrodAll enc Tryz.prog W 0 (fun _ => true) true Tryz.f3.params.toList args.toList ds p := hA0
  rw [Tryz.params3] at hA hval
  obtain ⟨v0, vs0, d0, ds0, p0, q0, hargs, rfl, rfl, h0, r0⟩ := trodAll_cons hA
  obtain ⟨v1, vs1, d1, ds1, p1, q1, rfl, rfl, rfl, h1, r1⟩ := trodAll_cons r0
  obtain ⟨v2, vs2, d2, ds2, p2, q2, rfl, rfl, rfl, h2, r2⟩ := trodAll_cons r1
  obtain ⟨v3, vs3, d3, ds3, p3, q3, rfl, rfl, rfl, h3, r3⟩ := trodAll_cons r2
  obtain ⟨v4, vs4, d4, ds4, p4, q4, rfl, rfl, rfl, h4, r4⟩ := trodAll_cons r3
  obtain ⟨rfl, rfl, rfl⟩ := trodAll_nil r4
  obtain rfl : args = #[v0, v1, v2, v3, v4] := by cases args; simp_all
  obtain ⟨a0, c0, l0, rfl, R0, H0⟩ := ac_of (hval 0 _ v0 rfl rfl) h0
  obtain ⟨a1, c1, l1, rfl, R1, H1⟩ := du_of (hval 1 _ v1 rfl rfl) h1
  obtain ⟨k2, rfl, rfl, rfl, hg2⟩ := open_int Tryz.underlying24 (hval 2 _ v2 rfl rfl) h2
  have hb2 : 0 ≤ k2 ∧ k2 ≤ 18446744073709551615 := wf_bounds hg2
  obtain ⟨k3, rfl, rfl, rfl⟩ := open_bool Tryz.underlying4 (hval 3 _ v3 rfl rfl) h3
  obtain ⟨r4, q4, rfl, R4, H4⟩ := rnd_of (hval 4 _ v4 rfl rfl) h4
  refine (settlePlays_ok a0 a1 c0 c1 l0 l1 k2 k3 r4 q4 W R0 R1 ⟨hb2.1, by omega⟩ (fun d hd => (H1 d hd).1) R4 H4.N).calls.mono ?_
  rintro e W' ⟨v, rfl, rfl, hx⟩
  exact ⟨_, rfl, law_post laidOut rfl (by kernel_rfl) rfl Tryz.underlying4 (fun ds h => match ds, h with | [_, _, _, _, _], _ => rfl) hW' hx⟩

theorem settlePlays_holds : Rows.SettlePlaysSaid :=
  OpenClaim.holds_of_wide 3 Tryz.f3 rfl rfl rfl rfl rfl rfl rfl ⟨rfl, rfl, rfl, rfl, rfl⟩ rfl rfl rfl rfl rfl (by kernel_rfl) Tryz.func3 (by kernel_rfl)
    (of_decide_eq_true (by kernel_rfl)) (by unfold Func.isWrapper; rw [if_neg (of_decide_eq_false (by kernel_rfl))]; exact ⟨rfl, rfl⟩)
    (fun os started H enc _ => settlePlays_lifted os started H enc)
#print axioms settlePlays_holds
end Go.Proofs.YtapphbmlkdhnmaaGreat
