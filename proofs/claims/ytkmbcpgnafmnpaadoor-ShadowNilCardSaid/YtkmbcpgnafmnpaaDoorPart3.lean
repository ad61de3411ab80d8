/- Part 3 of the proof. -/
import Derived.Test.YtkmbcpgnafmnpaaDoorPart2
/- Blocks that are opened. -/
namespace Go.Proofs.YtkmbcpgnafmnpaaDoor
open Go.GV
attribute [local irreducible] Wops W Wq Wt

def kindB (b : List UInt8) : UInt8 := (b[0]?).getD 0
def numB (b : List UInt8) : Nat := numN ((b.drop 1).take 2)
def restB (b : List UInt8) : List UInt8 := (b.drop 3).take 505
def bodyB (b : List UInt8) : List UInt8 := (restB b).take (numB b)
def openB (b : List UInt8) : Bool := !decide ((kindB b).toNat = 0) && (decide (numB b ≤ 505) && allZ ((restB b).drop (numB b)))
def openE (b : List UInt8) : Int := bif !(decide (b.length = 512) && rightW b) then 9 else bif openB b then 0 else 5
def OpenPost (b : List UInt8) (w : World) (v : Value) (w' : World) : Prop :=
  (openE b ≠ 0 ∧ v = .tuple #[.int .u8 0, .slice none 0 0, .int .i64 (openE b)] ∧ Ext [] w w') ∨
  (openE b = 0 ∧ ∃ s, v = .tuple #[bv (kindB b), s, .int .i64 0] ∧ Fresh w w' 5 1 s ((bodyB b).map bv))

theorem openE_9 {b : List UInt8} (h : (!(decide (b.length = 512) && rightW b)) = true) : openE b = 9 := by rw [openE, h]; rfl
theorem openE_5 {b : List UInt8} (h : (decide (b.length = 512) && rightW b) = true) (h5 : openB b = false) : openE b = 5 := by rw [openE, h, h5]; rfl
theorem openE_0 {b : List UInt8} (h : (decide (b.length = 512) && rightW b) = true) (h5 : openB b = true) : openE b = 0 := by rw [openE, h, h5]; rfl
theorem rest_len {b : List UInt8} (h : b.length = 512) : (restB b).length = 505 := by simp [restB, h]
theorem kind_at {b : List UInt8} (h : b.length = 512) : b[0]? = some (kindB b) := by
  obtain ⟨x, hx⟩ := get_some (l := b) (i := 0) (by omega)
  rw [kindB, hx]; rfl

set_option maxRecDepth 20000 in
set_option maxHeartbeats 2000000 in
theorem open_ok (a : Option Addr) (c n : Nat) (b : List UInt8) (w : World) (R : Rd w a 1 B8 b) (hn : b.length = n) (hm : n ≤ 9223372036854775799) (hc : b.length ≤ c) :
    Ret Tryd.prog 72 #[.slice a n c] w fun v w' => OpenPost b w v w' := by
  subst hn
  obtain ⟨w0, rfl⟩ : ∃ w0, w0 = w := ⟨_, rfl⟩
  have H := Ctx.start w0 []
  refine ret_of_W (fn := Tryd.f72) Tryd.func72 rfl [.slice a b.length c] rfl (by kernel_rfl) ?_
  refine W_rseq ?_
  refine op_assign rfl (.int _ _) rfl ?_
  refine op_assign rfl (.slice _ _ _) rfl ?_
  refine op_assign rfl (.int _ _) rfl ?_
  refine op_nil (at_then ?_)
  refine W_seq ?_
  refine W_rseq (Wops_join (α := Unit) 130560 (fun _ => [(16, .bool (!(decide (b.length = 512) && rightW b)))]) (fun _ w' => Ctx w0 [] w' []) rfl ?_ ?_)
  · refine op_move rfl (.slice _ _ _) rfl ?_
    refine op_len rfl el_23 rfl ?_
    refine op_neq rfl rfl rfl ?_
    refine op_move rfl (.bool _) rfl ?_
    refine Wops_split 12 rfl ?_ ?_
    · intro h1
      replace h1 := ndec_t h1
      refine op_skip rfl ?_
      refine op_skip rfl ?_
      refine op_skip rfl ?_
      refine op_pick1 rfl rfl (.bool _) rfl ?_
      refine op_nil ?_
      exact ⟨rfl, (), rfl, ⟨congrArg Value.bool (by rw [Bool.eq_iff_iff]; simp_all; try omega), trivial⟩, H⟩
    · intro h2
      replace h2 := ndec_f h2
      refine op_move rfl (.slice _ _ _) rfl ?_
      refine op_call rfl ca_89 (right_ok a c b _ (R.ext0 H.ext) (by omega) hc) rfl ?_
      rintro v w ⟨rfl, rfl⟩
      refine op_not rfl rfl ?_
      refine op_pick0 rfl rfl (.bool _) rfl ?_
      refine op_nil ?_
      exact ⟨rfl, (), rfl, ⟨congrArg Value.bool (by rw [Bool.eq_iff_iff]; simp_all; try omega), trivial⟩, H⟩
  rintro - j16 w H
  refine W_cond _ rfl ?_ ?_
  · intro h1
    replace h1 := nvar_t h1
    have he := openE_9 (b := b) (by rw [h1]; rfl)
    refine W_rseq ?_
    refine op_assign rfl (.int _ _) rfl ?_
    refine op_assign rfl (.slice _ _ _) rfl ?_
    refine op_assign rfl (.int _ _) rfl ?_
    refine op_nil (at_then ?_)
    refine W_ret (ret_then (leave3 (v1 := (.int _ _)) (v2 := (.slice _ _ _)) (v3 := (.int _ _)) rfl rfl rfl rfl rfl ?_))
    exact .inl ⟨by rw [he]; decide, by rw [he], H.ext⟩
  · intro h1
    replace h1 := nvar_f h1
    have hlr : (decide (b.length = 512) && rightW b) = true := h1
    simp only [Bool.and_eq_true, decide_eq_true_eq] at h1
    obtain ⟨h512, hright⟩ := h1
    have hrl := rest_len h512
    have hk := kind_at h512
    have hkb := lt_byte (kindB b)
    have hnb : numB b < 65536 := by
      have := numN_lt ((b.drop 1).take 2)
      have h2 : ((b.drop 1).take 2).length = 2 := by rw [List.length_take, List.length_drop]; omega
      rw [h2] at this
      exact this
    have hte : takeE b 1 2 = 0 := by
      unfold takeE
      rw [decide_eq_true (show (1 : Int) ≤ (b.length : Int) by omega), decide_eq_true (show (2 : Int) ≤ (b.length : Int) - 1 by omega)]
      rfl
    have htv : takeV b 1 2 = .tuple #[.int .u64 (numB b : Int), .int .i64 3, .int .i64 0] := by rw [takeV, hte]; rfl
    have R8 : Rd w0 (cutA a c 3 1) 1 B8 (restB b) := (R.cut 3 c hc).take 505
    refine W_skip (at_then ?_)
    refine W_rseq ?_
    refine op_move rfl (.slice _ _ _) rfl ?_
    refine op_call rfl ca_73 (otake_ok a c b.length b 1 2 _ (R.ext0 H.ext) rfl (by omega) hc) rfl ?_
    rintro v w ⟨rfl, hx⟩
    rw [htv]
    replace H := H.call hx
    refine op_move rfl (.tuple _) rfl ?_
    refine op_extract rfl rfl rfl ?_
    refine op_extract rfl rfl rfl ?_
    refine op_extract rfl rfl rfl ?_
    refine op_assign rfl (.int _ _) rfl ?_
    refine op_assign rfl (.int _ _) rfl ?_
    refine op_assign rfl (.int _ _) rfl ?_
    refine op_nil (at_then ?_)
    refine W_rseq ?_
    refine op_move rfl (.slice _ _ _) rfl ?_
    refine op_move rfl (.int _ _) rfl ?_
    refine op_move rfl (.slice _ _ _) rfl ?_
    refine op_len rfl el_23 rfl ?_
    refine op_sub_i64 rfl rfl rfl (by omega) (by omega) ?_
    refine op_slice_lohi rfl el_23 sz_5 rfl rfl rfl (by omega) (by omega) (by omega) ?_
    rw [show ((b.length : Int) - 4).toNat - ((3 : Int)).toNat = 505 from by omega]
    refine op_assign rfl (.slice _ _ _) rfl ?_
    refine op_nil (at_then ?_)
    refine W_seq ?_
    refine W_block ?_
    refine W_seq ?_
    refine W_rseq ?_
    refine op_move rfl (.slice _ _ _) rfl ?_
    first | refine op_indexRd R rfl el_23 sz_5 rfl rfl (by omega) (by omega) (by first | rfl | omega) ?_ | refine op_indexAddr rfl el_23 sz_5 rfl rfl (by omega) (by omega) ?_
    first | refine op_ldb rfl ag_5 rfl H (by first | exact at0 | exact at1 | exact at2 | exact at3 | exact at4 | exact at5 | exact at6 | exact at7 | exact at8 | exact at9) rfl ?_ | refine op_ld rfl ag_5 rfl ((R.ext0 H.ext).one (f := bv) hk) ?_
    refine op_eql rfl rfl rfl ?_
    refine op_assign rfl (.bool _) rfl ?_
    refine op_nil (at_then ?_)
    refine W_csplit 29 rfl ?_ ?_
    · intro h2
      replace h2 := dec_t h2
      have he := openE_5 hlr (by rw [openB, decide_eq_true (show (kindB b).toNat = 0 by omega)]; rfl)
      refine W_skip (at_then ?_)
      refine W_cond1 rfl ?_
      refine W_rseq ?_
      refine op_assign rfl (.int _ _) rfl ?_
      refine op_assign rfl (.slice _ _ _) rfl ?_
      refine op_assign rfl (.int _ _) rfl ?_
      refine op_nil (at_then ?_)
      refine W_ret (ret_block (ret_then (leave3 (v1 := (.int _ _)) (v2 := (.slice _ _ _)) (v3 := (.int _ _)) rfl rfl rfl rfl rfl ?_)))
      exact .inl ⟨by rw [he]; decide, by rw [he], H.ext⟩
    · intro h2
      replace h2 := dec_f h2
      refine W_region ?_
      refine op_move rfl (.int _ _) rfl ?_
      refine op_move rfl (.slice _ _ _) rfl ?_
      refine op_len rfl el_23 rfl ?_
      refine op_conv_u64 rfl rfl un_3 un_22 (by omega) (by omega) ?_
      refine op_gtr rfl rfl rfl ?_
      refine op_assign rfl (.bool _) rfl ?_
      refine op_nil (at_then ?_)
      refine W_csplit 29 rfl ?_ ?_
      · intro h3
        replace h3 := dec_t h3
        have he := openE_5 hlr (by rw [openB, decide_eq_false (show ¬ numB b ≤ 505 by omega)]; simp)
        refine W_rseq ?_
        refine op_assign rfl (.int _ _) rfl ?_
        refine op_assign rfl (.slice _ _ _) rfl ?_
        refine op_assign rfl (.int _ _) rfl ?_
        refine op_nil (at_then ?_)
        refine W_ret (ret_block (ret_then (leave3 (v1 := (.int _ _)) (v2 := (.slice _ _ _)) (v3 := (.int _ _)) rfl rfl rfl rfl rfl ?_)))
        exact .inl ⟨by rw [he]; decide, by rw [he], H.ext⟩
      · intro h3
        replace h3 := dec_f h3
        have hcut := (R8.ext0 H.ext).cut (numB b) (c - 3) (by omega)
        refine W_rseq ?_
        refine op_move rfl (.slice _ _ _) rfl ?_
        refine op_move rfl (.int _ _) rfl ?_
        refine op_slice_lo rfl el_23 sz_5 rfl rfl (by omega) (by omega) ?_
        refine op_call rfl ca_90 (trim_ok _ (c - 3 - numB b) (505 - numB b) ((restB b).drop (numB b)) _ hcut (by rw [List.length_drop]; omega) (by omega) (by rw [List.length_drop]; omega)) rfl ?_
        rintro v w ⟨⟨a', n', c', rfl, hz, hle⟩, rfl⟩
        refine op_len rfl el_23 rfl ?_
        refine op_gtr rfl rfl rfl ?_
        rw [show decide ((0 : Int) < (n' : Int)) = !allZ ((restB b).drop (numB b)) from by rw [← hz]; exact decide_eq_decide.2 (by omega)]
        refine op_assign rfl (.bool _) rfl ?_
        refine op_nil (at_then ?_)
        refine W_cond _ rfl ?_ ?_
        · intro h4
          have hz4 : allZ ((restB b).drop (numB b)) = false := by simpa using h4
          have he := openE_5 hlr (by rw [openB, hz4]; simp)
          refine W_rseq ?_
          refine op_assign rfl (.int _ _) rfl ?_
          refine op_assign rfl (.slice _ _ _) rfl ?_
          refine op_assign rfl (.int _ _) rfl ?_
          refine op_nil (at_then ?_)
          refine W_ret (ret_block (ret_then (leave3 (v1 := (.int _ _)) (v2 := (.slice _ _ _)) (v3 := (.int _ _)) rfl rfl rfl rfl rfl ?_)))
          exact .inl ⟨by rw [he]; decide, by rw [he], H.ext⟩
        · intro h4
          have hz4 : allZ ((restB b).drop (numB b)) = true := by simpa using h4
          have he := openE_0 hlr (by rw [openB, hz4, decide_eq_false (show ¬ (kindB b).toNat = 0 by omega), decide_eq_true (show numB b ≤ 505 by omega)]; rfl)
          obtain ⟨wS, rfl⟩ : ∃ x, x = w := ⟨_, rfl⟩
          refine W_skip (at_block (at_then ?_))
          refine W_sseqz [([0, 1, 2, 3, 4, 5], 6), ([7, 8], 9)] (fun x => Ext [] wS x) 9999 mixed (by kernel_rfl) (Ext.drew [] wS) ?_
          refine seg_cons rfl rfl ?_
          refine t_move rfl (.slice _ _ _) rfl ?_
          first | refine t_indexRd R rfl el_23 sz_5 rfl rfl (by omega) (by omega) (by first | rfl | omega) ?_ | refine t_indexRd R rfl el_23 sz_5 rfl rfl (by omega) (by omega) (by first | rfl | omega) ?_ | refine t_indexAddr rfl el_23 sz_5 rfl rfl (by omega) (by omega) ?_
          first | refine t_ldb rfl ag_5 rfl (fun _ hx => H.call hx) (by first | exact at0 | exact at1 | exact at2 | exact at3 | exact at4 | exact at5 | exact at6 | exact at7 | exact at8 | exact at9) rfl ?_ | refine t_ld rfl ag_5 rfl (fun _ hx => (R.ext0 (H.ext.trans hx)).one (f := bv) hk) ?_
          refine t_move rfl (.slice _ _ _) rfl ?_
          refine t_move rfl (.int _ _) rfl ?_
          refine t_slice_hi rfl el_23 sz_5 rfl rfl (by omega) (by omega) ?_
          refine t_nil ?_
          replace H := H.drew
          refine op_call rfl ca_53 (clone_ok (cutA a c 3 1) (c - 3) (numB b) (bodyB b) _ ((R8.ext0 H.ext).take (numB b)) (by rw [bodyB, List.length_take]; omega) (by omega)) rfl ?_
          rintro v w ⟨F, -⟩
          obtain ⟨a52, n52, c52, full52, rfl, -⟩ := F.ex
          refine op_nil (at_seg ((Ext.drew [] wS).trans F.ext) ?_)
          refine seg_cons rfl rfl ?_
          refine t_assign rfl (.int _ _) rfl ?_
          refine t_assign rfl (.slice _ _ _) rfl ?_
          refine t_nil ?_
          refine op_assign rfl (.int _ _) rfl ?_
          refine op_nil (at_seg ((Ext.drew [] wS).trans F.ext) ?_)
          refine seg_nil ?_
          refine W_ret (leave3 (v1 := (.int _ _)) (v2 := (.slice _ _ _)) (v3 := (.int _ _)) rfl rfl rfl rfl rfl ?_)
          exact .inr ⟨he, _, rfl, Fresh.since F H.ext⟩


/-! ### The reference -/
theorem seal_uni {k : UInt8} {l : List UInt8} {w w' : World} {v : Value} (h : (sealE k l ≠ 0 ∧ v = .tuple #[.slice none 0 0, .int .i64 (sealE k l)] ∧ Ext [] w w') ∨
      (sealE k l = 0 ∧ ∃ s, v = .tuple #[s, .int .i64 0] ∧ Fresh w w' 5 1 s ((sealB k l).map bv))) : ∃ a c m, v = .tuple #[.slice a (List.length m) c, .int .i64 (sealE k l)] ∧ Ext [] w w' ∧ Rd w' a 1 B8 m ∧ (sealE k l = 0 → m = sealB k l) := by
  rcases h with ⟨h0, rfl, hx⟩ | ⟨h0, s, rfl, F⟩
  · exact ⟨none, 0, [], rfl, hx, Rd.nil, fun h => absurd h h0⟩
  · obtain ⟨a, c, rfl, R, _⟩ := Fresh.rdB F
    exact ⟨a, c, _, by rw [h0], F.ext, R, fun _ => rfl⟩
theorem putN_two {a b : UInt8} : putN (a.toNat * 256 + b.toNat) 2 = [a, b] := by
  have ha := lt_byte a; have hb := lt_byte b
  unfold putN
  simp only [List.range, List.range.loop, List.map_cons, List.map_nil]
  have h1 : UInt8.ofNat ((a.toNat * 256 + b.toNat) / 2 ^ (8 * (2 - 1 - 0))) = a := by
    apply UInt8.toNat_inj.1
    rw [UInt8.toNat_ofNat']; omega
  have h2 : UInt8.ofNat ((a.toNat * 256 + b.toNat) / 2 ^ (8 * (2 - 1 - 1))) = b := by
    apply UInt8.toNat_inj.1
    rw [UInt8.toNat_ofNat']; omega
  rw [h1, h2]
theorem allZ_iff (l : List UInt8) : allZ l = true ↔ l = List.replicate l.length 0 := by
  rw [allZ, List.all_eq_true, List.eq_replicate_iff]
  simp
theorem want_le4 {a b c d : UInt8} {s : Nat} (h : wantN [a, b, c, d] = s) : le4 s = [a, b, c, d] := by
  have ha := lt_byte a; have hb := lt_byte b; have hc := lt_byte c; have hd := lt_byte d
  simp only [wantN] at h
  unfold le4
  simp only [List.range, List.range.loop, List.map_cons, List.map_nil]
  have e : ∀ (x : UInt8) (y : Nat), y % 256 = x.toNat → UInt8.ofNat y = x := fun x y h => UInt8.toNat_inj.1 (by rw [UInt8.toNat_ofNat']; exact h)
  rw [e a (s / 2 ^ (8 * 0)) (by omega), e b (s / 2 ^ (8 * 1)) (by omega), e c (s / 2 ^ (8 * 2)) (by omega), e d (s / 2 ^ (8 * 3)) (by omega)]
theorem le4_want {s : Nat} (hs : s < 4294967296) : wantN (le4 s) = s := by
  unfold le4
  simp only [List.range, List.range.loop, List.map_cons, List.map_nil, wantN, UInt8.toNat_ofNat']
  omega

/-- What a block of the right size reads as. -/
theorem block_parts {b : List UInt8} (h : b.length = 512) : ∃ b1 b2 c0 c1 c2 c3, b[1]? = some b1 ∧ b[2]? = some b2 ∧ numB b = b1.toNat * 256 + b2.toNat ∧ b.drop 508 = [c0, c1, c2, c3] ∧ b = kindB b :: b1 :: b2 :: (restB b ++ [c0, c1, c2, c3]) := by
  obtain ⟨b1, h1⟩ := get_some (l := b) (i := 1) (by omega)
  obtain ⟨b2, h2⟩ := get_some (l := b) (i := 2) (by omega)
  obtain ⟨c0, g0⟩ := get_some (l := b) (i := 508) (by omega)
  obtain ⟨c1, g1⟩ := get_some (l := b) (i := 509) (by omega)
  obtain ⟨c2, g2⟩ := get_some (l := b) (i := 510) (by omega)
  obtain ⟨c3, g3⟩ := get_some (l := b) (i := 511) (by omega)
  have hd : b.drop 508 = [c0, c1, c2, c3] := by
    apply List.ext_getElem?
    intro i
    rw [List.getElem?_drop]
    match i with
    | 0 => exact g0
    | 1 => exact g1
    | 2 => exact g2
    | 3 => exact g3
    | i + 4 => rw [List.getElem?_eq_none (by omega)]; rfl
  have h12 : (b.drop 1).take 2 = [b1, b2] := by
    apply List.ext_getElem?
    intro i
    rw [List.getElem?_take, List.getElem?_drop]
    match i with
    | 0 => exact h1
    | 1 => exact h2
    | i + 2 => rw [if_neg (by omega)]; rfl
  refine ⟨b1, b2, c0, c1, c2, c3, h1, h2, by rw [numB, h12]; simp [numN], hd, ?_⟩
  have hk := kind_at h
  have e0 : b = b.take 1 ++ ((b.drop 1).take 2 ++ ((b.drop 3).take 505 ++ b.drop 508)) := by
    have e1 : b.drop 508 = (b.drop 3).drop 505 := by rw [List.drop_drop]
    have e2 : b.drop 3 = (b.drop 1).drop 2 := by rw [List.drop_drop]
    rw [e1, List.take_append_drop, e2, List.take_append_drop, List.take_append_drop]
  have e3 : b.take 1 = [kindB b] := by
    have := take_snoc hk
    simpa using this
  rw [e3, h12, hd] at e0
  exact e0

theorem seal_again {b : List UInt8} (h : b.length = 512) (hr : rightW b = true) (hn : numB b ≤ 505) : sealB (kindB b) (bodyB b) = b ↔ allZ ((restB b).drop (numB b)) = true := by
  obtain ⟨b1, b2, c0, c1, c2, c3, _, _, hnum, hd, hb⟩ := block_parts h
  have hrl := rest_len h
  have hbl : (bodyB b).length = numB b := by rw [bodyB, List.length_take]; omega
  have hzl : ((restB b).drop (numB b)).length = 505 - numB b := by rw [List.length_drop]; omega
  have hhead : headB (kindB b) (bodyB b) = kindB b :: b1 :: b2 :: (bodyB b ++ List.replicate (505 - numB b) 0) := by
    rw [headB, hbl, hnum, putN_two]; rfl
  have hlen := head_len (k := kindB b) (l := bodyB b) (by omega)
  constructor
  · intro he
    rw [allZ_iff, hzl]
    have h1 : (sealB (kindB b) (bodyB b)).take 508 = b.take 508 := by rw [he]
    rw [sealB, take_app508 hlen, hhead] at h1
    have h2 : b.take 508 = kindB b :: b1 :: b2 :: restB b := by
      have h3 : b.take 508 = (kindB b :: b1 :: b2 :: (restB b ++ [c0, c1, c2, c3])).take 508 := congrArg (List.take 508) hb
      rw [h3]
      show kindB b :: b1 :: b2 :: (restB b ++ [c0, c1, c2, c3]).take 505 = _
      rw [List.take_append_of_le_length (by omega), List.take_of_length_le (by omega)]
    rw [h2] at h1
    simp only [List.cons.injEq, true_and] at h1
    have h4 := congrArg (List.drop (numB b)) h1
    rw [List.drop_append_of_le_length (by omega), List.drop_of_length_le (by omega)] at h4
    simpa using h4.symm
  · intro hz
    rw [allZ_iff, hzl] at hz
    have hrest : bodyB b ++ List.replicate (505 - numB b) 0 = restB b := by rw [← hz, bodyB, List.take_append_drop]
    rw [hrest] at hhead
    have hb508 : b.take 508 = headB (kindB b) (bodyB b) := by
      have h3 : b.take 508 = (kindB b :: b1 :: b2 :: (restB b ++ [c0, c1, c2, c3])).take 508 := congrArg (List.take 508) hb
      rw [h3, hhead]
      show kindB b :: b1 :: b2 :: (restB b ++ [c0, c1, c2, c3]).take 505 = _
      rw [List.take_append_of_le_length (by omega), List.take_of_length_le (by omega)]
    rw [rightW, Bool.and_eq_true, decide_eq_true_eq, decide_eq_true_eq, h] at hr
    have hw := hr.2
    rw [show 512 - 4 = 508 from rfl, hb508, hd] at hw
    rw [sealB, want_le4 hw.symm, hhead]
    exact hb.symm

set_option maxRecDepth 20000 in
set_option maxHeartbeats 2000000 in
theorem open4_ok (a : Option Addr) (c n : Nat) (b : List UInt8) (w : World) (R : Rd w a 1 B8 b) (hn : b.length = n) (hm : n ≤ 9223372036854775799) (hc : b.length ≤ c) :
    Ret Tryd.prog 80 #[.slice a n c] w fun v w' => OpenPost b w v w' := by
  subst hn
  obtain ⟨w0, rfl⟩ : ∃ w0, w0 = w := ⟨_, rfl⟩
  have H := Ctx.start w0 []
  refine ret_of_W (fn := Tryd.f80) Tryd.func80 rfl [.slice a b.length c] rfl (by kernel_rfl) ?_
  refine W_rseq ?_
  refine op_assign rfl (.int _ _) rfl ?_
  refine op_assign rfl (.slice _ _ _) rfl ?_
  refine op_assign rfl (.int _ _) rfl ?_
  refine op_nil (at_then ?_)
  refine W_seq ?_
  refine W_rseq (Wops_join (α := Unit) 130560 (fun _ => [(16, .bool (!(decide (b.length = 512) && rightW b)))]) (fun _ w' => Ctx w0 [] w' []) rfl ?_ ?_)
  · refine op_move rfl (.slice _ _ _) rfl ?_
    refine op_len rfl el_23 rfl ?_
    refine op_neq rfl rfl rfl ?_
    refine op_move rfl (.bool _) rfl ?_
    refine Wops_split 12 rfl ?_ ?_
    · intro h1
      replace h1 := ndec_t h1
      refine op_skip rfl ?_
      refine op_skip rfl ?_
      refine op_skip rfl ?_
      refine op_pick1 rfl rfl (.bool _) rfl ?_
      refine op_nil ?_
      exact ⟨rfl, (), rfl, ⟨congrArg Value.bool (by rw [Bool.eq_iff_iff]; simp_all; try omega), trivial⟩, H⟩
    · intro h2
      replace h2 := ndec_f h2
      refine op_move rfl (.slice _ _ _) rfl ?_
      refine op_call rfl ca_96 (right2_ok a c b _ (R.ext0 H.ext) (by omega) hc) rfl ?_
      rintro v w ⟨rfl, hx⟩; replace H := H.call hx
      refine op_not rfl rfl ?_
      refine op_pick0 rfl rfl (.bool _) rfl ?_
      refine op_nil ?_
      exact ⟨rfl, (), rfl, ⟨congrArg Value.bool (by rw [Bool.eq_iff_iff]; simp_all; try omega), trivial⟩, H⟩
  rintro - j16 w H
  refine W_cond _ rfl ?_ ?_
  · intro h1
    replace h1 := nvar_t h1
    have he := openE_9 (b := b) (by rw [h1]; rfl)
    refine W_rseq ?_
    refine op_assign rfl (.int _ _) rfl ?_
    refine op_assign rfl (.slice _ _ _) rfl ?_
    refine op_assign rfl (.int _ _) rfl ?_
    refine op_nil (at_then ?_)
    refine W_ret (ret_then (leave3 (v1 := (.int _ _)) (v2 := (.slice _ _ _)) (v3 := (.int _ _)) rfl rfl rfl rfl rfl ?_))
    exact .inl ⟨by rw [he]; decide, by rw [he], H.ext⟩
  · intro h1
    replace h1 := nvar_f h1
    have hlr : (decide (b.length = 512) && rightW b) = true := h1
    simp only [Bool.and_eq_true, decide_eq_true_eq] at h1
    obtain ⟨h512, hright⟩ := h1
    have hrl := rest_len h512
    have hk := kind_at h512
    have hkb := lt_byte (kindB b)
    obtain ⟨b1, b2, c0, c1, c2, c3, hb1, hb2, hnum, -, -⟩ := block_parts h512
    have hl1 := lt_byte b1
    have hl2 := lt_byte b2
    refine W_skip (at_then ?_)
    refine W_qseq (fun x => x = _) mixed (by kernel_rfl) rfl ?_
    refine q_move rfl (.slice _ _ _) rfl ?_
    first | refine q_indexRd R rfl el_23 sz_5 rfl rfl (by omega) (by omega) (by first | rfl | omega) ?_ | refine q_indexAddr rfl el_23 sz_5 rfl rfl (by omega) (by omega) ?_
    first | refine q_ldb rfl ag_5 rfl (by rintro _ rfl; exact H.drew) (by first | exact at0 | exact at1 | exact at2 | exact at3 | exact at4 | exact at5 | exact at6 | exact at7 | exact at8 | exact at9) rfl ?_ | refine q_ld rfl ag_5 rfl (by rintro _ rfl; exact ((R.ext0 H.drew.ext).one (f := bv) hb1)) ?_ | refine q_ld rfl ag_5 rfl (by rintro _ rfl; exact ((R.ext0 H.drew.ext).one (f := bv) hb2)) ?_
    refine q_conv_i64 rfl rfl un_5 un_3 (by omega) (by omega) ?_
    refine q_mul_i64 rfl rfl rfl (by omega) (by omega) ?_
    refine q_move rfl (.slice _ _ _) rfl ?_
    first | refine q_indexRd R rfl el_23 sz_5 rfl rfl (by omega) (by omega) (by first | rfl | omega) ?_ | refine q_indexAddr rfl el_23 sz_5 rfl rfl (by omega) (by omega) ?_
    first | refine q_ldb rfl ag_5 rfl (by rintro _ rfl; exact H.drew) (by first | exact at0 | exact at1 | exact at2 | exact at3 | exact at4 | exact at5 | exact at6 | exact at7 | exact at8 | exact at9) rfl ?_ | refine q_ld rfl ag_5 rfl (by rintro _ rfl; exact ((R.ext0 H.drew.ext).one (f := bv) hb1)) ?_ | refine q_ld rfl ag_5 rfl (by rintro _ rfl; exact ((R.ext0 H.drew.ext).one (f := bv) hb2)) ?_
    refine q_conv_i64 rfl rfl un_5 un_3 (by omega) (by omega) ?_
    refine q_add_i64 rfl rfl rfl (by omega) (by omega) ?_
    rw [show (b1.toNat : Int) * 256 + (b2.toNat : Int) = (numB b : Int) from by rw [hnum]; omega]
    refine q_assign rfl (.int _ _) rfl ?_
    refine q_nil ?_
    rintro _ rfl
    replace H := H.drew
    refine W_seq ?_
    refine W_rseq ?_
    refine op_move rfl (.int _ _) rfl ?_
    refine op_gtr rfl rfl rfl ?_
    refine op_nil (at_then ?_)
    refine W_cond _ rfl ?_ ?_
    · intro h2
      replace h2 := dec_t h2
      have he := openE_5 hlr (by rw [openB, decide_eq_false (show ¬ numB b ≤ 505 by omega)]; simp)
      refine W_rseq ?_
      refine op_assign rfl (.int _ _) rfl ?_
      refine op_assign rfl (.slice _ _ _) rfl ?_
      refine op_assign rfl (.int _ _) rfl ?_
      refine op_nil (at_then ?_)
      refine W_ret (ret_then (leave3 (v1 := (.int _ _)) (v2 := (.slice _ _ _)) (v3 := (.int _ _)) rfl rfl rfl rfl rfl ?_))
      exact .inl ⟨by rw [he]; decide, by rw [he], H.ext⟩
    · intro h2
      replace h2 := dec_f h2
      have R9 : Rd w0 (cutA a c 3 1) 1 B8 (bodyB b) := ((R.cut 3 c hc).take 505).take (numB b)
      have hbl : (bodyB b).length = numB b := by rw [bodyB, List.length_take]; omega
      refine W_skip (at_then ?_)
      refine W_rseq ?_
      refine op_build0 rfl el_23 sz_5 H ?_
      rintro b29 w H O
      refine op_move rfl (.slice _ _ _) rfl ?_
      refine op_move rfl (.int _ _) rfl ?_
      refine op_add_i64 rfl rfl rfl (by omega) (by omega) ?_
      refine op_slice_lohi rfl el_23 sz_5 rfl rfl rfl (by omega) (by omega) (by omega) ?_
      rw [show ((3 : Int) + (numB b : Int)).toNat - ((3 : Int)).toNat = numB b by omega]
      refine op_append rfl el_23 el_23 sz_5 by_5 zc_5 rfl (by decide) ((bodyB b).map bv) rfl rfl H O (by rw [List.length_map, hbl, Nat.mul_one]) (bv_one _) (Rd.appB (R9.ext0 H.ext)) (by omega) ?_
      rintro a6 c6 full6 w H O
      rw [Nat.zero_add]
      replace O : OS a6 (numB b) c6 1 full6 ((bodyB b).map bv) := (by simpa using O)
      have R6 : Rd w a6 1 B8 (bodyB b) := OS.rdB O (fun x hx => H.blk x (by simpa using hx))
      refine op_assign rfl (.slice _ _ _) rfl ?_
      refine op_nil (at_then ?_)
      refine W_rseq ?_
      refine op_move rfl (.slice _ _ _) rfl ?_
      first | refine op_indexRd R rfl el_23 sz_5 rfl rfl (by omega) (by omega) (by first | rfl | omega) ?_ | refine op_indexAddr rfl el_23 sz_5 rfl rfl (by omega) (by omega) ?_
      first | refine op_ldb rfl ag_5 rfl H (by first | exact at0 | exact at1 | exact at2 | exact at3 | exact at4 | exact at5 | exact at6 | exact at7 | exact at8 | exact at9) rfl ?_ | refine op_ld rfl ag_5 rfl ((R.ext0 H.ext).one (f := bv) hk) ?_
      refine op_move rfl (.slice _ _ _) rfl ?_
      refine op_call rfl ca_56 (seal4_ok (kindB b) a6 c6 (numB b) (bodyB b) _ R6 hbl (by omega)) rfl ?_
      rintro v w P
      obtain ⟨a7, c7, l7, rfl, hx7, R7, hl7⟩ := seal_uni P
      replace H := H.call hx7
      refine op_move rfl (.tuple _) rfl ?_
      refine op_extract rfl rfl rfl ?_
      refine op_extract rfl rfl rfl ?_
      refine op_assign rfl (.slice _ _ _) rfl ?_
      refine op_assign rfl (.int _ _) rfl ?_
      refine op_nil (at_then ?_)
      refine W_seq ?_
      refine W_rseq ?_
      refine op_move rfl (.int _ _) rfl ?_
      refine op_neq rfl rfl rfl ?_
      refine op_move rfl (.bool _) rfl ?_
      refine Wops_split 45 rfl ?_ ?_
      · intro h3
        replace h3 := ndec_t h3
        have hk0 : (kindB b).toNat = 0 := by
          refine Classical.byContradiction fun hc => h3 ?_
          rw [sealE, decide_eq_false hc, decide_eq_false (show ¬ 505 < (bodyB b).length by omega)]; rfl
        have he := openE_5 hlr (by rw [openB, decide_eq_true hk0]; rfl)
        refine op_skip rfl ?_
        refine op_skip rfl ?_
        refine op_skip rfl ?_
        refine op_skip rfl ?_
        refine op_skip rfl ?_
        refine op_pick1 rfl rfl (.bool _) rfl ?_
        refine op_nil (at_then ?_)
        refine W_cond1 rfl ?_
        refine W_rseq ?_
        refine op_assign rfl (.int _ _) rfl ?_
        refine op_assign rfl (.slice _ _ _) rfl ?_
        refine op_assign rfl (.int _ _) rfl ?_
        refine op_nil (at_then ?_)
        refine W_ret (ret_then (leave3 (v1 := (.int _ _)) (v2 := (.slice _ _ _)) (v3 := (.int _ _)) rfl rfl rfl rfl rfl ?_))
        exact .inl ⟨by rw [he]; decide, by rw [he], H.ext⟩
      · intro h3
        replace h3 := ndec_f h3
        have hk0 : ¬ (kindB b).toNat = 0 := by
          intro hc
          rw [sealE, decide_eq_true hc] at h3
          cases h3
        have hsa := seal_again h512 hright (show numB b ≤ 505 by omega)
        refine op_move rfl (.slice _ _ _) rfl ?_
        refine op_back rfl el_23 un_5 un_9 rfl R7 ?_
        refine op_move rfl (.slice _ _ _) rfl ?_
        refine op_back rfl el_23 un_5 un_9 rfl (R.ext0 H.ext) ?_
        refine op_strne rfl rfl rfl ?_
        refine op_pick0 rfl rfl (.bool _) rfl ?_
        refine op_nil (at_then ?_)
        refine W_cond _ rfl ?_ ?_
        · intro h4
          have hne : ¬ l7 = b := by simpa using h4
          rw [hl7 h3, hsa] at hne
          have he := openE_5 hlr (by rw [openB, Bool.eq_false_iff.2 hne]; simp)
          refine W_rseq ?_
          refine op_assign rfl (.int _ _) rfl ?_
          refine op_assign rfl (.slice _ _ _) rfl ?_
          refine op_assign rfl (.int _ _) rfl ?_
          refine op_nil (at_then ?_)
          refine W_ret (ret_then (leave3 (v1 := (.int _ _)) (v2 := (.slice _ _ _)) (v3 := (.int _ _)) rfl rfl rfl rfl rfl ?_))
          exact .inl ⟨by rw [he]; decide, by rw [he], H.ext⟩
        · intro h4
          have heq : l7 = b := by simpa using h4
          rw [hl7 h3, hsa] at heq
          have he := openE_0 hlr (by rw [openB, heq, decide_eq_false hk0, decide_eq_true (show numB b ≤ 505 by omega)]; rfl)
          refine W_skip (at_then ?_)
          refine W_rseq ?_
          refine op_move rfl (.slice _ _ _) rfl ?_
          first | refine op_indexRd R rfl el_23 sz_5 rfl rfl (by omega) (by omega) (by first | rfl | omega) ?_ | refine op_indexAddr rfl el_23 sz_5 rfl rfl (by omega) (by omega) ?_
          first | refine op_ldb rfl ag_5 rfl H (by first | exact at0 | exact at1 | exact at2 | exact at3 | exact at4 | exact at5 | exact at6 | exact at7 | exact at8 | exact at9) rfl ?_ | refine op_ld rfl ag_5 rfl ((R.ext0 H.ext).one (f := bv) hk) ?_
          refine op_move rfl (.slice _ _ _) rfl ?_
          refine op_assign rfl (.int _ _) rfl ?_
          refine op_assign rfl (.slice _ _ _) rfl ?_
          refine op_assign rfl (.int _ _) rfl ?_
          refine op_nil (at_then ?_)
          refine W_ret (leave3 (v1 := (.int _ _)) (v2 := (.slice _ _ _)) (v3 := (.int _ _)) rfl rfl rfl rfl rfl ?_)
          exact .inr ⟨he, _, rfl, Ctx.fresh (L := []) H O⟩

end Go.Proofs.YtkmbcpgnafmnpaaDoor

/- Roots: what stands in a block of one. -/
namespace Go.Proofs.YtkmbcpgnafmnpaaDoor
open Go.GV
attribute [local irreducible] Wops W Wq Wt

def genB (b : List UInt8) : Nat := numN ((bodyB b).take 8)
def rootOk (k : Int) (b : List UInt8) : Bool :=
  decide (openE b = 0) && (decide ((kindB b).toNat = 1) && (decide (8 ≤ (bodyB b).length) && (decide ((bodyB b).length ≤ 488) && (decide (1 ≤ genB b) && (decide (genB b ≤ 4611686018427387904) && decide (((genB b % 2 : Nat) : Int) = k))))))
def rootG (k : Int) (b : List UInt8) : Nat := bif rootOk k b then genB b else 0
def rootL (k : Int) (b : List UInt8) : List UInt8 := bif rootOk k b then (bodyB b).drop 8 else []

theorem open_uni {b : List UInt8} {w w' : World} {v : Value} (h : OpenPost b w v w') : ∃ k a c m, v = .tuple #[bv k, .slice a (List.length m) c, .int .i64 (openE b)] ∧ Ext [] w w' ∧ Rd w' a 1 B8 m ∧ m.length ≤ c ∧ (openE b = 0 → k = kindB b ∧ m = bodyB b) ∧ m.length ≤ 505 := by
  rcases h with ⟨h0, rfl, hx⟩ | ⟨h0, s, rfl, F⟩
  · exact ⟨0, none, 0, [], rfl, hx, Rd.nil, Nat.le_refl _, fun h => absurd h h0, by simp⟩
  · obtain ⟨a, c, rfl, R, hc⟩ := Fresh.rdB F
    refine ⟨_, a, c, _, by rw [h0], F.ext, R, hc, fun _ => ⟨rfl, rfl⟩, ?_⟩
    have h1 : (bodyB b).length ≤ (restB b).length := by rw [bodyB, List.length_take]; exact Nat.min_le_right _ _
    have h2 : (restB b).length ≤ 505 := by rw [restB, List.length_take]; exact Nat.min_le_left _ _
    omega
theorem genB_lt (b : List UInt8) : genB b < 18446744073709551616 := by
  have h := numN_lt ((bodyB b).take 8)
  have h2 : 256 ^ ((bodyB b).take 8).length ≤ 256 ^ 8 := Nat.pow_le_pow_right (by omega) (by rw [List.length_take]; omega)
  have h3 : (256 : Nat) ^ 8 = 18446744073709551616 := by decide
  unfold genB; omega

def ReadPost (k : Int) (b : List UInt8) (w : World) (v : Value) (w' : World) : Prop :=
  ∃ a c, v = .agg #[.int .u64 (rootG k b : Int), .slice a (rootL k b).length c] ∧ Rd w' a 1 B8 (rootL k b) ∧ (rootL k b).length ≤ c ∧ (rootL k b = [] ∨ w.heap.size ≤ (adr a).block) ∧ Ext [] w w'

theorem take_uni (l : List UInt8) : ∃ (g8 : Nat) (n9 : Int), takeV l 0 8 = .tuple #[.int .u64 (g8 : Int), .int .i64 n9, .int .i64 (takeE l 0 8)] ∧ (takeE l 0 8 = 0 → g8 = numN (l.take 8) ∧ n9 = 8) := by
  by_cases h : takeE l 0 8 = 0
  · refine ⟨numN (l.take 8), 8, ?_, fun _ => ⟨rfl, rfl⟩⟩
    rw [takeV, h]; rfl
  · refine ⟨0, 0, ?_, fun h' => absurd h' h⟩
    rw [takeV, decide_eq_false h]; rfl
theorem Fresh.newB {w w' : World} {t : Nat} {s : Value} {xs : List UInt8} (h : Fresh w w' t 1 s (xs.map bv)) : ∃ a c, s = .slice a xs.length c ∧ Rd w' a 1 B8 xs ∧ xs.length ≤ c ∧ (xs = [] ∨ w.heap.size ≤ (adr a).block) := by
  obtain ⟨a, n, c, full, rfl, O, hb⟩ := h.ex
  have hn := O.num
  subst hn
  have R : Rd w' a 1 B8 xs := O.rd1 (t := t) fun x hx => (hb x hx).1
  refine ⟨a, c, rfl, R, O.le, ?_⟩
  by_cases h0 : xs = []
  · exact .inl h0
  · obtain ⟨b, o, rfl⟩ := R.some' h0
    exact .inr (hb _ (List.mem_singleton.2 rfl)).2
theorem Rd.newer {w w' : World} {a : Option Addr} {xs : List UInt8} {n : Nat} {S : List Nat} (R : Rd w a 1 B8 xs) (hn : xs = [] ∨ n ≤ (adr a).block) (he : Ext S w w') (hS : ∀ x ∈ S, x < n) : Rd w' a 1 B8 xs := by
  rcases hn with rfl | hn
  · exact Rd.nil
  · exact R.ext he fun h => absurd (hS _ h) (by omega)

theorem read_none {k : Int} {b : List UInt8} {w w' : World} (h : rootOk k b = false) (hx : Ext [] w w') : ReadPost k b w (.agg #[.int .u64 0, .slice none 0 0]) w' :=
  ⟨none, 0, by rw [rootG, rootL, h]; rfl, by rw [rootL, h]; exact Rd.nil, by rw [rootL, h]; exact Nat.le_refl _, .inl (by rw [rootL, h]; rfl), hx⟩

set_option maxRecDepth 20000 in
set_option maxHeartbeats 2000000 in
theorem read_ok (k : Int) (a : Option Addr) (c n : Nat) (b : List UInt8) (w : World) (R : Rd w a 1 B8 b) (hn : b.length = n) (hm : n ≤ 9223372036854775799) (hc : b.length ≤ c) :
    Ret Tryd.prog 55 #[.int .i64 k, .slice a n c] w fun v w' => ReadPost k b w v w' := by
  subst hn
  obtain ⟨w0, rfl⟩ : ∃ w0, w0 = w := ⟨_, rfl⟩
  have H := Ctx.start w0 []
  have hgl := genB_lt b
  refine ret_of_W (fn := Tryd.f55) Tryd.func55 rfl [.int .i64 k, .slice a b.length c] rfl (by kernel_rfl) ?_
  refine W_rseq ?_
  refine op_alloc rfl zc_92 H ?_
  rintro b4 w - H
  refine op_nil (at_then ?_)
  refine W_rseq ?_
  refine op_move rfl (.slice _ _ _) rfl ?_
  refine op_call rfl ca_72 (open_ok a c b.length b _ (R.ext0 H.ext) rfl hm hc) rfl ?_
  rintro v w P
  obtain ⟨kd, a6, c6, m, rfl, hx, R6, hc6, hP, hm5⟩ := open_uni P
  replace H := H.call hx
  refine op_move rfl (.tuple _) rfl ?_
  refine op_extract rfl rfl rfl ?_
  refine op_extract rfl rfl rfl ?_
  refine op_extract rfl rfl rfl ?_
  refine op_assign rfl (.int _ _) rfl ?_
  refine op_assign rfl (.slice _ _ _) rfl ?_
  refine op_assign rfl (.int _ _) rfl ?_
  refine op_nil (at_then ?_)
  refine W_seq ?_
  refine W_rseq (Wops_join (α := Unit) 268304384 (fun _ => [(27, .bool (!(decide (openE b = 0) && (decide (kd.toNat = 1) && decide (m.length ≤ 488)))))]) (fun _ w' => Ctx w0 [] w' [(b4, Bl 92 [.int .u64 0, .slice none 0 0])] ∧ Ext [] w w') rfl ?_ ?_)
  · refine op_move rfl (.int _ _) rfl ?_
    refine op_neq rfl rfl rfl ?_
    refine op_move rfl (.bool _) rfl ?_
    refine Wops_split 19 rfl ?_ ?_
    · intro h1
      replace h1 := ndec_t h1
      refine op_skip rfl ?_
      refine op_skip rfl ?_
      refine op_pick1 rfl rfl (.bool _) rfl ?_
      refine op_move rfl (.bool _) rfl ?_
      refine op_skip rfl ?_
      refine op_skip rfl ?_
      refine op_skip rfl ?_
      refine op_pick1 rfl rfl (.bool _) rfl ?_
      refine op_nil ?_
      exact ⟨rfl, (), rfl, ⟨congrArg Value.bool (by rw [Bool.eq_iff_iff]; simp_all; try omega), trivial⟩, ⟨H, .refl _ _⟩⟩
    · intro h2
      replace h2 := ndec_f h2
      refine op_move rfl (.int _ _) rfl ?_
      refine op_neq rfl rfl rfl ?_
      refine op_pick0 rfl rfl (.bool _) rfl ?_
      refine op_move rfl (.bool _) rfl ?_
      refine Wops_split 23 rfl ?_ ?_
      · intro h3
        replace h3 := ndec_t h3
        refine op_skip rfl ?_
        refine op_skip rfl ?_
        refine op_skip rfl ?_
        refine op_pick1 rfl rfl (.bool _) rfl ?_
        refine op_nil ?_
        exact ⟨rfl, (), rfl, ⟨congrArg Value.bool (by rw [Bool.eq_iff_iff]; simp_all; try omega), trivial⟩, ⟨H, .refl _ _⟩⟩
      · intro h4
        replace h4 := ndec_f h4
        refine op_move rfl (.slice _ _ _) rfl ?_
        refine op_len rfl el_23 rfl ?_
        refine op_gtr rfl rfl rfl ?_
        refine op_pick0 rfl rfl (.bool _) rfl ?_
        refine op_nil ?_
        exact ⟨rfl, (), rfl, ⟨congrArg Value.bool (by rw [Bool.eq_iff_iff]; simp_all; try omega), trivial⟩, ⟨H, .refl _ _⟩⟩
  rintro - j27 w ⟨H, hxj⟩
  replace R6 := R6.ext0 hxj
  refine W_cond _ rfl ?_ ?_
  · intro h1
    replace h1 := nvar_t h1
    have hr : rootOk k b = false := by
      rw [Bool.eq_false_iff]; intro hc
      simp only [rootOk, Bool.and_eq_true, decide_eq_true_eq] at hc
      obtain ⟨h2, h3, _, h4, _⟩ := hc
      obtain ⟨rfl, rfl⟩ := hP h2
      simp [h2, h3, h4] at h1
    refine W_rseq ?_
    refine op_buildS [.int .u64 0, .slice none 0 0] rfl pl_92 zc_92 (by kernel_rfl) ?_
    refine op_stb0 rfl sz_92 rfl rfl rfl (by simp [oneCell]) H (by first | exact at0 | exact at1 | exact at2 | exact at3 | exact at4 | exact at5 | exact at6 | exact at7 | exact at8 | exact at9) rfl ?_
    rintro w H
    refine op_nil (at_then ?_)
    refine W_ret (ret_then (leave1b rfl rfl rfl ag_92 sz_92 H (by first | exact at0 | exact at1 | exact at2 | exact at3 | exact at4 | exact at5 | exact at6 | exact at7 | exact at8 | exact at9) rfl ?_))
    exact read_none hr H.ext
  · intro h1
    replace h1 := nvar_f h1
    simp only [Bool.and_eq_true, decide_eq_true_eq] at h1
    obtain ⟨h2, h3, h4⟩ := h1
    obtain ⟨rfl, rfl⟩ := hP h2
    have hte : takeE (bodyB b) 0 8 = bif decide (8 ≤ (bodyB b).length) then 0 else 5 := by
      unfold takeE
      rw [decide_eq_true (show (0 : Int) ≤ ((bodyB b).length : Int) by omega)]
      cases hd : decide (8 ≤ (bodyB b).length) with
      | true => rw [decide_eq_true_eq] at hd; rw [decide_eq_true (show (8 : Int) ≤ ((bodyB b).length : Int) - 0 by omega)]; rfl
      | false => rw [decide_eq_false_iff_not] at hd; rw [decide_eq_false (show ¬ (8 : Int) ≤ ((bodyB b).length : Int) - 0 by omega)]; rfl
    refine W_skip (at_then ?_)
    refine W_rseq ?_
    refine op_move rfl (.slice _ _ _) rfl ?_
    refine op_call rfl ca_73 (otake_ok a6 c6 (bodyB b).length (bodyB b) 0 8 _ R6 rfl (by omega) hc6) rfl ?_
    rintro v w ⟨rfl, hx⟩
    obtain ⟨g8, n9, htv, hg8⟩ : ∃ (g8 : Nat) (n9 : Int), takeV (bodyB b) 0 8 = .tuple #[.int .u64 (g8 : Int), .int .i64 n9, .int .i64 (takeE (bodyB b) 0 8)] ∧ (takeE (bodyB b) 0 8 = 0 → g8 = genB b ∧ n9 = 8) := take_uni (bodyB b)
    rw [htv]
    replace H := H.call hx
    replace R6 := R6.ext0 hx
    refine op_move rfl (.tuple _) rfl ?_
    refine op_extract rfl rfl rfl ?_
    refine op_extract rfl rfl rfl ?_
    refine op_extract rfl rfl rfl ?_
    refine op_assign rfl (.int _ _) rfl ?_
    refine op_assign rfl (.int _ _) rfl ?_
    refine op_assign rfl (.int _ _) rfl ?_
    refine op_nil (at_then ?_)
    refine W_seq ?_
    refine W_rseq ?_
    refine op_move rfl (.int _ _) rfl ?_
    refine op_neq rfl rfl rfl ?_
    refine op_nil (at_then ?_)
    refine W_cond _ rfl ?_ ?_
    · intro h5
      replace h5 := ndec_t h5
      have hr : rootOk k b = false := by
        rw [Bool.eq_false_iff]; intro hc
        simp only [rootOk, Bool.and_eq_true, decide_eq_true_eq] at hc
        rw [hte, decide_eq_true hc.2.2.1] at h5
        exact h5 rfl
      refine W_rseq ?_
      refine op_buildS [.int .u64 0, .slice none 0 0] rfl pl_92 zc_92 (by kernel_rfl) ?_
      refine op_stb0 rfl sz_92 rfl rfl rfl (by simp [oneCell]) H (by first | exact at0 | exact at1 | exact at2 | exact at3 | exact at4 | exact at5 | exact at6 | exact at7 | exact at8 | exact at9) rfl ?_
      rintro w H
      refine op_nil (at_then ?_)
      refine W_ret (ret_then (leave1b rfl rfl rfl ag_92 sz_92 H (by first | exact at0 | exact at1 | exact at2 | exact at3 | exact at4 | exact at5 | exact at6 | exact at7 | exact at8 | exact at9) rfl ?_))
      exact read_none hr H.ext
    · intro h5
      replace h5 := ndec_f h5
      obtain ⟨rfl, rfl⟩ := hg8 h5
      have h8 : 8 ≤ (bodyB b).length := by
        refine Classical.byContradiction fun hc => ?_
        rw [hte, decide_eq_false hc] at h5
        cases h5
      have R8 := R6.cut 8 c6 hc6
      refine W_skip (at_then ?_)
      refine W_rseq ?_
      refine op_move rfl (.int _ _) rfl ?_
      refine op_move rfl (.slice _ _ _) rfl ?_
      refine op_move rfl (.int _ _) rfl ?_
      refine op_slice_lo rfl el_23 sz_5 rfl rfl (by omega) (by omega) ?_
      refine op_call rfl ca_74 (sclone_ok _ (c6 - 8) ((bodyB b).length - 8) ((bodyB b).drop 8) _ R8 (by rw [List.length_drop]) (by omega)) rfl ?_
      rintro v w ⟨F, -⟩
      have hlt := H.lt at0
      obtain ⟨a42, c42, rfl, R42, hc42, hnew⟩ := Fresh.newB F
      replace H := H.call F.ext
      have h4c := H.get at0
      have hw4 : w0.heap.size ≤ b4 := (H.own _ (List.mem_cons_self ..)).elim (fun h => by cases h) id
      have H0 := H.ext
      obtain ⟨wr, rfl⟩ : ∃ x, x = w := ⟨_, rfl⟩
      replace H := Ctx.start1 h4c
      refine op_buildS [.int .u64 (genB b : Int), .slice a42 ((bodyB b).drop 8).length c42] rfl pl_92 zc_92 (by kernel_rfl) ?_
      refine op_alloc rfl zc_92 H ?_
      rintro b10 w - H
      refine op_stb0 rfl sz_92 rfl rfl rfl (by simp [oneCell]) H (by first | exact at0 | exact at1 | exact at2 | exact at3 | exact at4 | exact at5 | exact at6 | exact at7 | exact at8 | exact at9) rfl ?_
      rintro w H
      refine op_nil (at_then ?_)
      refine W_seq ?_
      refine W_rseq (Wops_join (α := Unit) 1152903912420802560 (fun _ => [(59, .bool (!(decide (1 ≤ genB b) && (decide (genB b ≤ 4611686018427387904) && decide (((genB b % 2 : Nat) : Int) = k)))))]) (fun _ w' => Ctx wr [b4] w' [(b10, Bl 92 [.int .u64 (genB b : Int), .slice a42 ((bodyB b).drop 8).length c42]), (b4, Bl 92 [.int .u64 0, .slice none 0 0])]) rfl ?_ ?_)
      · refine op_fieldAddr rfl fo_92_0 rfl ?_
        refine op_ldb rfl ag_22 rfl H (by first | exact at0 | exact at1 | exact at2 | exact at3 | exact at4 | exact at5 | exact at6 | exact at7 | exact at8 | exact at9) rfl ?_
        refine op_lss rfl rfl rfl ?_
        refine op_move rfl (.bool _) rfl ?_
        refine Wops_split 47 rfl ?_ ?_
        · intro h5
          replace h5 := dec_t h5
          refine op_skip rfl ?_
          refine op_skip rfl ?_
          refine op_skip rfl ?_
          refine op_pick1 rfl rfl (.bool _) rfl ?_
          refine op_move rfl (.bool _) rfl ?_
          refine op_skip rfl ?_
          refine op_skip rfl ?_
          refine op_skip rfl ?_
          refine op_skip rfl ?_
          refine op_skip rfl ?_
          refine op_skip rfl ?_
          refine op_pick1 rfl rfl (.bool _) rfl ?_
          refine op_nil ?_
          exact ⟨rfl, (), rfl, ⟨congrArg Value.bool (by rw [Bool.eq_iff_iff]; simp_all; try omega), trivial⟩, H⟩
        · intro h6
          replace h6 := dec_f h6
          refine op_fieldAddr rfl fo_92_0 rfl ?_
          refine op_ldb rfl ag_22 rfl H (by first | exact at0 | exact at1 | exact at2 | exact at3 | exact at4 | exact at5 | exact at6 | exact at7 | exact at8 | exact at9) rfl ?_
          refine op_gtr rfl rfl rfl ?_
          refine op_pick0 rfl rfl (.bool _) rfl ?_
          refine op_move rfl (.bool _) rfl ?_
          refine Wops_split 52 rfl ?_ ?_
          · intro h7
            replace h7 := dec_t h7
            refine op_skip rfl ?_
            refine op_skip rfl ?_
            refine op_skip rfl ?_
            refine op_skip rfl ?_
            refine op_skip rfl ?_
            refine op_skip rfl ?_
            refine op_pick1 rfl rfl (.bool _) rfl ?_
            refine op_nil ?_
            exact ⟨rfl, (), rfl, ⟨congrArg Value.bool (by rw [Bool.eq_iff_iff]; simp_all; try omega), trivial⟩, H⟩
          · intro h8
            replace h8 := dec_f h8
            refine op_fieldAddr rfl fo_92_0 rfl ?_
            refine op_ldb rfl ag_22 rfl H (by first | exact at0 | exact at1 | exact at2 | exact at3 | exact at4 | exact at5 | exact at6 | exact at7 | exact at8 | exact at9) rfl ?_
            refine op_rem rfl rfl rfl (by omega) (by omega) ?_
            refine op_conv_i64 rfl rfl un_22 un_3 (by omega) (by omega) ?_
            refine op_move rfl (.int _ _) rfl ?_
            refine op_neq rfl rfl rfl ?_
            refine op_pick0 rfl rfl (.bool _) rfl ?_
            refine op_nil ?_
            exact ⟨rfl, (), rfl, ⟨congrArg Value.bool (by rw [Bool.eq_iff_iff]; simp_all; try omega), trivial⟩, H⟩
      rintro - j59 w H
      refine W_cond _ rfl ?_ ?_
      · intro h6
        replace h6 := nvar_t h6
        have hr : rootOk k b = false := by
          rw [Bool.eq_false_iff]; intro hc
          simp only [rootOk, Bool.and_eq_true, decide_eq_true_eq] at hc
          simp [hc.2.2.2.2.1, hc.2.2.2.2.2.1, hc.2.2.2.2.2.2] at h6
        refine W_rseq ?_
        refine op_buildS [.int .u64 0, .slice none 0 0] rfl pl_92 zc_92 (by kernel_rfl) ?_
        refine op_stb0 rfl sz_92 rfl rfl rfl (by simp [oneCell]) H (by first | exact at0 | exact at1 | exact at2 | exact at3 | exact at4 | exact at5 | exact at6 | exact at7 | exact at8 | exact at9) rfl ?_
        rintro w H
        refine op_nil (at_then ?_)
        refine W_ret (ret_then (leave1b rfl rfl rfl ag_92 sz_92 H (by first | exact at0 | exact at1 | exact at2 | exact at3 | exact at4 | exact at5 | exact at6 | exact at7 | exact at8 | exact at9) rfl ?_))
        exact read_none hr (H0.then H.ext (by intro x hx; rw [List.mem_singleton] at hx; subst hx; exact .inr hw4))
      · intro h6
        replace h6 := nvar_f h6
        have hr : rootOk k b = true := by
          simp only [Bool.and_eq_true, decide_eq_true_eq] at h6
          simp only [rootOk, Bool.and_eq_true, decide_eq_true_eq]
          exact ⟨h2, h3, h8, h4, h6.1, h6.2.1, h6.2.2⟩
        refine W_skip (at_then ?_)
        refine W_rseq ?_
        refine op_ldbN rfl ag_92 sz_92 rfl H (by first | exact at0 | exact at1 | exact at2 | exact at3 | exact at4 | exact at5 | exact at6 | exact at7 | exact at8 | exact at9) rfl ?_
        refine op_stb0 rfl sz_92 rfl rfl rfl (by simp [oneCell]) H (by first | exact at0 | exact at1 | exact at2 | exact at3 | exact at4 | exact at5 | exact at6 | exact at7 | exact at8 | exact at9) rfl ?_
        rintro w H
        refine op_nil (at_then ?_)
        refine W_ret (leave1b rfl rfl rfl ag_92 sz_92 H (by first | exact at0 | exact at1 | exact at2 | exact at3 | exact at4 | exact at5 | exact at6 | exact at7 | exact at8 | exact at9) rfl ?_)
        have R9 := Rd.newer R42 hnew H.ext (by intro x hx; rw [List.mem_singleton] at hx; subst hx; exact hlt)
        refine ⟨a42, c42, ?_, ?_, ?_, ?_, H0.then H.ext (by intro x hx; rw [List.mem_singleton] at hx; subst hx; exact .inr hw4)⟩
        · rw [rootG, rootL, hr]; rfl
        · rw [rootL, hr]; exact R9
        · rw [rootL, hr]; exact hc42
        · rw [rootL, hr]; exact hnew.imp id fun h => by omega

end Go.Proofs.YtkmbcpgnafmnpaaDoor

/- The reference's roots. -/
namespace Go.Proofs.YtkmbcpgnafmnpaaDoor
open Go.GV
attribute [local irreducible] Wops W Wq Wt

theorem putN_snoc' {n i : Nat} (h : i < 8) : (putN n 8).take (i + 1) = (putN n 8).take i ++ [UInt8.ofNat (n / 2 ^ (8 * (7 - i)))] := putN_snoc h

set_option maxHeartbeats 2000000 in
theorem root_ok (n : Nat) (a : Option Addr) (c m : Nat) (l : List UInt8) (w : World) (R : Rd w a 1 B8 l) (hml : l.length = m) (hm : m ≤ 140737488351231) (_ : n < 18446744073709551616) :
    Ret Tryd.prog 57 #[.int .u64 (n : Int), .slice a m c] w fun v w' => Fresh w w' 5 1 v ((putN n 8 ++ l).map bv) := by
  subst hml
  obtain ⟨w0, rfl⟩ : ∃ w0, w0 = w := ⟨_, rfl⟩
  have H := Ctx.start w0 []
  refine ret_of_W (fn := Tryd.f57) Tryd.func57 rfl [.int .u64 (n : Int), .slice a l.length c] rfl (by kernel_rfl) ?_
  refine W_rseq ?_
  refine op_assign rfl (.slice _ _ _) rfl ?_
  refine op_nil (at_then ?_)
  refine W_rseq ?_
  refine op_assign rfl (.slice _ _ _) rfl ?_
  refine op_nil (at_then ?_)
  refine W_seq ?_
  refine W_rseq ?_
  refine op_assign rfl (.int _ _) rfl ?_
  refine op_nil (at_then ?_)
  refine W_block ?_
  refine W_loop 1048544 (α := Nat × Option Addr × Nat × List Value) (fun x => [(6, .int .i64 (7 - (x.1 : Int))), (5, .slice x.2.1 x.1 x.2.2.1)]) (fun x w' => x.1 ≤ 8 ∧ Ctx w0 [] w' (ent x.2.1 5 x.2.2.2) ∧ OS x.2.1 x.1 x.2.2.1 1 x.2.2.2 (((putN n 8).take x.1).map bv)) (fun x => 8 - x.1) (0, none, 0, []) rfl ?_ ?_ ?_
  · exact ⟨rfl, rfl, trivial⟩
  · exact ⟨Nat.zero_le _, H, OS.nil⟩
  · rintro ⟨i, a5, c5, full5⟩ j w ⟨hi, H, O⟩; dsimp only at hi H O; dsimp only
    refine W_seq ?_
    refine W_rseq ?_
    refine op_move rfl (.int _ _) rfl ?_
    refine op_geq rfl rfl rfl ?_
    refine op_nil (at_then ?_)
    refine W_cond _ rfl ?_ ?_
    · intro h2
      replace h2 := dec_t h2
      refine W_skip (at_then ?_)
      refine W_seq ?_
      refine W_block ?_
      refine W_region ?_
      refine op_move rfl (.slice _ _ _) rfl ?_
      refine op_move rfl (.int _ _) rfl ?_
      refine op_move rfl (.int _ _) rfl ?_
      refine op_mul_i64 rfl rfl rfl (by omega) (by omega) ?_
      rw [show (8 : Int) * (7 - (i : Int)) = ((8 * (7 - i) : Nat) : Int) from by omega]
      refine op_conv_u64 rfl rfl un_3 un_34 (by omega) (by omega) ?_
      refine op_shr_u64 rfl rfl rfl (by omega) ?_
      refine op_convn_u8 rfl rfl un_22 un_5 ?_
      rw [ofNat_val]
      refine op_build1 _ (.int _ _) rfl el_23 sz_5 zc_5 rfl (by decide) (by decide) rfl rfl rfl H ?_
      rintro b18 w - H
      refine op_appendb (L := []) rfl el_23 el_23 sz_5 by_5 zc_5 rfl (by decide) rfl rfl H O rfl (by simp [oneCell]) (by omega) ?_
      rintro a9 c9 full9 w H O
      refine op_assign rfl (.slice _ _ _) rfl ?_
      refine op_nil (at_block (at_then ?_))
      refine W_region ?_
      refine op_move rfl (.int _ _) rfl ?_
      refine op_sub_i64 rfl rfl rfl (by omega) (by omega) ?_
      refine op_assign rfl (.int _ _) rfl ?_
      refine op_nil (at_then ?_)
      refine ⟨(i + 1, a9, c9, full9), rfl, ⟨congrArg (Value.int .i64) (show (7 : Int) - (i : Int) - 1 = 7 - ((i + 1 : Nat) : Int) by omega), rfl, trivial⟩, ⟨by omega, H, ?_⟩, by dsimp only; omega⟩
      dsimp only
      have O' : OS a9 (i + 1) c9 1 full9 (((putN n 8).take i).map bv ++ [UInt8.ofNat (n / 2 ^ (8 * (7 - i)))].map bv) := O
      rw [← List.map_append, ← putN_snoc' (by omega)] at O'
      exact O'
    · intro h2
      replace h2 := dec_f h2
      have hiq : i = 8 := by omega
      subst hiq
      have hl : (putN n 8).take 8 = putN n 8 := List.take_of_length_le (by rw [putN_len]; exact Nat.le_refl _)
      rw [hl] at O
      refine W_exit (exit_then (exit_then (exit_here (at_then ?_))))
      refine W_rseq ?_
      refine op_move rfl (.slice _ _ _) rfl ?_
      refine op_move rfl (.slice _ _ _) rfl ?_
      refine op_append (L := []) rfl el_23 el_23 sz_5 by_5 zc_5 rfl (by decide) (l.map bv) rfl rfl H O (by simp) (bv_one l) (Rd.appB (R.ext0 H.ext)) (by omega) ?_
      rintro a7 c7 full7 w H O
      refine op_assign rfl (.slice _ _ _) rfl ?_
      refine op_nil (at_then ?_)
      refine W_ret (leave1 (v := (.slice _ _ _)) rfl rfl rfl ?_)
      rw [← List.map_append] at O
      exact Ctx.fresh (L := []) H O

def OfPost (k : Int) (b : List UInt8) (w : World) (v : Value) (w' : World) : Prop :=
  ∃ a c, v = .tuple #[.int .u64 (rootG k b : Int), .slice a (rootL k b).length c] ∧ Rd w' a 1 B8 (rootL k b) ∧ (rootL k b).length ≤ c ∧ Ext [] w w'
theorem of_none {k : Int} {b : List UInt8} {w w' : World} (h : rootOk k b = false) (hx : Ext [] w w') : OfPost k b w (.tuple #[.int .u64 0, .slice none 0 0]) w' :=
  ⟨none, 0, by rw [rootG, rootL, h]; rfl, by rw [rootL, h]; exact Rd.nil, by rw [rootL, h]; exact Nat.le_refl _, hx⟩

set_option maxRecDepth 20000 in
set_option maxHeartbeats 2000000 in
theorem of_ok (k : Int) (a : Option Addr) (c n : Nat) (b : List UInt8) (w : World) (R : Rd w a 1 B8 b) (hn : b.length = n) (hm : n ≤ 9223372036854775799) (hc : b.length ≤ c) :
    Ret Tryd.prog 62 #[.int .i64 k, .slice a n c] w fun v w' => OfPost k b w v w' := by
  subst hn
  obtain ⟨w0, rfl⟩ : ∃ w0, w0 = w := ⟨_, rfl⟩
  have H := Ctx.start w0 []
  have hgl := genB_lt b
  refine ret_of_W (fn := Tryd.f62) Tryd.func62 rfl [.int .i64 k, .slice a b.length c] rfl (by kernel_rfl) ?_
  refine W_rseq ?_
  refine op_assign rfl (.int _ _) rfl ?_
  refine op_assign rfl (.slice _ _ _) rfl ?_
  refine op_nil (at_then ?_)
  refine W_rseq ?_
  refine op_move rfl (.slice _ _ _) rfl ?_
  refine op_call rfl ca_80 (open4_ok a c b.length b _ (R.ext0 H.ext) rfl hm hc) rfl ?_
  rintro v w P
  obtain ⟨kd, a6, c6, m, rfl, hx, R6, hc6, hP, hm5⟩ := open_uni P
  replace H := H.call hx
  refine op_move rfl (.tuple _) rfl ?_
  refine op_extract rfl rfl rfl ?_
  refine op_extract rfl rfl rfl ?_
  refine op_extract rfl rfl rfl ?_
  refine op_assign rfl (.int _ _) rfl ?_
  refine op_assign rfl (.slice _ _ _) rfl ?_
  refine op_assign rfl (.int _ _) rfl ?_
  refine op_nil (at_then ?_)
  refine W_seq ?_
  refine W_rseq (Wops_join (α := Unit) 8589803520 (fun _ => [(32, .bool (!(decide (openE b = 0) && (decide (kd.toNat = 1) && (decide (8 ≤ m.length) && decide (m.length ≤ 488))))))]) (fun _ w' => Ctx w0 [] w' [] ∧ Ext [] w w') rfl ?_ ?_)
  · refine op_move rfl (.int _ _) rfl ?_
    refine op_neq rfl rfl rfl ?_
    refine op_move rfl (.bool _) rfl ?_
    refine Wops_split 19 rfl ?_ ?_
    · intro h1
      replace h1 := ndec_t h1
      refine op_skip rfl ?_
      refine op_skip rfl ?_
      refine op_pick1 rfl rfl (.bool _) rfl ?_
      refine op_move rfl (.bool _) rfl ?_
      refine op_skip rfl ?_
      refine op_skip rfl ?_
      refine op_skip rfl ?_
      refine op_pick1 rfl rfl (.bool _) rfl ?_
      refine op_move rfl (.bool _) rfl ?_
      refine op_skip rfl ?_
      refine op_skip rfl ?_
      refine op_skip rfl ?_
      refine op_pick1 rfl rfl (.bool _) rfl ?_
      refine op_nil ?_
      exact ⟨rfl, (), rfl, ⟨congrArg Value.bool (by rw [Bool.eq_iff_iff]; simp_all; try omega), trivial⟩, ⟨H, .refl _ _⟩⟩
    · intro h2
      replace h2 := ndec_f h2
      refine op_move rfl (.int _ _) rfl ?_
      refine op_neq rfl rfl rfl ?_
      refine op_pick0 rfl rfl (.bool _) rfl ?_
      refine op_move rfl (.bool _) rfl ?_
      refine Wops_split 23 rfl ?_ ?_
      · intro h3
        replace h3 := ndec_t h3
        refine op_skip rfl ?_
        refine op_skip rfl ?_
        refine op_skip rfl ?_
        refine op_pick1 rfl rfl (.bool _) rfl ?_
        refine op_move rfl (.bool _) rfl ?_
        refine op_skip rfl ?_
        refine op_skip rfl ?_
        refine op_skip rfl ?_
        refine op_pick1 rfl rfl (.bool _) rfl ?_
        refine op_nil ?_
        exact ⟨rfl, (), rfl, ⟨congrArg Value.bool (by rw [Bool.eq_iff_iff]; simp_all; try omega), trivial⟩, ⟨H, .refl _ _⟩⟩
      · intro h4
        replace h4 := ndec_f h4
        refine op_move rfl (.slice _ _ _) rfl ?_
        refine op_len rfl el_23 rfl ?_
        refine op_lss rfl rfl rfl ?_
        refine op_pick0 rfl rfl (.bool _) rfl ?_
        refine op_move rfl (.bool _) rfl ?_
        refine Wops_split 28 rfl ?_ ?_
        · intro h5
          replace h5 := dec_t h5
          refine op_skip rfl ?_
          refine op_skip rfl ?_
          refine op_skip rfl ?_
          refine op_pick1 rfl rfl (.bool _) rfl ?_
          refine op_nil ?_
          exact ⟨rfl, (), rfl, ⟨congrArg Value.bool (by rw [Bool.eq_iff_iff]; simp_all; try omega), trivial⟩, ⟨H, .refl _ _⟩⟩
        · intro h6
          replace h6 := dec_f h6
          refine op_move rfl (.slice _ _ _) rfl ?_
          refine op_len rfl el_23 rfl ?_
          refine op_gtr rfl rfl rfl ?_
          refine op_pick0 rfl rfl (.bool _) rfl ?_
          refine op_nil ?_
          exact ⟨rfl, (), rfl, ⟨congrArg Value.bool (by rw [Bool.eq_iff_iff]; simp_all; try omega), trivial⟩, ⟨H, .refl _ _⟩⟩
  rintro - j32 w ⟨H, hxj⟩
  replace R6 := R6.ext0 hxj
  refine W_cond _ rfl ?_ ?_
  · intro h1
    replace h1 := nvar_t h1
    have hr : rootOk k b = false := by
      rw [Bool.eq_false_iff]; intro hc
      simp only [rootOk, Bool.and_eq_true, decide_eq_true_eq] at hc
      obtain ⟨h2, h3, h5, h4, _⟩ := hc
      obtain ⟨rfl, rfl⟩ := hP h2
      simp [h2, h3, h4, h5] at h1
    refine W_rseq ?_
    refine op_assign rfl (.int _ _) rfl ?_
    refine op_assign rfl (.slice _ _ _) rfl ?_
    refine op_nil (at_then ?_)
    refine W_ret (ret_then (leave2 (v1 := (.int _ _)) (v2 := (.slice _ _ _)) rfl rfl rfl rfl ?_))
    exact of_none hr H.ext
  · intro h1
    replace h1 := nvar_f h1
    simp only [Bool.and_eq_true, decide_eq_true_eq] at h1
    obtain ⟨h2, h3, h8, h4⟩ := h1
    obtain ⟨rfl, rfl⟩ := hP h2
    refine W_skip (at_then ?_)
    refine W_rseq ?_
    refine op_assign rfl (.int _ _) rfl ?_
    refine op_nil (at_then ?_)
    refine W_seq ?_
    refine W_rseq ?_
    refine op_assign rfl (.int _ _) rfl ?_
    refine op_nil (at_then ?_)
    refine W_block ?_
    refine W_loop 35175782155776 (α := Nat) (fun i => [(10, .int .i64 i), (9, .int .u64 (numN ((bodyB b).take i) : Int))]) (fun i w' => i ≤ 8 ∧ w = w') (fun i => 8 - i) 0 rfl ?_ ?_ ?_
    · exact ⟨rfl, rfl, trivial⟩
    · exact ⟨Nat.zero_le _, rfl⟩
    · rintro i j _ ⟨hi, rfl⟩
      refine W_seq ?_
      refine W_rseq ?_
      refine op_move rfl (.int _ _) rfl ?_
      refine op_lss rfl rfl rfl ?_
      refine op_nil (at_then ?_)
      refine W_cond _ rfl ?_ ?_
      · intro h5
        replace h5 := dec_t h5
        obtain ⟨x, hx⟩ := get_some (l := bodyB b) (i := i) (by omega)
        have hxb := lt_byte x
        have hlt := numN_lt ((bodyB b).take (i + 1))
        have hst := num_step hx (by omega)
        refine W_skip (at_then ?_)
        refine W_seq ?_
        refine W_block ?_
        refine W_region ?_
        refine op_move rfl (.int _ _) rfl ?_
        refine op_shl_u64 (n := 8) rfl rfl rfl (by omega) ?_
        refine op_move rfl (.slice _ _ _) rfl ?_
        refine op_move rfl (.int _ _) rfl ?_
        first | refine op_indexRd R6 rfl el_23 sz_5 rfl rfl (by omega) (by omega) (by first | rfl | omega) ?_ | refine op_indexAddr rfl el_23 sz_5 rfl rfl (by omega) (by omega) ?_
        first | refine op_ldb rfl ag_5 rfl H (by first | exact at0 | exact at1 | exact at2 | exact at3 | exact at4 | exact at5 | exact at6 | exact at7 | exact at8 | exact at9) rfl ?_ | refine op_ld rfl ag_5 rfl (R6.one (f := bv) hx) ?_
        refine op_conv_u64 rfl (show _ = Value.int .u8 ((x.toNat : Nat) : Int) from rfl) un_5 un_22 (by omega) (by omega) ?_
        refine op_or_u64 rfl rfl rfl (Nat.mod_lt _ (by decide)) (by omega) ?_
        rw [hst]
        refine op_assign rfl (.int _ _) rfl ?_
        refine op_nil (at_block (at_then ?_))
        refine W_region ?_
        refine op_move rfl (.int _ _) rfl ?_
        refine op_add_i64 rfl rfl rfl (by omega) (by omega) ?_
        refine op_assign rfl (.int _ _) rfl ?_
        refine op_nil (at_then ?_)
        exact ⟨i + 1, rfl, ⟨rfl, rfl, trivial⟩, ⟨by omega, rfl⟩, by omega⟩
      · intro h5
        replace h5 := dec_f h5
        have hiq : i = 8 := by omega
        subst hiq
        rw [show numN ((bodyB b).take 8) = genB b from rfl]
        refine W_exit (exit_then (exit_then (exit_here (at_then ?_))))
        refine W_seq ?_
        refine W_rseq (Wops_join (α := Unit) 288195191779622912 (fun _ => [(57, .bool (!(decide (1 ≤ genB b) && (decide (genB b ≤ 4611686018427387904) && decide (((genB b % 2 : Nat) : Int) = k)))))]) (fun _ w' => Ctx w0 [] w' [] ∧ Ext [] w w') rfl ?_ ?_)
        · refine op_move rfl (.int _ _) rfl ?_
          refine op_lss rfl rfl rfl ?_
          refine op_move rfl (.bool _) rfl ?_
          refine Wops_split 47 rfl ?_ ?_
          · intro h7
            replace h7 := dec_t h7
            refine op_skip rfl ?_
            refine op_skip rfl ?_
            refine op_pick1 rfl rfl (.bool _) rfl ?_
            refine op_move rfl (.bool _) rfl ?_
            refine op_skip rfl ?_
            refine op_skip rfl ?_
            refine op_skip rfl ?_
            refine op_skip rfl ?_
            refine op_skip rfl ?_
            refine op_pick1 rfl rfl (.bool _) rfl ?_
            refine op_nil ?_
            exact ⟨rfl, (), rfl, ⟨congrArg Value.bool (by rw [Bool.eq_iff_iff]; simp_all; try omega), trivial⟩, ⟨H, .refl _ _⟩⟩
          · intro h8
            replace h8 := dec_f h8
            refine op_move rfl (.int _ _) rfl ?_
            refine op_gtr rfl rfl rfl ?_
            refine op_pick0 rfl rfl (.bool _) rfl ?_
            refine op_move rfl (.bool _) rfl ?_
            refine Wops_split 51 rfl ?_ ?_
            · intro h9
              replace h9 := dec_t h9
              refine op_skip rfl ?_
              refine op_skip rfl ?_
              refine op_skip rfl ?_
              refine op_skip rfl ?_
              refine op_skip rfl ?_
              refine op_pick1 rfl rfl (.bool _) rfl ?_
              refine op_nil ?_
              exact ⟨rfl, (), rfl, ⟨congrArg Value.bool (by rw [Bool.eq_iff_iff]; simp_all; try omega), trivial⟩, ⟨H, .refl _ _⟩⟩
            · intro h10
              replace h10 := dec_f h10
              refine op_move rfl (.int _ _) rfl ?_
              refine op_rem rfl rfl rfl (by omega) (by omega) ?_
              refine op_conv_i64 rfl rfl un_22 un_3 (by omega) (by omega) ?_
              refine op_move rfl (.int _ _) rfl ?_
              refine op_neq rfl rfl rfl ?_
              refine op_pick0 rfl rfl (.bool _) rfl ?_
              refine op_nil ?_
              exact ⟨rfl, (), rfl, ⟨congrArg Value.bool (by rw [Bool.eq_iff_iff]; simp_all; try omega), trivial⟩, ⟨H, .refl _ _⟩⟩
        rintro - j57 w ⟨H, hxj⟩
        replace R6 := R6.ext0 hxj
        refine W_cond _ rfl ?_ ?_
        · intro h6
          replace h6 := nvar_t h6
          have hr : rootOk k b = false := by
            rw [Bool.eq_false_iff]; intro hc
            simp only [rootOk, Bool.and_eq_true, decide_eq_true_eq] at hc
            simp [hc.2.2.2.2.1, hc.2.2.2.2.2.1, hc.2.2.2.2.2.2] at h6
          refine W_rseq ?_
          refine op_assign rfl (.int _ _) rfl ?_
          refine op_assign rfl (.slice _ _ _) rfl ?_
          refine op_nil (at_then ?_)
          refine W_ret (ret_then (leave2 (v1 := (.int _ _)) (v2 := (.slice _ _ _)) rfl rfl rfl rfl ?_))
          exact of_none hr H.ext
        · intro h6
          replace h6 := nvar_f h6
          have hr : rootOk k b = true := by
            simp only [Bool.and_eq_true, decide_eq_true_eq] at h6
            simp only [rootOk, Bool.and_eq_true, decide_eq_true_eq]
            exact ⟨h2, h3, h8, h4, h6.1, h6.2.1, h6.2.2⟩
          have R8 := R6.cut 8 c6 hc6
          refine W_skip (at_then ?_)
          refine W_qseq (fun x => x = _) mixed (by kernel_rfl) rfl ?_
          refine q_move rfl (.int _ _) rfl ?_
          refine q_move rfl (.slice _ _ _) rfl ?_
          refine q_slice_lo rfl el_23 sz_5 rfl rfl (by omega) (by omega) ?_
          refine q_assign rfl (.int _ _) rfl ?_
          refine q_assign rfl (.slice _ _ _) rfl ?_
          refine q_nil ?_
          rintro _ rfl
          replace H := H.drew
          refine W_ret (leave2 (v1 := (.int _ _)) (v2 := (.slice _ _ _)) rfl rfl rfl rfl ?_)
          refine ⟨cutA a6 c6 8 1, c6 - 8, ?_, ?_, ?_, H.ext⟩
          · rw [rootG, rootL, hr]; simp
          · rw [rootL, hr]; exact R8.ext0 (Ext.drew _ _)
          · rw [rootL, hr]; simp; omega

end Go.Proofs.YtkmbcpgnafmnpaaDoor

/- Pointers against nil; reads of maps that any order takes. It holds for every program. -/
namespace Go.GV
open Go

section
variable {P : Program} {r : Option Nat} {ops rest : List Oper} {Q : Exit → Env → World → Prop} {e : Env} {w w0 : World} {S : List Nat} {L : List (Nat × Obj)} {C : World → Prop} {K : Env → Prop}
  {dst : Option Tmp} {ty : TypeId} {pos : String} {af : Array Edge} {g : Option (Nat × Bool)}

theorem run_peq {P : Program} {t el : TypeId} (hu : P.underlying t = some (.pointer el)) (d : Nat) (a : Option Addr) (w : World) : (Op.equalIn (d + 1) t (.pointer a) (.pointer none)).run P w = .ok a.isNone w := by
  cases a <;> simp [Op.equalIn, run_under hu]
theorem run_peql {P : Program} {t el : TypeId} (hu : P.underlying t = some (.pointer el)) (a : Option Addr) (w : World) : (binOp .eql t (.pointer a) (.pointer none)).run P w = .ok (.bool a.isNone) w := by
  simp only [binOp, Sem.run_bind, Op.equal, Op.maxDepth, run_peq hu 9999]
  cases a <;> rfl
theorem run_pneq {P : Program} {t el : TypeId} (hu : P.underlying t = some (.pointer el)) (a : Option Addr) (w : World) : (binOp .neq t (.pointer a) (.pointer none)).run P w = .ok (.bool a.isSome) w := by
  simp only [binOp, Sem.run_bind, Op.equal, Op.maxDepth, run_peq hu 9999]
  cases a <;> rfl

theorem op_eqlptr {t t2 : TypeId} {x : Operand} {a : Option Addr} {el : TypeId} (hg : wants ⟨dst, .binOp .eql t x (.const (.pointer none)) t2, ty, pos, af, g⟩ ops e = true) (hu : P.underlying t = some (.pointer el)) (hx : ev e x = .pointer a)
    (h : Wops P r ops Q rest (put e dst (.bool a.isNone)) w) : Wops P r ops Q (⟨dst, .binOp .eql t x (.const (.pointer none)) t2, ty, pos, af, g⟩ :: rest) e w :=
  op_val hg rfl (by
    have hq : eqGuard .eql t x (.const (.pointer none)) (.pointer a) (.pointer none) = pure () := rfl
    have he : ev e (.const (.pointer none)) = .pointer none := rfl
    simp only [execOp, hx, he, hq, Sem.run_bind, Sem.run_pure, Result.andThen_ok, run_peql hu]) h
theorem op_neqptr {t t2 : TypeId} {x : Operand} {a : Option Addr} {el : TypeId} (hg : wants ⟨dst, .binOp .neq t x (.const (.pointer none)) t2, ty, pos, af, g⟩ ops e = true) (hu : P.underlying t = some (.pointer el)) (hx : ev e x = .pointer a)
    (h : Wops P r ops Q rest (put e dst (.bool a.isSome)) w) : Wops P r ops Q (⟨dst, .binOp .neq t x (.const (.pointer none)) t2, ty, pos, af, g⟩ :: rest) e w :=
  op_val hg rfl (by
    have hq : eqGuard .neq t x (.const (.pointer none)) (.pointer a) (.pointer none) = pure () := rfl
    have he : ev e (.const (.pointer none)) = .pointer none := rfl
    simp only [execOp, hx, he, hq, Sem.run_bind, Sem.run_pure, Result.andThen_ok, run_pneq hu]) h

theorem run_lookup {t k el : TypeId} {kk : IntKind} {x y : Operand} {b : Nat} {o : Obj} {m : List (Int × Value)} {n : Int} {z : Value}
    (ht : mapT P t = some (k, el)) (hk : P.underlying k = some (.int kk)) (hz : (P.info? el).bind (·.zero) = some z) (hx : ev e x = .map (some b)) (hy : ev e y = .int kk n) (hb : w.heap[b]? = some o) (hM : MapO kk m o) :
    (execOp (ev e) ⟨dst, .lookup t x y false, ty, pos, af, g⟩).run P w = .ok (.value ((mget m n).getD z)) w := by
  obtain ⟨es, clock, rfl, hes, _⟩ := hM
  have hf := findNow_at kk n es.toList m 0 hes
  have hgo : (getObj b).run P w = .ok (.map es clock) w := by simp [getObj, Sem.run, hb]
  have hzr : (zeroValue el).run P w = .ok z w := by
    cases hi : P.info? el with
    | none => rw [hi] at hz; cases hz
    | some i => rw [hi] at hz; simp at hz; simp [zeroValue, typeInfo, program, Sem.run, hi, hz]
  cases hm : mget m n with
  | none => simp [execOp, Instr.lookup, run_under (mapT_u ht), hx, hy, hgo, run_checkKey hk, Instr.findKey, run_under hk, hf.1 hm, hzr]
  | some v =>
    obtain ⟨i, hi, _⟩ := hf.2 v hm
    simp [execOp, Instr.lookup, run_under (mapT_u ht), hx, hy, hgo, run_checkKey hk, Instr.findKey, run_under hk, hi]
theorem op_lookupH {t k el : TypeId} {kk : IntKind} {x y : Operand} {b : Nat} {o : Obj} {m : List (Int × Value)} {n : Int} {z : Value} (hg : wants ⟨dst, .lookup t x y false, ty, pos, af, g⟩ ops e = true)
    (ht : mapT P t = some (k, el)) (hk : P.underlying k = some (.int kk)) (hz : (P.info? el).bind (·.zero) = some z) (hx : ev e x = .map (some b)) (hy : ev e y = .int kk n) (hb : w.heap[b]? = some o) (hM : MapO kk m o)
    (h : Wops P r ops Q rest (put e dst ((mget m n).getD z)) w) : Wops P r ops Q (⟨dst, .lookup t x y false, ty, pos, af, g⟩ :: rest) e w :=
  op_val hg rfl (run_lookup ht hk hz hx hy hb hM) h
theorem t_lookup {t k el : TypeId} {kk : IntKind} {x y : Operand} {b j : Nat} {o : Obj} {m : List (Int × Value)} {n : Int} {z : Value} (hg : wants ⟨dst, .lookup t x y false, ty, pos, af, g⟩ ops e = true)
    (ht : mapT P t = some (k, el)) (hk : P.underlying k = some (.int kk)) (hz : (P.info? el).bind (·.zero) = some z) (hx : ev e x = .map (some b)) (hy : ev e y = .int kk n) (H : ∀ w, C w → Ctx w0 S w L) (hl : L[j]? = some (b, o)) (hM : MapO kk m o)
    (h : Wt P ops C K rest (put e dst ((mget m n).getD z))) : Wt P ops C K (⟨dst, .lookup t x y false, ty, pos, af, g⟩ :: rest) e :=
  t_val hg (fun w hw => run_lookup ht hk hz hx hy ((H w hw).get hl) hM) h
theorem q_lookup {t k el : TypeId} {kk : IntKind} {x y : Operand} {b j : Nat} {o : Obj} {m : List (Int × Value)} {n : Int} {z : Value} (hg : wants ⟨dst, .lookup t x y false, ty, pos, af, g⟩ ops e = true)
    (ht : mapT P t = some (k, el)) (hk : P.underlying k = some (.int kk)) (hz : (P.info? el).bind (·.zero) = some z) (hx : ev e x = .map (some b)) (hy : ev e y = .int kk n) (H : ∀ w, C w → Ctx w0 S w L) (hl : L[j]? = some (b, o)) (hM : MapO kk m o)
    (h : Wq P ops C K rest (put e dst ((mget m n).getD z))) : Wq P ops C K (⟨dst, .lookup t x y false, ty, pos, af, g⟩ :: rest) e :=
  q_val hg (fun w hw => run_lookup ht hk hz hx hy ((H w hw).get hl) hM) h
end
theorem Ctx.oldb {w0 w : World} {L : List (Nat × Obj)} {b : Nat} {o : Obj} (H : Ctx w0 [] w L) (h : w0.heap[b]? = some o) : w.heap[b]? = some o := by
  rw [H.ext.block b (heap_lt h) (by simp)]; exact h
theorem OS.rdV {w : World} {a : Option Addr} {n c : Nat} {t : TypeId} {full vs : List Value} (h : OS a n c 1 full vs) (hb : ∀ x ∈ ent a t full, w.heap[x.1]? = some x.2) : Rd w a 1 (fun v : Value => [v]) vs :=
  OS.rd1 (f := fun v => v) (by simpa using h) hb
theorem rdV_bl {w : World} {b t : Nat} {vs : List Value} (h : w.heap[b]? = some (Bl t vs)) : Rd w (some ⟨b, 0, none⟩) 1 (fun v : Value => [v]) vs :=
  Rd.of_bl (r := []) h (by rw [List.append_nil, flat1 (f := fun v => v)]; simp) (fun x _ => rfl)
end Go.GV

/- Devices: what they hold, and how they lie. -/
namespace Go.Proofs.YtkmbcpgnafmnpaaDoor
open Go.GV
attribute [local irreducible] Wops W Wq Wt

abbrev Byt := List UInt8
/-- A device: of each block what is sure and what is loose; writes and flushes that are done yet; is it on? -/
structure Dev where
  B : List (Byt × List Byt)
  left : Int
  on : Bool

def stands (p : Byt × List Byt) : Byt := p.2.getLast?.getD p.1
def zeros : Byt := List.replicate 512 0
def Dev.goes (A : Dev) : Bool := decide (A.left = 0)
def Dev.less (A : Dev) : Dev := if A.left = 0 then { A with on := false } else if A.left = -1 then A else { A with left := A.left - 1 }

def newE (n : Int) : Int := bif decide (n < 1) || decide (4096 < n) then 1 else 0
def newD (n : Nat) : Dev := ⟨List.replicate n (zeros, []), -1, true⟩
def Dev.has (A : Dev) (k : Int) : Bool := decide (0 ≤ k) && decide (k < A.B.length)
def readE (A : Dev) (k : Int) : Int := bif A.on then (bif A.has k then 0 else 1) else 8
def readB (A : Dev) (k : Int) : Byt := bif decide (readE A k = 0) then stands (A.B.getD k.toNat (zeros, [])) else []
def writeE (A : Dev) (k : Int) (b : Byt) : Int := bif A.on then (bif A.has k && decide (b.length = 512) then (bif A.goes then 8 else 0) else 1) else 8
def addW (A : Dev) (k : Nat) (b : Byt) : Dev := { A with B := A.B.modify k fun p => (p.1, p.2 ++ [b]) }
def writeD (A : Dev) (k : Int) (b : Byt) : Dev := bif A.on && (A.has k && decide (b.length = 512)) then (bif A.goes then A.less else addW A.less k.toNat b) else A
def flushE (A : Dev) : Int := bif A.on then (bif A.goes then 8 else 0) else 8
def sureD (A : Dev) : Dev := { A with B := A.B.map fun p => (stands p, []) }
def flushD (A : Dev) : Dev := bif A.on then (bif A.goes then A.less else sureD A.less) else A
def armE (A : Dev) : Int := bif A.on then 0 else 8
def armD (A : Dev) (n : Int) : Dev := bif A.on then { A with left := max n (-1) } else A
def offD (A : Dev) : Dev := { A with on := false }
/-- What is kept of what was loose. -/
def kept (p : Byt × List Byt) (x : Nat) : Byt := if x = 0 then p.1 else p.2.getD (x - 1) p.1
def pickN (p : Byt × List Byt) (picks : List Int) : Nat := match picks with | [] => 0 | x :: _ => (max x 0).toNat % (p.2.length + 1)
def keepB : List (Byt × List Byt) → List Int → List (Byt × List Byt)
  | [], _ => []
  | p :: l, picks => if p.2 = [] then (p.1, []) :: keepB l picks else (kept p (pickN p picks), []) :: keepB l picks.tail
def onE (A : Dev) : Int := bif A.on then 3 else 0
def onD (A : Dev) (picks : List Int) : Dev := bif A.on then A else ⟨keepB A.B picks, -1, true⟩

/-- All blocks are whole; no number is too great. -/
structure Wf (A : Dev) : Prop where
  lo : 1 ≤ A.B.length
  hi : A.B.length ≤ 4096
  left : -1 ≤ A.left
  left2 : A.left ≤ 9223372036854775807
  sure : ∀ p ∈ A.B, p.1.length = 512
  loose : ∀ p ∈ A.B, ∀ b ∈ p.2, b.length = 512
/-- No more than so many are loose in one block. -/
def Few (A : Dev) (m : Nat) : Prop := ∀ p ∈ A.B, p.2.length ≤ m

theorem getD_mem {α : Type} {l : List α} {i : Nat} {d : α} (h : i < l.length) : l.getD i d ∈ l := by
  rw [List.getD_eq_getElem?_getD, List.getElem?_eq_getElem h]
  exact List.getElem_mem h
theorem mem_modify' {α : Type} {l : List α} {f : α → α} {i : Nat} {x : α} (h : x ∈ l.modify i f) : x ∈ l ∨ ∃ y ∈ l, x = f y := by
  induction l generalizing i with
  | nil => simp at h
  | cons a l ih =>
    cases i with
    | zero =>
      rw [List.modify_zero_cons, List.mem_cons] at h
      rcases h with rfl | h
      · exact .inr ⟨a, List.mem_cons_self .., rfl⟩
      · exact .inl (List.mem_cons_of_mem _ h)
    | succ i =>
      rw [List.modify_succ_cons, List.mem_cons] at h
      rcases h with rfl | h
      · exact .inl (List.mem_cons_self ..)
      · rcases ih h with h | ⟨y, hy, rfl⟩
        · exact .inl (List.mem_cons_of_mem _ h)
        · exact .inr ⟨y, List.mem_cons_of_mem _ hy, rfl⟩

theorem less_B (A : Dev) : A.less.B = A.B := by
  unfold Dev.less
  split
  · rfl
  · split <;> rfl
theorem less_wf {A : Dev} (h : Wf A) : Wf A.less := by
  have h1 := h.left; have h2 := h.left2
  unfold Dev.less
  split
  · exact ⟨h.lo, h.hi, h.left, h.left2, h.sure, h.loose⟩
  · split
    · exact h
    · exact ⟨h.lo, h.hi, by dsimp only; omega, by dsimp only; omega, h.sure, h.loose⟩
theorem stands_len {A : Dev} (h : Wf A) {p : Byt × List Byt} (hp : p ∈ A.B) : (stands p).length = 512 := by
  unfold stands
  cases hl : p.2.getLast? with
  | none => exact h.sure p hp
  | some b => exact h.loose p hp b (List.mem_of_getLast? hl)
theorem addW_wf {A : Dev} (h : Wf A) {k : Nat} {b : Byt} (hb : b.length = 512) : Wf (addW A k b) := by
  refine ⟨by simpa [addW] using h.lo, by simpa [addW] using h.hi, h.left, h.left2, fun p hp => ?_, fun p hp x hx => ?_⟩
  · rcases mem_modify' hp with hp | ⟨y, hy, rfl⟩
    · exact h.sure p hp
    · exact h.sure y hy
  · rcases mem_modify' hp with hp | ⟨y, hy, rfl⟩
    · exact h.loose p hp x hx
    · simp only [List.mem_append, List.mem_singleton] at hx
      rcases hx with hx | rfl
      · exact h.loose y hy x hx
      · exact hb
theorem sureD_wf {A : Dev} (h : Wf A) : Wf (sureD A) := by
  refine ⟨by simpa [sureD] using h.lo, by simpa [sureD] using h.hi, h.left, h.left2, fun p hp => ?_, fun p hp x hx => ?_⟩
  · obtain ⟨y, hy, rfl⟩ := List.mem_map.1 hp
    exact stands_len h hy
  · obtain ⟨y, hy, rfl⟩ := List.mem_map.1 hp
    simp at hx
theorem kept_len {A : Dev} (h : Wf A) {p : Byt × List Byt} (hp : p ∈ A.B) (x : Nat) : (kept p x).length = 512 := by
  unfold kept
  split
  · exact h.sure p hp
  · rw [List.getD_eq_getElem?_getD]
    cases hx : p.2[x - 1]? with
    | none => exact h.sure p hp
    | some b => exact h.loose p hp b (List.mem_of_getElem? hx)
theorem keepB_len (l : List (Byt × List Byt)) (picks : List Int) : (keepB l picks).length = l.length := by
  induction l generalizing picks with
  | nil => rfl
  | cons p l ih => unfold keepB; split <;> simp [ih]
theorem keepB_mem {l : List (Byt × List Byt)} {picks : List Int} {q : Byt × List Byt} (h : q ∈ keepB l picks) : q.2 = [] ∧ ∃ p ∈ l, ∃ x, q.1 = kept p x := by
  induction l generalizing picks with
  | nil => simp [keepB] at h
  | cons p l ih =>
    unfold keepB at h
    split at h
    · rw [List.mem_cons] at h
      rcases h with rfl | h
      · exact ⟨rfl, p, List.mem_cons_self .., 0, rfl⟩
      · obtain ⟨h1, y, hy, h2⟩ := ih h
        exact ⟨h1, y, List.mem_cons_of_mem _ hy, h2⟩
    · rw [List.mem_cons] at h
      rcases h with rfl | h
      · exact ⟨rfl, p, List.mem_cons_self .., _, rfl⟩
      · obtain ⟨h1, y, hy, h2⟩ := ih h
        exact ⟨h1, y, List.mem_cons_of_mem _ hy, h2⟩
theorem new_wf {n : Nat} (h1 : 1 ≤ n) (h2 : n ≤ 4096) : Wf (newD n) := by
  refine ⟨by simpa [newD] using h1, by simpa [newD] using h2, by show (-1 : Int) ≤ -1; omega, by show (-1 : Int) ≤ _; omega, fun p hp => ?_, fun p hp x hx => ?_⟩
  · rw [(List.mem_replicate.1 hp).2]; exact List.length_replicate
  · rw [(List.mem_replicate.1 hp).2] at hx; cases hx
theorem write_wf {A : Dev} (h : Wf A) (k : Int) (b : Byt) : Wf (writeD A k b) := by
  unfold writeD
  cases hc : (A.on && (A.has k && decide (b.length = 512))) with
  | false => exact h
  | true =>
    simp only [Bool.and_eq_true, decide_eq_true_eq] at hc
    cases A.goes
    · exact addW_wf (less_wf h) hc.2.2
    · exact less_wf h
theorem flush_wf {A : Dev} (h : Wf A) : Wf (flushD A) := by
  unfold flushD
  cases A.on
  · exact h
  · cases A.goes
    · exact sureD_wf (less_wf h)
    · exact less_wf h
theorem arm_wf {A : Dev} (h : Wf A) (n : Int) (hn : n ≤ 9223372036854775807) : Wf (armD A n) := by
  unfold armD
  cases A.on
  · exact h
  · exact ⟨h.lo, h.hi, by show (-1 : Int) ≤ max n (-1); omega, by show max n (-1) ≤ (_ : Int); omega, h.sure, h.loose⟩
theorem off_wf {A : Dev} (h : Wf A) : Wf (offD A) := ⟨h.lo, h.hi, h.left, h.left2, h.sure, h.loose⟩
theorem on_wf {A : Dev} (h : Wf A) (picks : List Int) : Wf (onD A picks) := by
  unfold onD
  cases A.on
  · refine ⟨by show 1 ≤ (keepB A.B picks).length; rw [keepB_len]; exact h.lo, by show (keepB A.B picks).length ≤ 4096; rw [keepB_len]; exact h.hi, by show (-1 : Int) ≤ -1; omega, by show (-1 : Int) ≤ _; omega, fun p hp => ?_, fun p hp x hx => ?_⟩
    · obtain ⟨_, y, hy, x, hx⟩ := keepB_mem hp
      rw [hx]; exact kept_len h hy x
    · rw [(keepB_mem hp).1] at hx; cases hx
  · exact h

theorem Few.mono {A : Dev} {m m' : Nat} (h : Few A m) (hm : m ≤ m') : Few A m' := fun p hp => Nat.le_trans (h p hp) hm
theorem new_few (n : Nat) : Few (newD n) 0 := fun p hp => by rw [(List.mem_replicate.1 hp).2]; exact Nat.le_refl _
theorem less_few {A : Dev} {m : Nat} (h : Few A m) : Few A.less m := fun p hp => h p (by rwa [less_B] at hp)
theorem write_few {A : Dev} {m : Nat} (h : Few A m) (k : Int) (b : Byt) : Few (writeD A k b) (m + 1) := by
  unfold writeD
  cases A.on && (A.has k && decide (b.length = 512))
  · exact h.mono (by omega)
  · cases A.goes
    · intro p hp
      rcases mem_modify' hp with hp | ⟨y, hy, rfl⟩
      · have := less_few h p hp; omega
      · have := less_few h y hy
        simp only [List.length_append, List.length_singleton]; omega
    · exact (less_few h).mono (by omega)
theorem flush_few {A : Dev} {m : Nat} (h : Few A m) : Few (flushD A) m := by
  unfold flushD
  cases A.on
  · exact h
  · cases A.goes
    · intro p hp
      obtain ⟨y, _, rfl⟩ := List.mem_map.1 hp
      exact Nat.zero_le _
    · exact less_few h
theorem arm_few {A : Dev} {m : Nat} (h : Few A m) (n : Int) : Few (armD A n) m := by unfold armD; cases A.on <;> exact h
theorem off_few {A : Dev} {m : Nat} (h : Few A m) : Few (offD A) m := h
theorem on_few {A : Dev} {m : Nat} (h : Few A m) (picks : List Int) : Few (onD A picks) m := by
  unfold onD
  cases A.on
  · intro p hp
    rw [(keepB_mem hp).1]; exact Nat.zero_le _
  · exact h

/-! ### How a device lies -/
def All2 {α β : Type} (R : α → β → Prop) (xs : List α) (ys : List β) : Prop := xs.length = ys.length ∧ ∀ (i : Nat) (x : α) (y : β), xs[i]? = some x → ys[i]? = some y → R x y

def BytesAt (w : World) (role : Nat → Nat) (v : Value) (s : Byt) : Prop := ∃ a c, v = .slice a 512 c ∧ Rd w a 1 B8 s ∧ s.length = 512 ∧ role (adr a).block = 4 ∧ 512 ≤ c
def SureAt (w : World) (role : Nat → Nat) (v : Value) (s : Byt) : Prop := (v = .slice none 0 0 ∧ s = zeros) ∨ BytesAt w role v s
def LooseAt (w : World) (role : Nat → Nat) (k : Nat) (v : Value) (l : List Byt) : Prop :=
  ∃ a n c full vs, v = .slice a n c ∧ OS a n c 1 full vs ∧ (∀ x ∈ ent a 23 full, w.heap[x.1]? = some x.2 ∧ role x.1 = 5 + k) ∧ All2 (BytesAt w role) vs l

def DB (n bs bm : Nat) (left : Int) (on : Bool) : List Value := [.slice (some ⟨bs, 0, none⟩) n n, .map (some bm), .int .i64 left, .bool (!on)]
def TD : Nat := 86
def nilS : Value := .slice none 0 0

structure DevR (w : World) (bd : Nat) (A : Dev) (role : Nat → Nat) (bs bm : Nat) (sv : List Value) (m : List (Int × Value)) (o : Obj) : Prop where
  lt : ∀ x, role x ≠ 0 → x < w.heap.size
  rd : role bd = 1
  rs : role bs = 2
  rm : role bm = 3
  hd : w.heap[bd]? = some (Bl TD (DB A.B.length bs bm A.left A.on))
  hs : w.heap[bs]? = some (Bl 23 sv)
  hm : w.heap[bm]? = some o
  hM : MapO .i64 m o
  nd : (m.map (·.1)).Nodup
  keys : ∀ k v, mget m k = some v → ∃ i : Nat, k = i ∧ i < A.B.length
  len : sv.length = A.B.length
  part : ∀ i p, A.B[i]? = some p → (∃ v, sv[i]? = some v ∧ SureAt w role v p.1) ∧ LooseAt w role i ((mget m i).getD nilS) p.2 ∧ ((mget m i).isSome = true ↔ p.2 ≠ [])
  wf : Wf A

/-- The device at bd; F: what it lies in. -/
def DevAt (w : World) (bd : Nat) (A : Dev) (F : Nat → Prop) : Prop := ∃ role bs bm sv m o, DevR w bd A role bs bm sv m o ∧ ∀ x, role x ≠ 0 → F x

/-- What an operation on it may turn. -/
def Turn (F : Nat → Prop) (w w' : World) : Prop := ∃ S, (∀ x ∈ S, F x) ∧ Ext S w w'
def grow (F : Nat → Prop) (w w' : World) : Nat → Prop := fun x => F x ∨ (w.heap.size ≤ x ∧ x < w'.heap.size)

theorem Turn.size {F : Nat → Prop} {w w' : World} (h : Turn F w w') : w.heap.size ≤ w'.heap.size := let ⟨_, _, h⟩ := h; h.size
theorem Turn.of {F : Nat → Prop} {w w' : World} {S : List Nat} (h : Ext S w w') (hS : ∀ x ∈ S, F x) : Turn F w w' := ⟨S, hS, h⟩
theorem Turn.of0 {F : Nat → Prop} {w w' : World} (h : Ext [] w w') : Turn F w w' := ⟨[], by simp, h⟩
theorem Turn.trans {F G : Nat → Prop} {a b c : World} (h : Turn F a b) (k : Turn G b c) (hG : ∀ x, G x → F x ∨ a.heap.size ≤ x) : Turn F a c := by
  obtain ⟨S, hS, h⟩ := h
  obtain ⟨T, hT, k⟩ := k
  classical
  refine ⟨S ++ T.filter (fun x => decide (x < a.heap.size)), fun x hx => ?_, (h.mono (by intro x hx; simp [hx])).then k fun x hx => ?_⟩
  · rw [List.mem_append, List.mem_filter] at hx
    rcases hx with hx | ⟨hx, hlt⟩
    · exact hS x hx
    · rcases hG x (hT x hx) with h | h
      · exact h
      · rw [decide_eq_true_eq] at hlt; omega
  · by_cases hlt : x < a.heap.size
    · exact .inl (List.mem_append_right _ (List.mem_filter.2 ⟨hx, decide_eq_true hlt⟩))
    · exact .inr (by omega)

theorem BytesAt.keep {w w' : World} {role role' : Nat → Nat} {v : Value} {s : Byt} {S : List Nat} (h : BytesAt w role v s) (hx : Ext S w w') (hS : ∀ x ∈ S, role x ≠ 4) (hr : ∀ x, role x = 4 → role' x = 4) : BytesAt w' role' v s := by
  obtain ⟨a, c, rfl, R, hl, h4, hc⟩ := h
  exact ⟨a, c, rfl, R.ext hx fun h => hS _ h h4, hl, hr _ h4, hc⟩
theorem SureAt.keep {w w' : World} {role role' : Nat → Nat} {v : Value} {s : Byt} {S : List Nat} (h : SureAt w role v s) (hx : Ext S w w') (hS : ∀ x ∈ S, role x ≠ 4) (hr : ∀ x, role x = 4 → role' x = 4) : SureAt w' role' v s :=
  h.elim .inl fun h => .inr (h.keep hx hS hr)
theorem LooseAt.keep {w w' : World} {role role' : Nat → Nat} {k : Nat} {v : Value} {l : List Byt} {S : List Nat} (h : LooseAt w role k v l) (hx : Ext S w w') (hS : ∀ x ∈ S, role x ≠ 4 ∧ role x ≠ 5 + k) (hr : ∀ x, role x = 4 → role' x = 4) (hr5 : ∀ x, role x = 5 + k → role' x = 5 + k) : LooseAt w' role' k v l := by
  obtain ⟨a, n, c, full, vs, rfl, O, hb, h2, h3⟩ := h
  refine ⟨a, n, c, full, vs, rfl, O, fun x hx' => ?_, h2, fun i x y h4 h5 => (h3 i x y h4 h5).keep hx (fun x h => (hS x h).1) hr⟩
  obtain ⟨h6, h7⟩ := hb x hx'
  exact ⟨by rw [hx.block x.1 (heap_lt h6) fun h => (hS _ h).2 h7]; exact h6, hr5 _ h7⟩

/-- It stays where others turn what is theirs. -/
theorem DevAt.keep {w w' : World} {bd : Nat} {A : Dev} {F : Nat → Prop} (h : DevAt w bd A F) {S : List Nat} (hx : Ext S w w') (hS : ∀ x ∈ S, ¬ F x) : DevAt w' bd A F := by
  obtain ⟨role, bs, bm, sv, m, o, D, hF⟩ := h
  have hS' : ∀ x ∈ S, role x = 0 := fun x hx => Classical.byContradiction fun h => hS x hx (hF x h)
  have hb : ∀ {b : Nat} {o : Obj}, w.heap[b]? = some o → role b ≠ 0 → w'.heap[b]? = some o := fun {b o} h1 h2 => by
    rw [hx.block b (heap_lt h1) fun h => h2 (hS' b h)]; exact h1
  refine ⟨role, bs, bm, sv, m, o, ⟨fun x h => Nat.lt_of_lt_of_le (D.lt x h) hx.size, D.rd, D.rs, D.rm, hb D.hd (by rw [D.rd]; decide), hb D.hs (by rw [D.rs]; decide), hb D.hm (by rw [D.rm]; decide), D.hM, D.nd, D.keys, D.len, fun i p hp => ?_, D.wf⟩, hF⟩
  obtain ⟨⟨v, h1, h2⟩, h3, h4⟩ := D.part i p hp
  exact ⟨⟨v, h1, h2.keep hx (fun x h => by rw [hS' x h]; decide) fun _ h => h⟩, h3.keep hx (fun x h => by rw [hS' x h]; omega) (fun _ h => h) (fun _ h => h), h4⟩
theorem DevAt.keep0 {w w' : World} {bd : Nat} {A : Dev} {F : Nat → Prop} (h : DevAt w bd A F) (hx : Ext [] w w') : DevAt w' bd A F := h.keep hx (by simp)
theorem DevAt.mono {w : World} {bd : Nat} {A : Dev} {F G : Nat → Prop} (h : DevAt w bd A F) (hG : ∀ x, F x → G x) : DevAt w bd A G :=
  let ⟨role, bs, bm, sv, m, o, D, hF⟩ := h; ⟨role, bs, bm, sv, m, o, D, fun x hx => hG x (hF x hx)⟩
theorem DevAt.wf {w : World} {bd : Nat} {A : Dev} {F : Nat → Prop} (h : DevAt w bd A F) : Wf A := let ⟨_, _, _, _, _, _, D, _⟩ := h; D.wf

end Go.Proofs.YtkmbcpgnafmnpaaDoor

/- What a device's functions do; the plain ones. -/
namespace Go.Proofs.YtkmbcpgnafmnpaaDoor
open Go.GV
attribute [local irreducible] Wops W Wq Wt

@[simp] theorem DB_len (n bs bm : Nat) (left : Int) (on : Bool) : (DB n bs bm left on).length = 4 := rfl
def ptr (b : Nat) : Value := .pointer (some ⟨b, 0, none⟩)

theorem DevR.turn {w w' : World} {bd : Nat} {A A' : Dev} {role : Nat → Nat} {bs bm : Nat} {sv : List Value} {m : List (Int × Value)} {o : Obj} (D : DevR w bd A role bs bm sv m o) (hx : Ext [bd] w w')
    (hd : w'.heap[bd]? = some (Bl TD (DB A'.B.length bs bm A'.left A'.on))) (hB : A'.B = A.B) (wf : Wf A') : DevR w' bd A' role bs bm sv m o := by
  have hb : ∀ {b : Nat} {o : Obj}, w.heap[b]? = some o → role b ≠ 1 → w'.heap[b]? = some o := fun {b o} h1 h2 => by
    rw [hx.block b (heap_lt h1) fun h => h2 (by rw [List.mem_singleton.1 h]; exact D.rd)]; exact h1
  refine ⟨fun x h => Nat.lt_of_lt_of_le (D.lt x h) hx.size, D.rd, D.rs, D.rm, hd, hb D.hs (by rw [D.rs]; decide), hb D.hm (by rw [D.rm]; decide), D.hM, D.nd, fun k v h => by rw [hB]; exact D.keys k v h, by rw [hB]; exact D.len, fun i p hp => ?_, wf⟩
  rw [hB] at hp
  obtain ⟨⟨v, h1, h2⟩, h3, h4⟩ := D.part i p hp
  have hs : ∀ x ∈ [bd], role x = 1 := fun x h => by rw [List.mem_singleton.1 h]; exact D.rd
  exact ⟨⟨v, h1, h2.keep hx (fun x h => by rw [hs x h]; decide) fun _ h => h⟩, h3.keep hx (fun x h => by rw [hs x h]; omega) (fun _ h => h) (fun _ h => h), h4⟩

theorem don_ok {w : World} {bd n bs bm : Nat} {left : Int} {on : Bool} (h : w.heap[bd]? = some (Bl TD (DB n bs bm left on))) :
    Ret Tryd.prog 50 #[ptr bd] w fun v w' => v = .int .i64 (bif on then 0 else 8) ∧ w = w' := by
  obtain ⟨w0, rfl⟩ : ∃ w0, w0 = w := ⟨_, rfl⟩
  have H := Ctx.start1 h
  refine ret_of_W (fn := Tryd.f50) Tryd.func50 rfl [.pointer (some ⟨bd, 0, none⟩)] rfl (by kernel_rfl) ?_
  refine W_rseq ?_
  refine op_assign rfl (.int _ _) rfl ?_
  refine op_nil (at_then ?_)
  refine W_seq ?_
  refine W_block ?_
  refine W_rseq ?_
  refine op_move rfl (.pointer _) rfl ?_
  refine op_eqlptr rfl un_27 rfl ?_
  refine op_assign rfl (.bool _) rfl ?_
  refine op_nil (at_then ?_)
  refine W_cond0 rfl ?_
  refine W_rseq ?_
  refine op_move rfl (.pointer _) rfl ?_
  refine op_nilCheck rfl rfl ?_
  refine op_fieldAddr rfl fo_86_3 rfl ?_
  refine op_ldb rfl ag_4 rfl H (by first | exact at0 | exact at1 | exact at2 | exact at3 | exact at4 | exact at5 | exact at6 | exact at7 | exact at8 | exact at9) rfl ?_
  refine op_assign rfl (.bool _) rfl ?_
  refine op_nil (at_then ?_)
  refine W_cond _ rfl ?_ ?_
  · intro h1
    refine W_rseq ?_
    refine op_assign rfl (.int _ _) rfl ?_
    refine op_nil (at_then ?_)
    refine W_ret (ret_block (ret_then (leave1 (v := (.int _ _)) rfl rfl rfl ?_)))
    exact ⟨by cases on <;> simp_all, rfl⟩
  · intro h2
    refine W_skip (at_block (at_then ?_))
    refine W_rseq ?_
    refine op_assign rfl (.int _ _) rfl ?_
    refine op_nil (at_then ?_)
    refine W_ret (leave1 (v := (.int _ _)) rfl rfl rfl ?_)
    exact ⟨by cases on <;> simp_all, rfl⟩

theorem don_nil (w : World) : Ret Tryd.prog 50 #[.pointer none] w fun v w' => v = .int .i64 2 ∧ w = w' := by
  refine ret_of_W (fn := Tryd.f50) Tryd.func50 rfl [.pointer none] rfl (by kernel_rfl) ?_
  refine W_rseq ?_
  refine op_assign rfl (.int _ _) rfl ?_
  refine op_nil (at_then ?_)
  refine W_seq ?_
  refine W_block ?_
  refine W_rseq ?_
  refine op_move rfl (.pointer _) rfl ?_
  refine op_eqlptr rfl un_27 rfl ?_
  refine op_assign rfl (.bool _) rfl ?_
  refine op_nil (at_then ?_)
  refine W_cond1 rfl ?_
  refine W_rseq ?_
  refine op_assign rfl (.int _ _) rfl ?_
  refine op_nil (at_then ?_)
  refine W_ret (ret_block (ret_then (leave1 (v := (.int _ _)) rfl rfl rfl ?_)))
  exact ⟨rfl, rfl⟩

theorem dhas_ok {w : World} {bd n bs bm : Nat} {left : Int} {on : Bool} (k : Int) (h : w.heap[bd]? = some (Bl TD (DB n bs bm left on))) :
    Ret Tryd.prog 51 #[ptr bd, .int .i64 k] w fun v w' => v = .bool (decide (0 ≤ k) && decide (k < n)) ∧ w = w' := by
  obtain ⟨w0, rfl⟩ : ∃ w0, w0 = w := ⟨_, rfl⟩
  have H := Ctx.start1 h
  refine ret_of_W (fn := Tryd.f51) Tryd.func51 rfl [.pointer (some ⟨bd, 0, none⟩), .int .i64 k] rfl (by kernel_rfl) ?_
  refine W_rseq ?_
  refine op_assign rfl (.bool _) rfl ?_
  refine op_nil (at_then ?_)
  refine W_rseq ?_
  refine op_move rfl (.int _ _) rfl ?_
  refine op_geq rfl rfl rfl ?_
  refine op_move rfl (.bool _) rfl ?_
  refine Wops_split 7 rfl ?_ ?_
  · intro h1
    replace h1 := dec_t h1
    refine op_move rfl (.int _ _) rfl ?_
    refine op_move rfl (.pointer _) rfl ?_
    refine op_nilCheck rfl rfl ?_
    refine op_fieldAddr rfl fo_86_0 rfl ?_
    refine op_ldb rfl ag_58 rfl H (by first | exact at0 | exact at1 | exact at2 | exact at3 | exact at4 | exact at5 | exact at6 | exact at7 | exact at8 | exact at9) rfl ?_
    refine op_len rfl el_58 rfl ?_
    refine op_lss rfl rfl rfl ?_
    refine op_pick1 rfl rfl (.bool _) rfl ?_
    refine op_assign rfl (.bool _) rfl ?_
    refine op_nil (at_then ?_)
    refine W_ret (leave1 (v := (.bool _)) rfl rfl rfl ?_)
    exact ⟨congrArg Value.bool (by simp_all; try omega), rfl⟩
  · intro h2
    replace h2 := dec_f h2
    refine op_skip rfl ?_
    refine op_skip rfl ?_
    refine op_skip rfl ?_
    refine op_skip rfl ?_
    refine op_skip rfl ?_
    refine op_skip rfl ?_
    refine op_skip rfl ?_
    refine op_pick0 rfl rfl (.bool _) rfl ?_
    refine op_assign rfl (.bool _) rfl ?_
    refine op_nil (at_then ?_)
    refine W_ret (leave1 (v := (.bool _)) rfl rfl rfl ?_)
    exact ⟨congrArg Value.bool (by simp_all; try omega), rfl⟩

theorem dsize_ok {w : World} {bd n bs bm : Nat} {left : Int} {on : Bool} (h : w.heap[bd]? = some (Bl TD (DB n bs bm left on))) :
    Ret Tryd.prog 46 #[ptr bd] w fun v w' => v = .int .i64 n ∧ w = w' := by
  obtain ⟨w0, rfl⟩ : ∃ w0, w0 = w := ⟨_, rfl⟩
  have H := Ctx.start1 h
  refine ret_of_W (fn := Tryd.f46) Tryd.func46 rfl [.pointer (some ⟨bd, 0, none⟩)] rfl (by kernel_rfl) ?_
  refine W_rseq ?_
  refine op_assign rfl (.int _ _) rfl ?_
  refine op_nil (at_then ?_)
  refine W_seq ?_
  refine W_rseq ?_
  refine op_move rfl (.pointer _) rfl ?_
  refine op_eqlptr rfl un_27 rfl ?_
  refine op_nil (at_then ?_)
  refine W_cond0 rfl ?_
  refine W_skip (at_then ?_)
  refine W_rseq ?_
  refine op_move rfl (.pointer _) rfl ?_
  refine op_nilCheck rfl rfl ?_
  refine op_fieldAddr rfl fo_86_0 rfl ?_
  refine op_ldb rfl ag_58 rfl H (by first | exact at0 | exact at1 | exact at2 | exact at3 | exact at4 | exact at5 | exact at6 | exact at7 | exact at8 | exact at9) rfl ?_
  refine op_len rfl el_58 rfl ?_
  refine op_assign rfl (.int _ _) rfl ?_
  refine op_nil (at_then ?_)
  refine W_ret (leave1 (v := (.int _ _)) rfl rfl rfl ?_)
  exact ⟨rfl, rfl⟩
theorem dsize_nil (w : World) : Ret Tryd.prog 46 #[.pointer none] w fun v w' => v = .int .i64 0 ∧ w = w' := by
  refine ret_of_W (fn := Tryd.f46) Tryd.func46 rfl [.pointer none] rfl (by kernel_rfl) ?_
  refine W_rseq ?_
  refine op_assign rfl (.int _ _) rfl ?_
  refine op_nil (at_then ?_)
  refine W_seq ?_
  refine W_rseq ?_
  refine op_move rfl (.pointer _) rfl ?_
  refine op_eqlptr rfl un_27 rfl ?_
  refine op_nil (at_then ?_)
  refine W_cond1 rfl ?_
  refine W_rseq ?_
  refine op_assign rfl (.int _ _) rfl ?_
  refine op_nil (at_then ?_)
  refine W_ret (ret_then (leave1 (v := (.int _ _)) rfl rfl rfl ?_))
  exact ⟨rfl, rfl⟩

theorem dpower_ok {w : World} {bd n bs bm : Nat} {left : Int} {on : Bool} (h : w.heap[bd]? = some (Bl TD (DB n bs bm left on))) :
    Ret Tryd.prog 54 #[ptr bd] w fun v w' => v = .bool on ∧ w = w' := by
  obtain ⟨w0, rfl⟩ : ∃ w0, w0 = w := ⟨_, rfl⟩
  have H := Ctx.start1 h
  refine ret_of_W (fn := Tryd.f54) Tryd.func54 rfl [.pointer (some ⟨bd, 0, none⟩)] rfl (by kernel_rfl) ?_
  refine W_rseq ?_
  refine op_assign rfl (.bool _) rfl ?_
  refine op_nil (at_then ?_)
  refine W_rseq ?_
  refine op_move rfl (.pointer _) rfl ?_
  refine op_neqptr rfl un_27 rfl ?_
  refine op_move rfl (.bool _) rfl ?_
  refine op_move rfl (.pointer _) rfl ?_
  refine op_nilCheck rfl rfl ?_
  refine op_fieldAddr rfl fo_86_3 rfl ?_
  refine op_ldb rfl ag_4 rfl H (by first | exact at0 | exact at1 | exact at2 | exact at3 | exact at4 | exact at5 | exact at6 | exact at7 | exact at8 | exact at9) rfl ?_
  refine op_not rfl rfl ?_
  refine op_pick1 rfl rfl (.bool _) rfl ?_
  refine op_assign rfl (.bool _) rfl ?_
  refine op_nil (at_then ?_)
  refine W_ret (leave1 (v := (.bool _)) rfl rfl rfl ?_)
  exact ⟨congrArg Value.bool (Bool.not_not on), rfl⟩
theorem dpower_nil (w : World) : Ret Tryd.prog 54 #[.pointer none] w fun v w' => v = .bool false ∧ w = w' := by
  refine ret_of_W (fn := Tryd.f54) Tryd.func54 rfl [.pointer none] rfl (by kernel_rfl) ?_
  refine W_rseq ?_
  refine op_assign rfl (.bool _) rfl ?_
  refine op_nil (at_then ?_)
  refine W_rseq ?_
  refine op_move rfl (.pointer _) rfl ?_
  refine op_neqptr rfl un_27 rfl ?_
  refine op_move rfl (.bool _) rfl ?_
  refine op_skip rfl ?_
  refine op_skip rfl ?_
  refine op_skip rfl ?_
  refine op_skip rfl ?_
  refine op_skip rfl ?_
  refine op_pick0 rfl rfl (.bool _) rfl ?_
  refine op_assign rfl (.bool _) rfl ?_
  refine op_nil (at_then ?_)
  refine W_ret (leave1 (v := (.bool _)) rfl rfl rfl ?_)
  exact ⟨rfl, rfl⟩

theorem dcounts_ok {w : World} {bd : Nat} {A : Dev} {role : Nat → Nat} {bs bm : Nat} {sv : List Value} {m : List (Int × Value)} {o : Obj} (D : DevR w bd A role bs bm sv m o) :
    Ret Tryd.prog 52 #[ptr bd] w fun v w' => v = .int .i64 (bif A.goes then 8 else 0) ∧ DevR w' bd A.less role bs bm sv m o ∧ Ext [bd] w w' := by
  obtain ⟨w0, rfl⟩ : ∃ w0, w0 = w := ⟨_, rfl⟩
  have H := Ctx.start1 D.hd
  have h1 := D.wf.left; have h2 := D.wf.left2
  refine ret_of_W (fn := Tryd.f52) Tryd.func52 rfl [.pointer (some ⟨bd, 0, none⟩)] rfl (by kernel_rfl) ?_
  refine W_rseq ?_
  refine op_assign rfl (.int _ _) rfl ?_
  refine op_nil (at_then ?_)
  refine W_seq ?_
  refine W_rseq ?_
  refine op_move rfl (.pointer _) rfl ?_
  refine op_nilCheck rfl rfl ?_
  refine op_fieldAddr rfl fo_86_2 rfl ?_
  refine op_ldb rfl ag_3 rfl H (by first | exact at0 | exact at1 | exact at2 | exact at3 | exact at4 | exact at5 | exact at6 | exact at7 | exact at8 | exact at9) rfl ?_
  refine op_nil (at_then ?_)
  refine W_block ?_
  refine W_rseq ?_
  refine op_eql rfl rfl rfl ?_
  refine op_assign rfl (.bool _) rfl ?_
  refine op_nil (at_then ?_)
  refine W_cond _ rfl ?_ ?_
  · intro h3
    replace h3 := dec_t h3
    have hl : A.less = A := by unfold Dev.less; rw [if_neg (by omega), if_pos (by omega)]
    refine W_skip (at_block (at_then ?_))
    refine W_rseq ?_
    refine op_assign rfl (.int _ _) rfl ?_
    refine op_nil (at_then ?_)
    refine W_ret (leave1 (v := (.int _ _)) rfl rfl rfl ?_)
    exact ⟨by rw [Dev.goes, decide_eq_false (by omega)]; rfl, by rw [hl]; exact D, H.ext⟩
  · intro h3
    replace h3 := dec_f h3
    refine W_rseq ?_
    refine op_eql rfl rfl rfl ?_
    refine op_assign rfl (.bool _) rfl ?_
    refine op_nil (at_then ?_)
    refine W_cond _ rfl ?_ ?_
    · intro h4
      replace h4 := dec_t h4
      have hl : A.less = ⟨A.B, A.left, false⟩ := by unfold Dev.less; rw [if_pos (by omega)]
      refine W_rseq ?_
      refine op_move rfl (.pointer _) rfl ?_
      refine op_nilCheck rfl rfl ?_
      refine op_fieldAddr rfl fo_86_3 rfl ?_
      refine op_stb (.bool _) rfl sz_4 rfl rfl rfl H (by first | exact at0 | exact at1 | exact at2 | exact at3 | exact at4 | exact at5 | exact at6 | exact at7 | exact at8 | exact at9) (by first | decide | (simp; done) | (simp; omega)) ?_
      rintro w H
      refine op_nil (at_then ?_)
      refine W_rseq ?_
      refine op_assign rfl (.int _ _) rfl ?_
      refine op_nil (at_then ?_)
      refine W_ret (ret_block (ret_then (leave1 (v := (.int _ _)) rfl rfl rfl ?_)))
      exact ⟨by rw [Dev.goes, decide_eq_true (by omega)]; rfl, D.turn H.ext (by rw [hl]; exact H.get at0) (less_B A) (less_wf D.wf), H.ext⟩
    · intro h4
      replace h4 := dec_f h4
      have hl : A.less = ⟨A.B, A.left - 1, A.on⟩ := by unfold Dev.less; rw [if_neg (by omega), if_neg (by omega)]
      refine W_region ?_
      refine op_move rfl (.pointer _) rfl ?_
      refine op_nilCheck rfl rfl ?_
      refine op_fieldAddr rfl fo_86_2 rfl ?_
      refine op_ldb rfl ag_3 rfl H (by first | exact at0 | exact at1 | exact at2 | exact at3 | exact at4 | exact at5 | exact at6 | exact at7 | exact at8 | exact at9) rfl ?_
      refine op_sub_i64 rfl rfl rfl (by omega) (by omega) ?_
      refine op_nilCheck rfl rfl ?_
      refine op_fieldAddr rfl fo_86_2 rfl ?_
      refine op_stb (.int _ _) rfl sz_3 rfl rfl rfl H (by first | exact at0 | exact at1 | exact at2 | exact at3 | exact at4 | exact at5 | exact at6 | exact at7 | exact at8 | exact at9) (by first | decide | (simp; done) | (simp; omega)) ?_
      rintro w H
      refine op_nil (at_block (at_then ?_))
      refine W_rseq ?_
      refine op_assign rfl (.int _ _) rfl ?_
      refine op_nil (at_then ?_)
      refine W_ret (leave1 (v := (.int _ _)) rfl rfl rfl ?_)
      exact ⟨by rw [Dev.goes, decide_eq_false (by omega)]; rfl, D.turn H.ext (by rw [hl]; exact H.get at0) (less_B A) (less_wf D.wf), H.ext⟩

theorem darm_ok {w : World} {bd : Nat} {A : Dev} {F : Nat → Prop} (n : Int) (hn : n ≤ 9223372036854775807) (DA : DevAt w bd A F) :
    Ret Tryd.prog 20 #[ptr bd, .int .i64 n] w fun v w' => v = .int .i64 (armE A) ∧ DevAt w' bd (armD A n) F ∧ Turn F w w' := by
  obtain ⟨w0, rfl⟩ : ∃ w0, w0 = w := ⟨_, rfl⟩
  obtain ⟨role, bs, bm, sv, m, o, D, hF⟩ := DA
  have hFd : ∀ x ∈ [bd], F x := fun x h => hF x (by rw [List.mem_singleton.1 h, D.rd]; decide)
  have H := Ctx.start1 D.hd
  refine ret_of_W (fn := Tryd.f20) Tryd.func20 rfl [.pointer (some ⟨bd, 0, none⟩), .int .i64 n] rfl (by kernel_rfl) ?_
  refine W_rseq ?_
  refine op_assign rfl (.int _ _) rfl ?_
  refine op_nil (at_then ?_)
  refine W_rseq ?_
  refine op_move rfl (.pointer _) rfl ?_
  refine op_call rfl ca_50 (don_ok (H.get at0)) rfl ?_
  rintro v w ⟨rfl, rfl⟩
  refine op_assign rfl (.int _ _) rfl ?_
  refine op_nil (at_then ?_)
  refine W_seq ?_
  refine W_rseq ?_
  refine op_move rfl (.int _ _) rfl ?_
  refine op_eql rfl rfl rfl ?_
  refine op_nil (at_then ?_)
  refine W_cond _ rfl ?_ ?_
  · intro h1
    replace h1 := dec_t h1
    have ho : A.on = true := by cases h : A.on <;> simp_all
    refine W_region ?_
    refine op_move rfl (.pointer _) rfl ?_
    refine op_move rfl (.int _ _) rfl ?_
    refine op_max2 rfl rfl rfl ?_
    refine op_nilCheck rfl rfl ?_
    refine op_fieldAddr rfl fo_86_2 rfl ?_
    refine op_stb (.int _ _) rfl sz_3 rfl rfl rfl H (by first | exact at0 | exact at1 | exact at2 | exact at3 | exact at4 | exact at5 | exact at6 | exact at7 | exact at8 | exact at9) (by first | decide | (simp; done) | (simp; omega)) ?_
    rintro w H
    refine op_nil (at_then ?_)
    refine W_rseq ?_
    refine op_move rfl (.int _ _) rfl ?_
    refine op_assign rfl (.int _ _) rfl ?_
    refine op_nil (at_then ?_)
    refine W_ret (leave1 (v := (.int _ _)) rfl rfl rfl ?_)
    refine ⟨by rw [armE, ho], ⟨role, bs, bm, sv, m, o, D.turn H.ext ?_ (by rw [armD, ho]; rfl) (arm_wf D.wf n hn), hF⟩, .of H.ext hFd⟩
    rw [armD, ho]
    have h2 := H.get at0
    rw [ho] at h2
    exact h2
  · intro h1
    replace h1 := dec_f h1
    have ho : A.on = false := by cases h : A.on <;> simp_all
    refine W_skip (at_then ?_)
    refine W_rseq ?_
    refine op_move rfl (.int _ _) rfl ?_
    refine op_assign rfl (.int _ _) rfl ?_
    refine op_nil (at_then ?_)
    refine W_ret (leave1 (v := (.int _ _)) rfl rfl rfl ?_)
    exact ⟨by rw [armE, ho], ⟨role, bs, bm, sv, m, o, by rw [armD, ho]; exact D, hF⟩, .of H.ext hFd⟩

theorem doff_ok {w : World} {bd : Nat} {A : Dev} {F : Nat → Prop} (DA : DevAt w bd A F) :
    Ret Tryd.prog 22 #[ptr bd] w fun v w' => v = .int .i64 (armE A) ∧ DevAt w' bd (offD A) F ∧ Turn F w w' := by
  obtain ⟨w0, rfl⟩ : ∃ w0, w0 = w := ⟨_, rfl⟩
  obtain ⟨role, bs, bm, sv, m, o, D, hF⟩ := DA
  have hFd : ∀ x ∈ [bd], F x := fun x h => hF x (by rw [List.mem_singleton.1 h, D.rd]; decide)
  have H := Ctx.start1 D.hd
  refine ret_of_W (fn := Tryd.f22) Tryd.func22 rfl [.pointer (some ⟨bd, 0, none⟩)] rfl (by kernel_rfl) ?_
  refine W_rseq ?_
  refine op_assign rfl (.int _ _) rfl ?_
  refine op_nil (at_then ?_)
  refine W_rseq ?_
  refine op_move rfl (.pointer _) rfl ?_
  refine op_call rfl ca_50 (don_ok (H.get at0)) rfl ?_
  rintro v w ⟨rfl, rfl⟩
  refine op_assign rfl (.int _ _) rfl ?_
  refine op_nil (at_then ?_)
  refine W_seq ?_
  refine W_rseq ?_
  refine op_move rfl (.int _ _) rfl ?_
  refine op_eql rfl rfl rfl ?_
  refine op_nil (at_then ?_)
  refine W_cond _ rfl ?_ ?_
  · intro h1
    replace h1 := dec_t h1
    have ho : A.on = true := by cases h : A.on <;> simp_all
    refine W_region ?_
    refine op_move rfl (.pointer _) rfl ?_
    refine op_nilCheck rfl rfl ?_
    refine op_fieldAddr rfl fo_86_3 rfl ?_
    refine op_stb (.bool _) rfl sz_4 rfl rfl rfl H (by first | exact at0 | exact at1 | exact at2 | exact at3 | exact at4 | exact at5 | exact at6 | exact at7 | exact at8 | exact at9) (by first | decide | (simp; done) | (simp; omega)) ?_
    rintro w H
    refine op_nil (at_then ?_)
    refine W_rseq ?_
    refine op_move rfl (.int _ _) rfl ?_
    refine op_assign rfl (.int _ _) rfl ?_
    refine op_nil (at_then ?_)
    refine W_ret (leave1 (v := (.int _ _)) rfl rfl rfl ?_)
    exact ⟨by rw [armE, ho], ⟨role, bs, bm, sv, m, o, D.turn H.ext (H.get at0) rfl (off_wf D.wf), hF⟩, .of H.ext hFd⟩
  · intro h1
    replace h1 := dec_f h1
    have ho : A.on = false := by cases h : A.on <;> simp_all
    refine W_skip (at_then ?_)
    refine W_rseq ?_
    refine op_move rfl (.int _ _) rfl ?_
    refine op_assign rfl (.int _ _) rfl ?_
    refine op_nil (at_then ?_)
    refine W_ret (leave1 (v := (.int _ _)) rfl rfl rfl ?_)
    have he : offD A = A := by rw [offD, ← ho]
    exact ⟨by rw [armE, ho], ⟨role, bs, bm, sv, m, o, by rw [he]; exact D, hF⟩, .of H.ext hFd⟩

theorem dnew_ok (n : Int) (w : World) :
    Ret Tryd.prog 12 #[.int .i64 n] w fun v w' => Ext [] w w' ∧ ((newE n = 1 ∧ v = .tuple #[.pointer none, .int .i64 1]) ∨
      (newE n = 0 ∧ 1 ≤ n ∧ n ≤ 4096 ∧ ∃ bd, v = .tuple #[ptr bd, .int .i64 0] ∧ DevAt w' bd (newD n.toNat) fun x => w.heap.size ≤ x ∧ x < w'.heap.size)) := by
  obtain ⟨w0, rfl⟩ : ∃ w0, w0 = w := ⟨_, rfl⟩
  have H := Ctx.start w0 []
  refine ret_of_W (fn := Tryd.f12) Tryd.func12 rfl [.int .i64 n] rfl (by kernel_rfl) ?_
  refine W_rseq ?_
  refine op_assign rfl (.pointer _) rfl ?_
  refine op_assign rfl (.int _ _) rfl ?_
  refine op_nil (at_then ?_)
  refine W_seq ?_
  refine W_rseq (Wops_join (α := Unit) 1008 (fun _ => [(9, .bool (decide (n < 1) || decide (4096 < n)))]) (fun _ w' => Ctx w0 [] w' []) rfl ?_ ?_)
  · refine op_move rfl (.int _ _) rfl ?_
    refine op_lss rfl rfl rfl ?_
    refine op_move rfl (.bool _) rfl ?_
    refine Wops_split 6 rfl ?_ ?_
    · intro h1
      replace h1 := dec_t h1
      refine op_skip rfl ?_
      refine op_skip rfl ?_
      refine op_pick1 rfl rfl (.bool _) rfl ?_
      refine op_nil ?_
      exact ⟨rfl, (), rfl, ⟨congrArg Value.bool (by rw [Bool.eq_iff_iff]; simp_all; try omega), trivial⟩, H⟩
    · intro h2
      replace h2 := dec_f h2
      refine op_move rfl (.int _ _) rfl ?_
      refine op_gtr rfl rfl rfl ?_
      refine op_pick0 rfl rfl (.bool _) rfl ?_
      refine op_nil ?_
      exact ⟨rfl, (), rfl, ⟨congrArg Value.bool (by rw [Bool.eq_iff_iff]; simp_all; try omega), trivial⟩, H⟩
  rintro - j9 w H
  refine W_cond _ rfl ?_ ?_
  · intro h1
    refine W_rseq ?_
    refine op_assign rfl (.pointer _) rfl ?_
    refine op_assign rfl (.int _ _) rfl ?_
    refine op_nil (at_then ?_)
    refine W_ret (ret_then (leave2 (v1 := (.pointer _)) (v2 := (.int _ _)) rfl rfl rfl rfl ?_))
    exact ⟨H.ext, .inl ⟨by rw [newE, h1]; rfl, rfl⟩⟩
  · intro h1
    have h2 : 1 ≤ n ∧ n ≤ 4096 := by simp only [Bool.or_eq_false_iff, decide_eq_false_iff_not] at h1; omega
    refine W_skip (at_then ?_)
    refine W_rseq ?_
    refine op_move rfl (.int _ _) rfl ?_
    refine op_make rfl el_58 sz_23 by_23 zc_23 rfl rfl (by omega) (by omega) (by omega) (by omega) H ?_
    rintro b11 w - H
    refine op_makeMap .i64 rfl H ?_
    rintro b12 o12 w hM H
    refine op_buildS [.slice (some ⟨b11, 0, none⟩) n.toNat n.toNat, .map (some b12), .int .i64 (-1), .bool false] rfl pl_86 zc_86 (by kernel_rfl) ?_
    refine op_box rfl _ (.agg _) rfl rfl H ?_
    rintro b14 w - H
    refine op_assign rfl (.pointer _) rfl ?_
    refine op_assign rfl (.int _ _) rfl ?_
    refine op_nil (at_then ?_)
    refine W_ret (leave2 (v1 := (.pointer _)) (v2 := (.int _ _)) rfl rfl rfl rfl ?_)
    have e1 : b14 ≠ b12 := H.ne at0 at1 (by decide)
    have e2 : b14 ≠ b11 := H.ne at0 at2 (by decide)
    have e3 : b12 ≠ b11 := H.ne at1 at2 (by decide)
    have own : ∀ {k b : Nat} {o : Obj}, [(b14, _), (b12, o12), (b11, _)][k]? = some (b, o) → w0.heap.size ≤ b ∧ b < w.heap.size := fun {k b o} hk => ⟨(H.own _ (List.mem_of_getElem? hk)).elim (fun h => by cases h) id, heap_lt (H.get hk)⟩
    have hr : ∀ x, (if x = b14 then 1 else if x = b11 then 2 else if x = b12 then 3 else 0) ≠ 0 → w0.heap.size ≤ x ∧ x < w.heap.size := by
      intro x hx
      by_cases h14 : x = b14
      · rw [h14]; exact own at0
      · by_cases h11 : x = b11
        · rw [h11]; exact own at2
        · by_cases h12 : x = b12
          · rw [h12]; exact own at1
          · rw [if_neg h14, if_neg h11, if_neg h12] at hx; exact absurd rfl hx
    have hln : (newD n.toNat).B.length = n.toNat := List.length_replicate
    refine ⟨H.ext, .inr ⟨by rw [newE, h1]; rfl, h2.1, h2.2, b14, rfl, fun x => if x = b14 then 1 else if x = b11 then 2 else if x = b12 then 3 else 0, b11, b12, List.replicate n.toNat nilS, [], o12, ⟨fun x h => (hr x h).2, if_pos rfl, ?_, ?_, ?_, H.get at2, H.get at1, hM, List.nodup_nil, fun k v h => (by cases h), by rw [hln]; exact List.length_replicate, fun i p hp => ?_, new_wf (by omega) (by omega)⟩, hr⟩⟩
    · rw [if_neg (Ne.symm e2), if_pos rfl]
    · rw [if_neg (Ne.symm e1), if_neg e3, if_pos rfl]
    · rw [hln]; exact H.get at0
    · obtain ⟨hi, rfl⟩ := List.getElem?_eq_some_iff.1 hp
      have hi' : i < n.toNat := by rw [hln] at hi; exact hi
      have hpe : (newD n.toNat).B[i] = (zeros, []) := List.getElem_replicate _
      rw [hpe]
      refine ⟨⟨nilS, by rw [List.getElem?_replicate, if_pos hi'], .inl ⟨rfl, rfl⟩⟩, ⟨none, 0, 0, [], [], rfl, OS.nil, by simp [ent], rfl, fun j x y h => by cases h⟩, by simp [mget_nil]⟩

end Go.Proofs.YtkmbcpgnafmnpaaDoor

/- Reads and writes of a device. -/
namespace Go.Proofs.YtkmbcpgnafmnpaaDoor
open Go.GV
attribute [local irreducible] Wops W Wq Wt

theorem Ctx.startL {w : World} {L : List (Nat × Obj)} (h : ∀ x ∈ L, w.heap[x.1]? = some x.2) (nd : L.Pairwise fun x y => x.1 ≠ y.1) : Ctx w (L.map (·.1)) w L :=
  ⟨.refl _ _, h, nd, fun x hx => .inl (List.mem_map.2 ⟨x, hx, rfl⟩)⟩
theorem pad_zeros (s : Byt) (h : s.length = 512) : over (List.replicate 512 (Value.int .u8 0)) 0 ((s.map bv).take 512) = s.map bv := by
  have h1 := over_mid [] (List.replicate 512 (Value.int .u8 0)) [] (s.map bv) (by rw [List.length_replicate, List.length_map, h])
  simp only [List.nil_append, List.append_nil, List.length_nil] at h1
  rw [List.take_of_length_le (by rw [List.length_map, h]; exact Nat.le_refl _)]
  exact h1
theorem pad_nil : over (List.replicate 512 (Value.int .u8 0)) 0 (([] : Byt).map bv |>.take 512) = zeros.map bv := by
  rw [zeros, List.map_replicate]
  rfl
theorem pad_ts {ts s : Byt} (h : ts = s ∨ ts = [] ∧ s = zeros) (hl : s.length = 512) : over (List.replicate 512 (Value.int .u8 0)) 0 ((ts.map bv).take 512) = s.map bv := by
  rcases h with rfl | ⟨rfl, rfl⟩
  · exact pad_zeros _ hl
  · exact pad_nil
theorem Ctx.fresh_bl {w0 w : World} {b t n : Nat} {l : List Value} (H : Ctx w0 [] w [(b, Bl t l)]) (hl : l.length = n) : Fresh w0 w t 1 (.slice (some ⟨b, 0, none⟩) n n) l :=
  Ctx.fresh (L := []) H ⟨fun p hp => (by cases hp; rfl), fun h => (by cases h), by rw [hl, Nat.mul_one], Nat.le_refl _, by rw [Nat.mul_one, ← hl]; exact List.take_length⟩
theorem has_num {A : Dev} {k : Int} (h : A.has k = true) : ∃ q : Nat, k = q ∧ q < A.B.length := by
  simp only [Dev.has, Bool.and_eq_true, decide_eq_true_eq] at h
  exact ⟨k.toNat, by omega, by omega⟩
/-- What lies in a block, all that is known of it. -/
theorem slot_bytes {w : World} {role : Nat → Nat} {v : Value} {s : Byt} (h : SureAt w role v s) : ∃ a c t, v = .slice a (List.length t) c ∧ Rd w a 1 B8 t ∧ (t = s ∨ t = [] ∧ s = zeros) := by
  rcases h with ⟨rfl, rfl⟩ | ⟨a, c, rfl, R, hl, _, _⟩
  · exact ⟨none, 0, [], rfl, Rd.nil, .inr ⟨rfl, rfl⟩⟩
  · exact ⟨a, c, s, by rw [hl], R, .inl rfl⟩

set_option maxHeartbeats 1000000 in
theorem dread_ok {w : World} {bd : Nat} {A : Dev} {F : Nat → Prop} (k : Int) {mx : Nat} (hfew : Few A mx) (hmx : mx ≤ 1000000000000) (DA : DevAt w bd A F) :
    Ret Tryd.prog 14 #[ptr bd, .int .i64 k] w fun v w' => ∃ s, v = .tuple #[s, .int .i64 (readE A k)] ∧ Fresh w w' 5 1 s ((readB A k).map bv) := by
  obtain ⟨w0, rfl⟩ : ∃ w0, w0 = w := ⟨_, rfl⟩
  obtain ⟨role, bs, bm, sv, m, o, D, hF⟩ := DA
  have H := Ctx.start w0 []
  refine ret_of_W (fn := Tryd.f14) Tryd.func14 rfl [.pointer (some ⟨bd, 0, none⟩), .int .i64 k] rfl (by kernel_rfl) ?_
  refine W_rseq ?_
  refine op_assign rfl (.slice _ _ _) rfl ?_
  refine op_assign rfl (.int _ _) rfl ?_
  refine op_nil (at_then ?_)
  refine W_seq ?_
  refine W_rseq ?_
  refine op_move rfl (.pointer _) rfl ?_
  refine op_call rfl ca_50 (don_ok (Ctx.oldb H D.hd)) rfl ?_
  rintro v w ⟨rfl, rfl⟩
  refine op_assign rfl (.int _ _) rfl ?_
  refine op_nil (at_then ?_)
  refine W_rseq ?_
  refine op_move rfl (.int _ _) rfl ?_
  refine op_neq rfl rfl rfl ?_
  refine op_nil (at_then ?_)
  refine W_cond _ rfl ?_ ?_
  · intro h1
    replace h1 := ndec_t h1
    have ho : A.on = false := by cases h : A.on <;> simp_all
    have he : readE A k = 8 := by rw [readE, ho]; rfl
    refine W_rseq ?_
    refine op_move rfl (.int _ _) rfl ?_
    refine op_assign rfl (.slice _ _ _) rfl ?_
    refine op_assign rfl (.int _ _) rfl ?_
    refine op_nil (at_then ?_)
    refine W_ret (ret_then (leave2 (v1 := (.slice _ _ _)) (v2 := (.int _ _)) rfl rfl rfl rfl ?_))
    refine ⟨_, by rw [he, ho]; rfl, ?_⟩
    rw [readB, he]
    exact Fresh.nil H _ _
  · intro h1
    replace h1 := ndec_f h1
    have ho : A.on = true := by cases h : A.on <;> simp_all
    refine W_skip (at_then ?_)
    refine W_seq ?_
    refine W_rseq ?_
    refine op_move rfl (.pointer _) rfl ?_
    refine op_move rfl (.int _ _) rfl ?_
    refine op_call rfl ca_51 (dhas_ok k (Ctx.oldb H D.hd)) rfl ?_
    rintro v w ⟨rfl, rfl⟩
    rw [show (decide (0 ≤ k) && decide (k < (A.B.length : Int))) = A.has k from rfl]
    refine op_not rfl rfl ?_
    refine op_nil (at_then ?_)
    refine W_cond _ rfl ?_ ?_
    · intro h2
      replace h2 := nvar_t h2
      have he : readE A k = 1 := by rw [readE, ho, h2]; rfl
      refine W_rseq ?_
      refine op_assign rfl (.slice _ _ _) rfl ?_
      refine op_assign rfl (.int _ _) rfl ?_
      refine op_nil (at_then ?_)
      refine W_ret (ret_then (leave2 (v1 := (.slice _ _ _)) (v2 := (.int _ _)) rfl rfl rfl rfl ?_))
      refine ⟨_, by rw [he], ?_⟩
      rw [readB, he]
      exact Fresh.nil H _ _
    · intro h2
      replace h2 := nvar_f h2
      have he : readE A k = 0 := by rw [readE, ho, h2]; rfl
      obtain ⟨q, rfl, hq⟩ := has_num h2
      obtain ⟨p, hp⟩ : ∃ p, A.B[q]? = some p := ⟨_, List.getElem?_eq_getElem hq⟩
      have hpm := List.mem_of_getElem? hp
      have hbe : readB A q = stands p := by
        rw [readB, he, show ((q : Int)).toNat = q from rfl, List.getD_eq_getElem?_getD, hp]; rfl
      have hst := stands_len D.wf hpm
      obtain ⟨⟨v0, hv0, hsure⟩, ⟨al, nl, cl, fl, vs, hvl, O, hent, hvs⟩, _⟩ := D.part q p hp
      have Rs := rdV_bl D.hs
      have Rl := OS.rdV O fun x hx => (hent x hx).1
      have hnl : nl = vs.length := by have := O.llen; omega
      have hll := hfew p hpm
      have hvn := hvs.1
      obtain ⟨a0, c0, ts, rfl, R0, hts⟩ := slot_bytes hsure
      refine W_skip (at_then ?_)
      refine W_rseq ?_
      refine op_move rfl (.pointer _) rfl ?_
      refine op_nilCheck rfl rfl ?_
      refine op_fieldAddr rfl fo_86_0 rfl ?_
      first | refine op_ldb rfl ag_58 rfl H (by first | exact at0 | exact at1 | exact at2 | exact at3 | exact at4 | exact at5 | exact at6 | exact at7 | exact at8 | exact at9) rfl ?_ | refine op_ld rfl ag_58 rfl (H.old0 (cell_bl D.hd _)) ?_ | refine op_ld rfl ag_58 rfl ((Rs.ext0 H.ext).one (f := fun v => v) hv0) ?_
      refine op_move rfl (.int _ _) rfl ?_
      first | refine op_indexRd Rs rfl el_58 sz_23 rfl rfl (by omega) (by omega) (by first | rfl | omega) ?_ | refine op_indexAddr rfl el_58 sz_23 rfl rfl (by omega) (by omega) ?_
      first | refine op_ldb rfl ag_23 rfl H (by first | exact at0 | exact at1 | exact at2 | exact at3 | exact at4 | exact at5 | exact at6 | exact at7 | exact at8 | exact at9) rfl ?_ | refine op_ld rfl ag_23 rfl (H.old0 (cell_bl D.hd _)) ?_ | refine op_ld rfl ag_23 rfl ((Rs.ext0 H.ext).one (f := fun v => v) hv0) ?_
      refine op_assign rfl (.slice _ _ _) rfl ?_
      refine op_nil (at_then ?_)
      refine W_seq ?_
      refine W_rseq ?_
      refine op_move rfl (.pointer _) rfl ?_
      refine op_nilCheck rfl rfl ?_
      refine op_fieldAddr rfl fo_86_1 rfl ?_
      first | refine op_ldb rfl ag_84 rfl H (by first | exact at0 | exact at1 | exact at2 | exact at3 | exact at4 | exact at5 | exact at6 | exact at7 | exact at8 | exact at9) rfl ?_ | refine op_ld rfl ag_84 rfl (H.old0 (cell_bl D.hd _)) ?_ | refine op_ld rfl ag_84 rfl ((Rs.ext0 H.ext).one (f := fun v => v) hv0) ?_
      refine op_move rfl (.int _ _) rfl ?_
      refine op_lookupH rfl mt_84 un_3 zv_58 rfl rfl (Ctx.oldb H D.hm) D.hM ?_
      rw [show ((mget m (q : Int)).getD (.slice none 0 0)) = .slice al nl cl from hvl]
      refine op_assign rfl (.slice _ _ _) rfl ?_
      refine op_nil (at_then ?_)
      refine W_rseq ?_
      refine op_move rfl (.slice _ _ _) rfl ?_
      refine op_len rfl el_58 rfl ?_
      refine op_gtr rfl rfl rfl ?_
      refine op_nil (at_then ?_)
      refine W_cond _ rfl ?_ ?_
      · intro h3
        replace h3 := dec_t h3
        obtain ⟨b, hb⟩ : ∃ b, p.2[nl - 1]? = some b := ⟨_, List.getElem?_eq_getElem (by omega)⟩
        obtain ⟨vb, hvb⟩ : ∃ v, vs[nl - 1]? = some v := ⟨_, List.getElem?_eq_getElem (by omega)⟩
        obtain ⟨ab, cb, rfl, Rb, hbl, _, _⟩ := hvs.2 _ _ _ hvb hb
        have hstb : stands p = b := by
          rw [stands, List.getLast?_eq_getElem?, show p.2.length - 1 = nl - 1 by omega, hb]; rfl
        refine W_region ?_
        refine op_move rfl (.slice _ _ _) rfl ?_
        refine op_move rfl (.slice _ _ _) rfl ?_
        refine op_len rfl el_58 rfl ?_
        refine op_sub_i64 rfl rfl rfl (by omega) (by omega) ?_
        rw [show ((nl : Int) - 1) = ((nl - 1 : Nat) : Int) by omega]
        first | refine op_indexRd Rs rfl el_58 sz_23 rfl rfl (by omega) (by omega) (by first | rfl | omega) ?_ | refine op_indexRd Rl rfl el_58 sz_23 rfl rfl (by omega) (by omega) (by first | rfl | omega) ?_ | refine op_indexAddr rfl el_58 sz_23 rfl rfl (by omega) (by omega) ?_
        first | refine op_ldb rfl ag_23 rfl H (by first | exact at0 | exact at1 | exact at2 | exact at3 | exact at4 | exact at5 | exact at6 | exact at7 | exact at8 | exact at9) rfl ?_ | refine op_ld rfl ag_23 rfl (H.old0 (cell_bl D.hd _)) ?_ | refine op_ld rfl ag_23 rfl ((Rs.ext0 H.ext).one (f := fun v => v) hv0) ?_ | refine op_ld rfl ag_23 rfl ((Rl.ext0 H.ext).one (f := fun v => v) hvb) ?_
        refine op_assign rfl (.slice _ _ _) rfl ?_
        refine op_nil (at_then ?_)
        refine W_rseq ?_
        refine op_make rfl el_23 sz_5 by_5 zc_5 rfl rfl (by omega) (by omega) (by omega) (by omega) H ?_
        rintro b41 w - H
        refine op_assign rfl (.slice _ _ _) rfl ?_
        refine op_nil (at_then ?_)
        refine W_rseq ?_
        refine op_move rfl (.slice _ _ _) rfl ?_
        refine op_move rfl (.slice _ _ _) rfl ?_
        refine op_copy (b.map bv) rfl el_23 sz_5 rfl rfl (by simp [hbl]) (bv_one _) (Rd.appB (Rb.ext0 H.ext)) (show Ctx w0 [] w [(b41, Bl 5 (List.replicate 512 (Value.int .u8 0)))] from H) at0 (by rw [List.length_replicate]; exact Nat.le_refl _) ?_
        rintro w H
        replace H : Ctx w0 [] w [(b41, Bl 5 (over (List.replicate 512 (Value.int .u8 0)) 0 ((b.map bv).take 512)))] := H
        rw [pad_zeros b hbl] at H
        refine op_nil (at_then ?_)
        refine W_rseq ?_
        refine op_move rfl (.slice _ _ _) rfl ?_
        refine op_assign rfl (.slice _ _ _) rfl ?_
        refine op_assign rfl (.int _ _) rfl ?_
        refine op_nil (at_then ?_)
        refine W_ret (leave2 (v1 := (.slice _ _ _)) (v2 := (.int _ _)) rfl rfl rfl rfl ?_)
        refine ⟨_, by rw [he], ?_⟩
        rw [hbe, hstb]
        exact Ctx.fresh_bl H (by rw [List.length_map, hbl]; rfl)
      · intro h3
        replace h3 := dec_f h3
        have hstb : stands p = p.1 := by
          have : p.2 = [] := List.eq_nil_of_length_eq_zero (by omega)
          rw [stands, this]; rfl
        refine W_skip (at_then ?_)
        refine W_rseq ?_
        refine op_make rfl el_23 sz_5 by_5 zc_5 rfl rfl (by omega) (by omega) (by omega) (by omega) H ?_
        rintro b41 w - H
        refine op_assign rfl (.slice _ _ _) rfl ?_
        refine op_nil (at_then ?_)
        refine W_rseq ?_
        refine op_move rfl (.slice _ _ _) rfl ?_
        refine op_move rfl (.slice _ _ _) rfl ?_
        refine op_copy (ts.map bv) rfl el_23 sz_5 rfl rfl (by simp) (bv_one _) (Rd.appB (R0.ext0 H.ext)) (show Ctx w0 [] w [(b41, Bl 5 (List.replicate 512 (Value.int .u8 0)))] from H) at0 (by rw [List.length_replicate]; exact Nat.le_refl _) ?_
        rintro w H
        replace H : Ctx w0 [] w [(b41, Bl 5 (over (List.replicate 512 (Value.int .u8 0)) 0 ((ts.map bv).take 512)))] := H
        rw [pad_ts hts (by rw [← hstb]; exact hst)] at H
        refine op_nil (at_then ?_)
        refine W_rseq ?_
        refine op_move rfl (.slice _ _ _) rfl ?_
        refine op_assign rfl (.slice _ _ _) rfl ?_
        refine op_assign rfl (.int _ _) rfl ?_
        refine op_nil (at_then ?_)
        refine W_ret (leave2 (v1 := (.slice _ _ _)) (v2 := (.int _ _)) rfl rfl rfl rfl ?_)
        refine ⟨_, by rw [he], ?_⟩
        rw [hbe, hstb]
        exact Ctx.fresh_bl H (by rw [List.length_map, ← hstb, hst]; rfl)

theorem All2.snoc {α β : Type} {R : α → β → Prop} {xs : List α} {ys : List β} {x : α} {y : β} (h : All2 R xs ys) (hxy : R x y) : All2 R (xs ++ [x]) (ys ++ [y]) := by
  refine ⟨by rw [List.length_append, List.length_append, h.1]; rfl, fun i a b ha hb => ?_⟩
  by_cases hi : i < xs.length
  · rw [List.getElem?_append_left hi] at ha
    rw [List.getElem?_append_left (by rw [← h.1]; exact hi)] at hb
    exact h.2 i a b ha hb
  · have h2 := get_lt ha
    rw [List.length_append, List.length_singleton] at h2
    have hi' : i = xs.length := by omega
    subst hi'
    rw [List.getElem?_append_right (Nat.le_refl _), Nat.sub_self] at ha
    rw [List.getElem?_append_right (by rw [h.1]; exact Nat.le_refl _), h.1, Nat.sub_self] at hb
    cases ha; cases hb
    exact hxy
theorem All2.imp {α β : Type} {R R' : α → β → Prop} {xs : List α} {ys : List β} (h : All2 R xs ys) (hi : ∀ x y, R x y → R' x y) : All2 R' xs ys := ⟨h.1, fun i x y hx hy => hi x y (h.2 i x y hx hy)⟩
theorem mset_nodup {α : Type} {m : List (Int × α)} {k : Int} {v : α} (h : (m.map (·.1)).Nodup) : ((mset m k v).map (·.1)).Nodup := by
  induction m with
  | nil => simp [mset]
  | cons p m ih =>
    unfold mset
    rw [List.map_cons, List.nodup_cons] at h
    by_cases hp : p.1 = k
    · rw [if_pos hp, List.map_cons, List.nodup_cons]
      exact ⟨by rw [← hp]; exact h.1, h.2⟩
    · rw [if_neg hp, List.map_cons, List.nodup_cons]
      refine ⟨fun hm => ?_, ih h.2⟩
      rcases (mset_keys m k v p.1).1 hm with h1 | h1
      · exact hp h1
      · exact h.1 h1

/-- What is written is one more that is loose. -/
theorem DevR.write {wS w15 : World} {bd : Nat} {A : Dev} {role : Nat → Nat} {bs bm : Nat} {sv : List Value} {m : List (Int × Value)} {o o' : Obj} (D : DevR wS bd A role bs bm sv m o) {k : Nat} (hk : k < A.B.length) {arrs : List Nat}
    (ha : ∀ x ∈ arrs, role x = 5 + k) (hx : Ext (bm :: arrs) wS w15) (hm15 : w15.heap[bm]? = some o') {b9 n9 c9 : Nat} {full9 vs : List Value} (hM : MapO .i64 (mset m k (.slice (some ⟨b9, 0, none⟩) n9 c9)) o')
    {a39 : Option Addr} {c39 : Nat} {l : Byt} (O : OS (some ⟨b9, 0, none⟩) n9 c9 1 full9 (vs ++ [.slice a39 512 c39])) (h9 : w15.heap[b9]? = some (Bl 23 full9)) (h9n : b9 ∈ arrs ∨ wS.heap.size ≤ b9)
    {p : Byt × List Byt} (hp : A.B[k]? = some p) (hvs : All2 (BytesAt wS role) vs p.2) (R39 : Rd w15 a39 1 B8 l) (hl : l.length = 512) (hc : 512 ≤ c39) (h39 : wS.heap.size ≤ (adr a39).block) (h39' : (adr a39).block ≠ b9) (h39lt : (adr a39).block < w15.heap.size)
    (wf : Wf (addW A k l)) : ∃ role', DevR w15 bd (addW A k l) role' bs bm sv (mset m k (.slice (some ⟨b9, 0, none⟩) n9 c9)) o' ∧ ∀ x, role' x ≠ 0 → role x ≠ 0 ∨ (wS.heap.size ≤ x ∧ x < w15.heap.size) := by
  obtain ⟨role', hrole⟩ : ∃ f : Nat → Nat, ∀ x, f x = if x = b9 then 5 + k else if x = (adr a39).block then 4 else role x := ⟨_, fun _ => rfl⟩
  have hr9 : role' b9 = 5 + k := by rw [hrole, if_pos rfl]
  have hr39 : role' (adr a39).block = 4 := by rw [hrole, if_neg h39', if_pos rfl]
  have hold : ∀ x, role x ≠ 0 → role' x = role x := fun x h0 => by
    have hlt := D.lt x h0
    rw [hrole]
    by_cases h : x = b9
    · rw [if_pos h]
      rcases h9n with h1 | h1
      · rw [h, ha _ h1]
      · omega
    · rw [if_neg h, if_neg (by omega)]
  have hnew : ∀ x, role' x ≠ 0 → role x ≠ 0 ∨ (wS.heap.size ≤ x ∧ x < w15.heap.size) := fun x h0 => by
    rw [hrole] at h0
    by_cases h : x = b9
    · rcases h9n with h1 | h1
      · exact .inl (by rw [h, ha _ h1]; omega)
      · exact .inr (by rw [h]; exact ⟨h1, heap_lt h9⟩)
    · rw [if_neg h] at h0
      by_cases h2 : x = (adr a39).block
      · exact .inr (by rw [h2]; exact ⟨h39, h39lt⟩)
      · rw [if_neg h2] at h0
        exact .inl h0
  have hS : ∀ x ∈ bm :: arrs, role x = 3 ∨ role x = 5 + k := fun x h => by
    rcases List.mem_cons.1 h with h | h
    · exact .inl (by rw [h]; exact D.rm)
    · exact .inr (ha x h)
  have hb : ∀ {b : Nat} {o : Obj}, wS.heap[b]? = some o → role b = 1 ∨ role b = 2 → w15.heap[b]? = some o := fun {b o} h1 h2 => by
    rw [hx.block b (heap_lt h1) fun h => ?_]
    · exact h1
    · rcases hS b h with h3 | h3 <;> omega
  have k4 : ∀ x, role x = 4 → role' x = 4 := fun x h => by rw [hold x (by omega), h]
  refine ⟨role', ⟨fun x h => ?_, by rw [hold _ (by rw [D.rd]; decide), D.rd], by rw [hold _ (by rw [D.rs]; decide), D.rs], by rw [hold _ (by rw [D.rm]; decide), D.rm], ?_, hb D.hs (.inr D.rs), hm15, hM, mset_nodup D.nd, fun k' v h => ?_, ?_, fun i q hq => ?_, wf⟩, hnew⟩
  · rcases hnew x h with h | h
    · exact Nat.lt_of_lt_of_le (D.lt x h) hx.size
    · exact h.2
  · rw [show (addW A k l).B.length = A.B.length from List.length_modify ..]
    exact hb D.hd (.inl D.rd)
  · rw [show (addW A k l).B.length = A.B.length from List.length_modify ..]
    rw [mget_mset] at h
    by_cases hkk : k' = (k : Int)
    · exact ⟨k, hkk, hk⟩
    · rw [if_neg hkk] at h
      exact D.keys k' v h
  · rw [show (addW A k l).B.length = A.B.length from List.length_modify ..]; exact D.len
  · have hq' : (A.B.modify k fun p => (p.1, p.2 ++ [l]))[i]? = some q := hq
    rw [List.getElem?_modify] at hq'
    rw [mget_mset]
    by_cases hik : k = i
    · subst hik
      rw [hp] at hq'
      simp only [if_pos, Option.map_eq_map, Option.map_some, Option.some.injEq] at hq'
      subst hq'
      obtain ⟨⟨v, h1, h2⟩, _, _⟩ := D.part k p hp
      refine ⟨⟨v, h1, h2.keep hx (fun x h => by rcases hS x h with h3 | h3 <;> omega) k4⟩, ?_, by simp⟩
      rw [if_pos rfl, Option.getD_some]
      refine ⟨_, _, _, full9, _, rfl, O, fun x hx' => ?_, All2.snoc (hvs.imp fun v s h => h.keep hx (fun x h => by rcases hS x h with h3 | h3 <;> omega) k4) ⟨a39, c39, rfl, R39, hl, hr39, hc⟩⟩
      rw [mem_ent rfl, List.mem_singleton] at hx'
      subst hx'
      exact ⟨h9, hr9⟩
    · simp only [if_neg hik] at hq'
      have hq2 : A.B[i]? = some q := by simpa using hq'
      rw [if_neg (show ¬ ((i : Int) = (k : Int)) by omega)]
      obtain ⟨⟨v, h1, h2⟩, h3, h4⟩ := D.part i q hq2
      exact ⟨⟨v, h1, h2.keep hx (fun x h => by rcases hS x h with h3 | h3 <;> omega) k4⟩, h3.keep hx (fun x h => by rcases hS x h with h3 | h3 <;> omega) k4 (fun x h => by rw [hold x (by omega), h]), h4⟩

end Go.Proofs.YtkmbcpgnafmnpaaDoor

/- Writes of a device. -/
namespace Go.Proofs.YtkmbcpgnafmnpaaDoor
open Go.GV
attribute [local irreducible] Wops W Wq Wt

theorem Fresh.new512 {w w' : World} {t : Nat} {s : Value} {xs : Byt} (h : Fresh w w' t 1 s (xs.map bv)) (hl : xs.length = 512) : ∃ a c, s = .slice a 512 c ∧ Rd w' a 1 B8 xs ∧ 512 ≤ c ∧ w.heap.size ≤ (adr a).block ∧ (adr a).block < w'.heap.size := by
  obtain ⟨a, n, c, full, rfl, O, hb⟩ := h.ex
  have hn : n = 512 := by rw [← hl]; exact OS.num O
  subst hn
  obtain ⟨b, rfl⟩ := O.form (by decide)
  have h1 := hb (b, Bl t full) (by rw [mem_ent rfl]; exact List.mem_singleton.2 rfl)
  exact ⟨_, c, rfl, O.rd1 (t := t) fun x hx => (hb x hx).1, O.le, h1.2, heap_lt h1.1⟩

set_option maxRecDepth 20000 in
set_option maxHeartbeats 1000000 in
theorem dwrite_ok {w : World} {bd : Nat} {A : Dev} {F : Nat → Prop} (k : Int) (a : Option Addr) (c n : Nat) (l : Byt) (R : Rd w a 1 B8 l) (hn : l.length = n) (hm : n ≤ 140737488351232) (hFa : l = [] ∨ ¬ F (adr a).block) {mx : Nat} (hfew : Few A mx) (hmx : mx ≤ 1000000000000) (DA : DevAt w bd A F) :
    Ret Tryd.prog 15 #[ptr bd, .int .i64 k, .slice a n c] w fun v w' => v = .int .i64 (writeE A k l) ∧ DevAt w' bd (writeD A k l) (grow F w w') ∧ Turn F w w' := by
  subst hn
  obtain ⟨w0, rfl⟩ : ∃ w0, w0 = w := ⟨_, rfl⟩
  obtain ⟨role, bs, bm, sv, m, o, D, hF⟩ := DA
  have hFr : ∀ x, role x ≠ 0 → F x := hF
  refine ret_of_W (fn := Tryd.f15) Tryd.func15 rfl [.pointer (some ⟨bd, 0, none⟩), .int .i64 k, .slice a l.length c] rfl (by kernel_rfl) ?_
  refine W_rseq ?_
  refine op_assign rfl (.int _ _) rfl ?_
  refine op_nil (at_then ?_)
  refine W_seq ?_
  refine W_rseq ?_
  refine op_move rfl (.pointer _) rfl ?_
  refine op_call rfl ca_50 (don_ok D.hd) rfl ?_
  rintro v w ⟨rfl, rfl⟩
  refine op_assign rfl (.int _ _) rfl ?_
  refine op_nil (at_then ?_)
  refine W_rseq ?_
  refine op_move rfl (.int _ _) rfl ?_
  refine op_neq rfl rfl rfl ?_
  refine op_nil (at_then ?_)
  refine W_cond _ rfl ?_ ?_
  · intro h1
    replace h1 := ndec_t h1
    have ho : A.on = false := by cases h : A.on <;> simp_all
    have he : writeE A k l = 8 := by rw [writeE, ho]; rfl
    have hd : writeD A k l = A := by rw [writeD, ho]; rfl
    refine W_rseq ?_
    refine op_move rfl (.int _ _) rfl ?_
    refine op_assign rfl (.int _ _) rfl ?_
    refine op_nil (at_then ?_)
    refine W_ret (ret_then (leave1 (v := (.int _ _)) rfl rfl rfl ?_))
    exact ⟨by rw [he, ho]; rfl, by rw [hd]; exact ⟨role, bs, bm, sv, m, o, D, fun x h => .inl (hF x h)⟩, .of0 (.refl _ _)⟩
  · intro h1
    replace h1 := ndec_f h1
    have ho : A.on = true := by cases h : A.on <;> simp_all
    refine W_skip (at_then ?_)
    refine W_seq ?_
    refine W_rseq (Wops_join (α := Unit) 8372224 (fun _ => [(22, .bool (!(A.has k && decide (l.length = 512))))]) (fun _ w' => w0 = w') rfl ?_ ?_)
    · refine op_move rfl (.pointer _) rfl ?_
      refine op_move rfl (.int _ _) rfl ?_
      refine op_call rfl ca_51 (dhas_ok k D.hd) rfl ?_
      rintro v w ⟨rfl, rfl⟩
      rw [show (decide (0 ≤ k) && decide (k < (A.B.length : Int))) = A.has k from rfl]
      refine op_not rfl rfl ?_
      refine op_move rfl (.bool _) rfl ?_
      refine Wops_split 18 rfl ?_ ?_
      · intro h1
        replace h1 := nvar_t h1
        refine op_skip rfl ?_
        refine op_skip rfl ?_
        refine op_skip rfl ?_
        refine op_pick1 rfl rfl (.bool _) rfl ?_
        refine op_nil ?_
        exact ⟨rfl, (), rfl, ⟨congrArg Value.bool (by rw [Bool.eq_iff_iff]; simp_all; try omega), trivial⟩, rfl⟩
      · intro h2
        replace h2 := nvar_f h2
        refine op_move rfl (.slice _ _ _) rfl ?_
        refine op_len rfl el_23 rfl ?_
        refine op_neq rfl rfl rfl ?_
        refine op_pick0 rfl rfl (.bool _) rfl ?_
        refine op_nil ?_
        exact ⟨rfl, (), rfl, ⟨congrArg Value.bool (by rw [Bool.eq_iff_iff]; simp_all; try omega), trivial⟩, rfl⟩
    rintro - j22 w rfl
    refine W_cond _ rfl ?_ ?_
    · intro h2
      replace h2 := nvar_t h2
      have he : writeE A k l = 1 := by rw [writeE, ho, h2]; rfl
      have hd : writeD A k l = A := by rw [writeD, h2, Bool.and_false]; rfl
      refine W_rseq ?_
      refine op_assign rfl (.int _ _) rfl ?_
      refine op_nil (at_then ?_)
      refine W_ret (ret_then (leave1 (v := (.int _ _)) rfl rfl rfl ?_))
      exact ⟨by rw [he], by rw [hd]; exact ⟨role, bs, bm, sv, m, o, D, fun x h => .inl (hF x h)⟩, .of0 (.refl _ _)⟩
    · intro h2
      replace h2 := nvar_f h2
      refine W_skip (at_then ?_)
      refine W_rseq ?_
      refine op_move rfl (.pointer _) rfl ?_
      refine op_call rfl ca_52 (dcounts_ok D) rfl ?_
      rintro v w ⟨rfl, D1, hx1⟩
      refine op_assign rfl (.int _ _) rfl ?_
      refine op_nil (at_then ?_)
      refine W_seq ?_
      refine W_rseq ?_
      refine op_move rfl (.int _ _) rfl ?_
      refine op_eql rfl rfl rfl ?_
      refine op_nil (at_then ?_)
      refine W_cond _ rfl ?_ ?_
      · intro h3
        replace h3 := dec_t h3
        have hg : A.goes = false := by cases h : A.goes <;> simp_all
        have he : writeE A k l = 0 := by rw [writeE, ho, h2, hg]; rfl
        have hd : writeD A k l = addW A.less k.toNat l := by rw [writeD, ho, h2, hg]; rfl
        obtain ⟨wS, rfl⟩ : ∃ x, x = w := ⟨_, rfl⟩
        rw [Bool.and_eq_true, decide_eq_true_eq] at h2
        obtain ⟨h2, hl⟩ := h2
        obtain ⟨q, rfl, hq⟩ := has_num h2
        have hq1 : q < A.less.B.length := by rw [less_B]; exact hq
        obtain ⟨p, hp⟩ : ∃ p, A.less.B[q]? = some p := ⟨_, List.getElem?_eq_getElem hq1⟩
        obtain ⟨_, ⟨al, nl, cl, fl, vs, hvl, O, hent, hvs⟩, _⟩ := D1.part q p hp
        have hnl : nl = vs.length := by have := O.llen; omega
        have hll := less_few hfew p (List.mem_of_getElem? hp)
        have hvn := hvs.1
        obtain ⟨arrs, harrs⟩ : ∃ x, x = (ent al 23 fl).map (·.1) := ⟨_, rfl⟩
        have har : ∀ x ∈ arrs, role x = 5 + q := fun x h => by
          rw [harrs] at h
          obtain ⟨y, hy, rfl⟩ := List.mem_map.1 h
          exact (hent y hy).2
        have HT : ∀ x, Ext arrs wS x → Ctx wS (bd :: bm :: arrs) x [(bd, Bl TD (DB A.less.B.length bs bm A.less.left A.less.on)), (bm, o)] := fun x hx => by
          have e1 : ∀ {b : Nat} {o : Obj}, wS.heap[b]? = some o → role b = 1 ∨ role b = 3 → x.heap[b]? = some o := fun {b o} h1 h2 => by
            rw [hx.block b (heap_lt h1) fun h => by have := har b h; omega]; exact h1
          refine ⟨hx.mono (fun y h => by simp [h]), fun y hy => ?_, ?_, fun y hy => .inl ?_⟩
          · simp only [List.mem_cons, List.not_mem_nil, or_false] at hy
            rcases hy with rfl | rfl
            · exact e1 D1.hd (.inl D1.rd)
            · exact e1 D1.hm (.inr D1.rm)
          · have : bd ≠ bm := fun h => by have h1 := D1.rd; have h2 := D1.rm; rw [h] at h1; omega
            simp [this]
          · simp only [List.mem_cons, List.not_mem_nil, or_false] at hy
            rcases hy with rfl | rfl <;> simp
        have Rw : Rd wS a 1 B8 l := by
          rcases hFa with rfl | hFa
          · exact Rd.nil
          · refine R.ext hx1 fun h => hFa ?_
            rw [List.mem_singleton.1 h]
            exact hFr _ (by rw [D.rd]; decide)
        have hM := D1.hM
        refine W_segz [([0, 1, 2, 3, 4, 5, 6, 7, 8, 9, 10, 11], 12), ([], 13), ([], 14), ([], 15)] (fun x => Ext arrs wS x) 15 mixed (by kernel_rfl) (Ext.drew _ wS) ?_
        refine seg_cons rfl rfl ?_
        refine t_move rfl (.pointer _) rfl ?_
        refine t_nilCheck rfl rfl ?_
        refine t_fieldAddr rfl fo_86_1 rfl ?_
        refine t_ldb rfl ag_84 rfl HT (by first | exact at0 | exact at1 | exact at2 | exact at3 | exact at4 | exact at5 | exact at6 | exact at7 | exact at8 | exact at9) rfl ?_
        refine t_move rfl (.int _ _) rfl ?_
        refine t_move rfl (.pointer _) rfl ?_
        refine t_nilCheck rfl rfl ?_
        refine t_fieldAddr rfl fo_86_1 rfl ?_
        refine t_ldb rfl ag_84 rfl HT (by first | exact at0 | exact at1 | exact at2 | exact at3 | exact at4 | exact at5 | exact at6 | exact at7 | exact at8 | exact at9) rfl ?_
        refine t_move rfl (.int _ _) rfl ?_
        refine t_lookup rfl mt_84 un_3 zv_58 rfl rfl HT at1 D1.hM ?_
        rw [show ((mget m (q : Int)).getD (.slice none 0 0)) = .slice al nl cl from hvl]
        refine t_move rfl (.slice _ _ _) rfl ?_
        refine t_nil ?_
        skip
        refine op_call rfl ca_53 (clone_ok a c l.length l _ (Rw.ext0 (Ext.drew [] wS)) rfl hm) rfl ?_
        rintro v w ⟨F39, -⟩
        obtain ⟨a39, c39, rfl, R39, hc39, hn39, hlt39⟩ := Fresh.new512 F39 hl
        have hxC0 := (Ext.drew [] wS).trans F39.ext
        have hxC : Ext arrs wS w := hxC0.mono (by simp)
        obtain ⟨wC, rfl⟩ : ∃ x, x = w := ⟨_, rfl⟩
        have H : Ctx wC arrs wC (ent al 23 fl) := by rw [harrs]; exact Ctx.startL (fun x hx => by rw [hxC0.block x.1 (heap_lt (hent x hx).1) (by simp)]; exact (hent x hx).1) ent_nd
        refine op_nil (at_seg (hxC) ?_)
        refine seg_cons rfl rfl ?_
        refine t_nil ?_
        refine op_build1 _ (.slice _ _ _) rfl el_58 sz_23 zc_23 rfl (by decide) (by decide) rfl rfl rfl H ?_
        rintro b40 w - H
        refine op_nil (at_seg (hxC.trans H.ext) ?_)
        refine seg_cons rfl rfl ?_
        refine t_nil ?_
        refine op_appendb (L := []) rfl el_58 el_58 sz_23 by_23 zc_23 rfl (by decide) rfl rfl H O rfl (by simp [oneCell]) (by omega) ?_
        rintro a9 c9 full9 w H9 O9
        obtain ⟨b9, rfl⟩ := O9.form (by omega)
        have hx14 : Ext arrs wS w := hxC.trans H9.ext
        have hbm : w.heap[bm]? = some o := by rw [hx14.block bm (heap_lt D1.hm) fun h => by have := har bm h; have := D1.rm; omega]; exact D1.hm
        obtain ⟨w14, rfl⟩ : ∃ x, x = w := ⟨_, rfl⟩
        replace H := Ctx.start1 hbm
        refine op_nil (at_seg (hx14) ?_)
        refine seg_cons rfl rfl ?_
        refine t_nil ?_
        refine op_mapUpdate (.slice _ _ _) rfl mt_84 un_3 rfl rfl rfl H (by first | exact at0 | exact at1 | exact at2 | exact at3 | exact at4 | exact at5 | exact at6 | exact at7 | exact at8 | exact at9) hM ?_
        rintro o w hM H
        refine op_nil (at_segz ?_)
        refine seg_nil ?_
        refine at_then ?_
        refine W_rseq ?_
        refine op_move rfl (.int _ _) rfl ?_
        refine op_assign rfl (.int _ _) rfl ?_
        refine op_nil (at_then ?_)
        refine W_ret (leave1 (v := (.int _ _)) rfl rfl rfl ?_)
        have hsz9 : b9 ∈ arrs ∨ wC.heap.size ≤ b9 := H9.own (b9, Bl _ full9) (by rw [mem_ent rfl]; exact List.mem_singleton.2 rfl)
        have hb9w : w14.heap[b9]? = some (Bl 23 full9) := H9.blk (b9, Bl _ full9) (by rw [mem_ent rfl]; exact List.mem_singleton.2 rfl)
        have hsC := hxC.size
        have hs14 := H9.ext.size
        have hs15 := H.ext.size
        have hbm3 := D1.rm
        have hbmlt := D1.lt bm (by omega)
        have harlt : ∀ x ∈ arrs, x < wS.heap.size := fun x h => D1.lt x (by rw [har x h]; omega)
        have hne9 : b9 ≠ bm := fun h => by
          rcases hsz9 with h1 | h1
          · have := har b9 h1; rw [h] at this; omega
          · omega
        have hne39 : (adr a39).block ≠ b9 := fun h => by
          rcases hsz9 with h1 | h1
          · have := harlt b9 h1
            have h5 : wS.heap.size ≤ (adr a39).block := hn39
            omega
          · omega
        have hn39' : wS.heap.size ≤ (adr a39).block := hn39
        have hxE : Ext (bm :: arrs) wS w := (hx14.mono fun x h => List.mem_cons_of_mem _ h).trans (H.ext.mono fun x h => by rw [List.mem_singleton.1 h]; exact List.mem_cons_self ..)
        have R15 : Rd w a39 1 B8 l := (R39.ext H9.ext fun h => by have := harlt _ h; omega).ext H.ext fun h => by rw [List.mem_singleton] at h; omega
        obtain ⟨role', D', hnew⟩ := D1.write hq1 har hxE (H.get at0) hM O9 (by rw [H.ext.block b9 (heap_lt hb9w) (by simpa using hne9)]; exact hb9w) (hsz9.imp id fun h => Nat.le_trans hsC h) hp hvs R15 hl hc39 hn39' hne39 (by omega) (addW_wf (less_wf D.wf) hl)
        refine ⟨by rw [he, hg]; rfl, ?_, ?_⟩
        · rw [hd]
          refine ⟨role', bs, bm, sv, _, _, D', fun x h => ?_⟩
          rcases hnew x h with h | h
          · exact .inl (hF x h)
          · exact .inr ⟨Nat.le_trans hx1.size h.1, h.2⟩
        · refine .of (S := bd :: bm :: arrs) ((hx1.mono (by simp)).trans (hxE.mono fun x h => List.mem_cons_of_mem _ h)) fun x h => hF x ?_
          rcases List.mem_cons.1 h with rfl | h
          · rw [D.rd]; decide
          · rcases List.mem_cons.1 h with rfl | h
            · rw [D.rm]; decide
            · rw [har x h]; omega
      · intro h3
        replace h3 := dec_f h3
        have hg : A.goes = true := by cases h : A.goes <;> simp_all
        have he : writeE A k l = 8 := by rw [writeE, ho, h2, hg]; rfl
        have hd : writeD A k l = A.less := by rw [writeD, ho, h2, hg]; rfl
        refine W_skip (at_then ?_)
        refine W_rseq ?_
        refine op_move rfl (.int _ _) rfl ?_
        refine op_assign rfl (.int _ _) rfl ?_
        refine op_nil (at_then ?_)
        refine W_ret (leave1 (v := (.int _ _)) rfl rfl rfl ?_)
        refine ⟨by rw [he, hg]; rfl, by rw [hd]; exact ⟨role, bs, bm, sv, m, o, D1, fun x h => .inl (hF x h)⟩, .of hx1 fun x h => hF x (by rw [List.mem_singleton.1 h, D.rd]; decide)⟩

end Go.Proofs.YtkmbcpgnafmnpaaDoor

/- The reference's device. -/
namespace Go.Proofs.YtkmbcpgnafmnpaaDoor
open Go.GV
attribute [local irreducible] Wops W Wq Wt

def TR : Nat := 96
def TB : Nat := 99
def RB (n bb cb : Nat) (left : Int) (on : Bool) : List Value := [.slice (some ⟨bb, 0, none⟩) n cb, .int .i64 left, .bool on]
@[simp] theorem RB_len (n bb cb : Nat) (left : Int) (on : Bool) : (RB n bb cb left on).length = 3 := rfl

def LooseS (w : World) (role : Nat → Nat) (k : Nat) (v : Value) (l : List Byt) : Prop :=
  ∃ a n c full, v = .slice a n c ∧ OS a n c 1 full (l.map str) ∧ ∀ x ∈ ent a 9 full, w.heap[x.1]? = some x.2 ∧ role x.1 = 5 + k

structure RefR (w : World) (rd : Nat) (A : Dev) (role : Nat → Nat) (bb cb : Nat) (full : List Value) : Prop where
  lt : ∀ x, role x ≠ 0 → x < w.heap.size
  rr : role rd = 1
  rb : role bb = 2
  hd : w.heap[rd]? = some (Bl TR (RB A.B.length bb cb A.left A.on))
  hb : w.heap[bb]? = some (Bl TB full)
  len : full.length = cb * 2
  cap : A.B.length ≤ cb
  part : ∀ i p, A.B[i]? = some p → full[2 * i]? = some (str p.1) ∧ ∃ v, full[2 * i + 1]? = some v ∧ LooseS w role i v p.2
  wf : Wf A

def RefAt (w : World) (rd : Nat) (A : Dev) (F : Nat → Prop) : Prop := ∃ role bb cb full, RefR w rd A role bb cb full ∧ ∀ x, role x ≠ 0 → F x

theorem LooseS.keep {w w' : World} {role role' : Nat → Nat} {k : Nat} {v : Value} {l : List Byt} {S : List Nat} (h : LooseS w role k v l) (hx : Ext S w w') (hS : ∀ x ∈ S, role x ≠ 5 + k) (hr5 : ∀ x, role x = 5 + k → role' x = 5 + k) : LooseS w' role' k v l := by
  obtain ⟨a, n, c, full, rfl, O, hb⟩ := h
  refine ⟨a, n, c, full, rfl, O, fun x hx' => ?_⟩
  obtain ⟨h6, h7⟩ := hb x hx'
  exact ⟨by rw [hx.block x.1 (heap_lt h6) fun h => hS _ h h7]; exact h6, hr5 _ h7⟩

theorem RefAt.keep {w w' : World} {rd : Nat} {A : Dev} {F : Nat → Prop} (h : RefAt w rd A F) {S : List Nat} (hx : Ext S w w') (hS : ∀ x ∈ S, ¬ F x) : RefAt w' rd A F := by
  obtain ⟨role, bb, cb, full, D, hF⟩ := h
  have hS' : ∀ x ∈ S, role x = 0 := fun x hx => Classical.byContradiction fun h => hS x hx (hF x h)
  have hb : ∀ {b : Nat} {o : Obj}, w.heap[b]? = some o → role b ≠ 0 → w'.heap[b]? = some o := fun {b o} h1 h2 => by
    rw [hx.block b (heap_lt h1) fun h => h2 (hS' b h)]; exact h1
  refine ⟨role, bb, cb, full, ⟨fun x h => Nat.lt_of_lt_of_le (D.lt x h) hx.size, D.rr, D.rb, hb D.hd (by rw [D.rr]; decide), hb D.hb (by rw [D.rb]; decide), D.len, D.cap, fun i p hp => ?_, D.wf⟩, hF⟩
  obtain ⟨h1, v, h2, h3⟩ := D.part i p hp
  exact ⟨h1, v, h2, h3.keep hx (fun x h => by rw [hS' x h]; omega) fun _ h => h⟩
theorem RefAt.keep0 {w w' : World} {rd : Nat} {A : Dev} {F : Nat → Prop} (h : RefAt w rd A F) (hx : Ext [] w w') : RefAt w' rd A F := h.keep hx (by simp)
theorem RefAt.mono {w : World} {rd : Nat} {A : Dev} {F G : Nat → Prop} (h : RefAt w rd A F) (hG : ∀ x, F x → G x) : RefAt w rd A G :=
  let ⟨role, bb, cb, full, D, hF⟩ := h; ⟨role, bb, cb, full, D, fun x hx => hG x (hF x hx)⟩
theorem RefAt.wf {w : World} {rd : Nat} {A : Dev} {F : Nat → Prop} (h : RefAt w rd A F) : Wf A := let ⟨_, _, _, _, D, _⟩ := h; D.wf

theorem RefR.turn {w w' : World} {rd : Nat} {A A' : Dev} {role : Nat → Nat} {bb cb : Nat} {full : List Value} (D : RefR w rd A role bb cb full) (hx : Ext [rd] w w')
    (hd : w'.heap[rd]? = some (Bl TR (RB A'.B.length bb cb A'.left A'.on))) (hB : A'.B = A.B) (wf : Wf A') : RefR w' rd A' role bb cb full := by
  have hs : ∀ x ∈ [rd], role x = 1 := fun x h => by rw [List.mem_singleton.1 h]; exact D.rr
  refine ⟨fun x h => Nat.lt_of_lt_of_le (D.lt x h) hx.size, D.rr, D.rb, hd, ?_, D.len, by rw [hB]; exact D.cap, fun i p hp => ?_, wf⟩
  · rw [hx.block bb (heap_lt D.hb) fun h => by have := hs _ h; rw [D.rb] at this; omega]; exact D.hb
  · rw [hB] at hp
    obtain ⟨h1, v, h2, h3⟩ := D.part i p hp
    exact ⟨h1, v, h2, h3.keep hx (fun x h => by rw [hs x h]; omega) fun _ h => h⟩

/-- A block's new state: what is sure and what is loose of it. -/
theorem RefR.put {w w' : World} {rd : Nat} {A : Dev} {role role' : Nat → Nat} {bb cb : Nat} {full : List Value} (D : RefR w rd A role bb cb full) {k : Nat} {p : Byt × List Byt} {S : List Nat} {full' : List Value} {v : Value} (hk : k < A.B.length)
    (hx : Ext S w w') (hS : ∀ x ∈ S, role x = 2 ∨ role x = 5 + k) (hb' : w'.heap[bb]? = some (Bl TB full')) (hlen : full'.length = full.length) (h0 : full'[2 * k]? = some (str p.1)) (h1 : full'[2 * k + 1]? = some v)
    (hrest : ∀ i, i ≠ 2 * k → i ≠ 2 * k + 1 → full'[i]? = full[i]?) (hv : LooseS w' role' k v p.2) (hold : ∀ x, role x ≠ 0 → role' x = role x) (hlt : ∀ x, role' x ≠ 0 → x < w'.heap.size)
    (wf : Wf { A with B := A.B.set k p }) : RefR w' rd { A with B := A.B.set k p } role' bb cb full' := by
  refine ⟨hlt, by rw [hold _ (by rw [D.rr]; decide), D.rr], by rw [hold _ (by rw [D.rb]; decide), D.rb], ?_, hb', by rw [hlen, D.len], by rw [List.length_set]; exact D.cap, fun i q hq => ?_, wf⟩
  · rw [hx.block rd (heap_lt D.hd) fun h => by have := hS _ h; rw [D.rr] at this; omega, List.length_set]; exact D.hd
  · have hq' : (A.B.set k p)[i]? = some q := hq
    rw [List.getElem?_set] at hq'
    by_cases hik : k = i
    · subst hik
      rw [if_pos rfl, if_pos hk] at hq'
      cases hq'
      exact ⟨h0, v, h1, hv⟩
    · rw [if_neg hik] at hq'
      obtain ⟨a1, u, a2, a3⟩ := D.part i q hq'
      refine ⟨by rw [hrest _ (by omega) (by omega)]; exact a1, u, by rw [hrest _ (by omega) (by omega)]; exact a2, a3.keep hx (fun x h => by have := hS x h; omega) fun x h => by rw [hold x (by omega), h]⟩

theorem rhas_ok {w : World} {rd n bb cb : Nat} {left : Int} {on : Bool} (k : Int) (h : w.heap[rd]? = some (Bl TR (RB n bb cb left on))) :
    Ret Tryd.prog 60 #[ptr rd, .int .i64 k] w fun v w' => v = .bool (decide (0 ≤ k) && decide (k < n)) ∧ w = w' := by
  obtain ⟨w0, rfl⟩ : ∃ w0, w0 = w := ⟨_, rfl⟩
  have H := Ctx.start1 h
  refine ret_of_W (fn := Tryd.f60) Tryd.func60 rfl [.pointer (some ⟨rd, 0, none⟩), .int .i64 k] rfl (by kernel_rfl) ?_
  refine W_rseq ?_
  refine op_assign rfl (.bool _) rfl ?_
  refine op_nil (at_then ?_)
  refine W_rseq ?_
  refine op_move rfl (.int _ _) rfl ?_
  refine op_geq rfl rfl rfl ?_
  refine op_move rfl (.bool _) rfl ?_
  refine Wops_split 7 rfl ?_ ?_
  · intro h1
    replace h1 := dec_t h1
    refine op_move rfl (.int _ _) rfl ?_
    refine op_move rfl (.pointer _) rfl ?_
    refine op_nilCheck rfl rfl ?_
    refine op_fieldAddr rfl fo_96_0 rfl ?_
    refine op_ldb rfl ag_94 rfl H (by first | exact at0 | exact at1 | exact at2 | exact at3 | exact at4 | exact at5 | exact at6 | exact at7 | exact at8 | exact at9) rfl ?_
    refine op_len rfl el_94 rfl ?_
    refine op_lss rfl rfl rfl ?_
    refine op_pick1 rfl rfl (.bool _) rfl ?_
    refine op_assign rfl (.bool _) rfl ?_
    refine op_nil (at_then ?_)
    refine W_ret (leave1 (v := (.bool _)) rfl rfl rfl ?_)
    exact ⟨congrArg Value.bool (by simp_all; try omega), rfl⟩
  · intro h2
    replace h2 := dec_f h2
    refine op_skip rfl ?_
    refine op_skip rfl ?_
    refine op_skip rfl ?_
    refine op_skip rfl ?_
    refine op_skip rfl ?_
    refine op_skip rfl ?_
    refine op_skip rfl ?_
    refine op_pick0 rfl rfl (.bool _) rfl ?_
    refine op_assign rfl (.bool _) rfl ?_
    refine op_nil (at_then ?_)
    refine W_ret (leave1 (v := (.bool _)) rfl rfl rfl ?_)
    exact ⟨congrArg Value.bool (by simp_all; try omega), rfl⟩

theorem rgoes_ok {w : World} {rd : Nat} {A : Dev} {role : Nat → Nat} {bb cb : Nat} {full : List Value} (D : RefR w rd A role bb cb full) :
    Ret Tryd.prog 61 #[ptr rd] w fun v w' => v = .bool A.goes ∧ RefR w' rd A.less role bb cb full ∧ Ext [rd] w w' := by
  obtain ⟨w0, rfl⟩ : ∃ w0, w0 = w := ⟨_, rfl⟩
  have H := Ctx.start1 D.hd
  have h1 := D.wf.left; have h2 := D.wf.left2
  refine ret_of_W (fn := Tryd.f61) Tryd.func61 rfl [.pointer (some ⟨rd, 0, none⟩)] rfl (by kernel_rfl) ?_
  refine W_rseq ?_
  refine op_assign rfl (.bool _) rfl ?_
  refine op_nil (at_then ?_)
  refine W_seq ?_
  refine W_rseq ?_
  refine op_move rfl (.pointer _) rfl ?_
  refine op_nilCheck rfl rfl ?_
  refine op_fieldAddr rfl fo_96_1 rfl ?_
  refine op_ldb rfl ag_3 rfl H (by first | exact at0 | exact at1 | exact at2 | exact at3 | exact at4 | exact at5 | exact at6 | exact at7 | exact at8 | exact at9) rfl ?_
  refine op_eql rfl rfl rfl ?_
  refine op_nil (at_then ?_)
  refine W_cond _ rfl ?_ ?_
  · intro h3
    replace h3 := dec_t h3
    have hl : A.less = ⟨A.B, A.left, false⟩ := by unfold Dev.less; rw [if_pos (by omega)]
    refine W_rseq ?_
    refine op_move rfl (.pointer _) rfl ?_
    refine op_nilCheck rfl rfl ?_
    refine op_fieldAddr rfl fo_96_2 rfl ?_
    refine op_stb (.bool _) rfl sz_4 rfl rfl rfl H (by first | exact at0 | exact at1 | exact at2 | exact at3 | exact at4 | exact at5 | exact at6 | exact at7 | exact at8 | exact at9) (by first | decide | (simp; done) | (simp; omega)) ?_
    rintro w H
    refine op_nil (at_then ?_)
    refine W_rseq ?_
    refine op_assign rfl (.bool _) rfl ?_
    refine op_nil (at_then ?_)
    refine W_ret (ret_then (leave1 (v := (.bool _)) rfl rfl rfl ?_))
    exact ⟨by rw [Dev.goes, decide_eq_true (by omega)], D.turn H.ext (by rw [hl]; exact H.get at0) (less_B A) (less_wf D.wf), H.ext⟩
  · intro h3
    replace h3 := dec_f h3
    refine W_skip (at_then ?_)
    refine W_seq ?_
    refine W_rseq ?_
    refine op_move rfl (.pointer _) rfl ?_
    refine op_nilCheck rfl rfl ?_
    refine op_fieldAddr rfl fo_96_1 rfl ?_
    refine op_ldb rfl ag_3 rfl H (by first | exact at0 | exact at1 | exact at2 | exact at3 | exact at4 | exact at5 | exact at6 | exact at7 | exact at8 | exact at9) rfl ?_
    refine op_gtr rfl rfl rfl ?_
    refine op_nil (at_then ?_)
    refine W_cond _ rfl ?_ ?_
    · intro h4
      replace h4 := dec_t h4
      have hl : A.less = ⟨A.B, A.left - 1, A.on⟩ := by unfold Dev.less; rw [if_neg (by omega), if_neg (by omega)]
      refine W_region ?_
      refine op_move rfl (.pointer _) rfl ?_
      refine op_nilCheck rfl rfl ?_
      refine op_fieldAddr rfl fo_96_1 rfl ?_
      refine op_ldb rfl ag_3 rfl H (by first | exact at0 | exact at1 | exact at2 | exact at3 | exact at4 | exact at5 | exact at6 | exact at7 | exact at8 | exact at9) rfl ?_
      refine op_sub_i64 rfl rfl rfl (by omega) (by omega) ?_
      refine op_nilCheck rfl rfl ?_
      refine op_fieldAddr rfl fo_96_1 rfl ?_
      refine op_stb (.int _ _) rfl sz_3 rfl rfl rfl H (by first | exact at0 | exact at1 | exact at2 | exact at3 | exact at4 | exact at5 | exact at6 | exact at7 | exact at8 | exact at9) (by first | decide | (simp; done) | (simp; omega)) ?_
      rintro w H
      refine op_nil (at_then ?_)
      refine W_rseq ?_
      refine op_assign rfl (.bool _) rfl ?_
      refine op_nil (at_then ?_)
      refine W_ret (leave1 (v := (.bool _)) rfl rfl rfl ?_)
      exact ⟨by rw [Dev.goes, decide_eq_false (by omega)], D.turn H.ext (by rw [hl]; exact H.get at0) (less_B A) (less_wf D.wf), H.ext⟩
    · intro h4
      replace h4 := dec_f h4
      have hl : A.less = A := by unfold Dev.less; rw [if_neg (by omega), if_pos (by omega)]
      refine W_skip (at_then ?_)
      refine W_rseq ?_
      refine op_assign rfl (.bool _) rfl ?_
      refine op_nil (at_then ?_)
      refine W_ret (leave1 (v := (.bool _)) rfl rfl rfl ?_)
      exact ⟨by rw [Dev.goes, decide_eq_false (by omega)], by rw [hl]; exact D, H.ext⟩

theorem rarm_ok {w : World} {rd : Nat} {A : Dev} {F : Nat → Prop} (n : Int) (hn : n ≤ 9223372036854775807) (DA : RefAt w rd A F) :
    Ret Tryd.prog 21 #[ptr rd, .int .i64 n] w fun v w' => v = .int .i64 (armE A) ∧ RefAt w' rd (armD A n) F ∧ Turn F w w' := by
  obtain ⟨w0, rfl⟩ : ∃ w0, w0 = w := ⟨_, rfl⟩
  obtain ⟨role, bb, cb, full, D, hF⟩ := DA
  have hFd : ∀ x ∈ [rd], F x := fun x h => hF x (by rw [List.mem_singleton.1 h, D.rr]; decide)
  have H := Ctx.start1 D.hd
  refine ret_of_W (fn := Tryd.f21) Tryd.func21 rfl [.pointer (some ⟨rd, 0, none⟩), .int .i64 n] rfl (by kernel_rfl) ?_
  refine W_rseq ?_
  refine op_assign rfl (.int _ _) rfl ?_
  refine op_nil (at_then ?_)
  refine W_seq ?_
  refine W_rseq ?_
  refine op_move rfl (.pointer _) rfl ?_
  refine op_nilCheck rfl rfl ?_
  refine op_fieldAddr rfl fo_96_2 rfl ?_
  refine op_ldb rfl ag_4 rfl H (by first | exact at0 | exact at1 | exact at2 | exact at3 | exact at4 | exact at5 | exact at6 | exact at7 | exact at8 | exact at9) rfl ?_
  refine op_not rfl rfl ?_
  refine op_nil (at_then ?_)
  refine W_cond _ rfl ?_ ?_
  · intro h1
    replace h1 := nvar_t h1
    have ho : A.on = false := by simpa using h1
    refine W_rseq ?_
    refine op_assign rfl (.int _ _) rfl ?_
    refine op_nil (at_then ?_)
    refine W_ret (ret_then (leave1 (v := (.int _ _)) rfl rfl rfl ?_))
    exact ⟨by rw [armE, ho]; rfl, ⟨role, bb, cb, full, by rw [armD, ho]; exact D, hF⟩, .of H.ext hFd⟩
  · intro h1
    replace h1 := nvar_f h1
    have ho : A.on = true := by simpa using h1
    refine W_skip (at_then ?_)
    refine W_rseq ?_
    refine op_move rfl (.pointer _) rfl ?_
    refine op_move rfl (.int _ _) rfl ?_
    refine op_max2 rfl rfl rfl ?_
    refine op_nilCheck rfl rfl ?_
    refine op_fieldAddr rfl fo_96_1 rfl ?_
    refine op_stb (.int _ _) rfl sz_3 rfl rfl rfl H (by first | exact at0 | exact at1 | exact at2 | exact at3 | exact at4 | exact at5 | exact at6 | exact at7 | exact at8 | exact at9) (by first | decide | (simp; done) | (simp; omega)) ?_
    rintro w H
    refine op_nil (at_then ?_)
    refine W_rseq ?_
    refine op_assign rfl (.int _ _) rfl ?_
    refine op_nil (at_then ?_)
    refine W_ret (leave1 (v := (.int _ _)) rfl rfl rfl ?_)
    refine ⟨by rw [armE, ho]; rfl, ⟨role, bb, cb, full, D.turn H.ext ?_ (by rw [armD, ho]; rfl) (arm_wf D.wf n hn), hF⟩, .of H.ext hFd⟩
    rw [armD, ho]
    have h2 := H.get at0
    rw [ho] at h2
    exact h2

theorem roff_ok {w : World} {rd : Nat} {A : Dev} {F : Nat → Prop} (DA : RefAt w rd A F) :
    Ret Tryd.prog 23 #[ptr rd] w fun v w' => v = .int .i64 (armE A) ∧ RefAt w' rd (offD A) F ∧ Turn F w w' := by
  obtain ⟨w0, rfl⟩ : ∃ w0, w0 = w := ⟨_, rfl⟩
  obtain ⟨role, bb, cb, full, D, hF⟩ := DA
  have hFd : ∀ x ∈ [rd], F x := fun x h => hF x (by rw [List.mem_singleton.1 h, D.rr]; decide)
  have H := Ctx.start1 D.hd
  refine ret_of_W (fn := Tryd.f23) Tryd.func23 rfl [.pointer (some ⟨rd, 0, none⟩)] rfl (by kernel_rfl) ?_
  refine W_rseq ?_
  refine op_assign rfl (.int _ _) rfl ?_
  refine op_nil (at_then ?_)
  refine W_seq ?_
  refine W_rseq ?_
  refine op_move rfl (.pointer _) rfl ?_
  refine op_nilCheck rfl rfl ?_
  refine op_fieldAddr rfl fo_96_2 rfl ?_
  refine op_ldb rfl ag_4 rfl H (by first | exact at0 | exact at1 | exact at2 | exact at3 | exact at4 | exact at5 | exact at6 | exact at7 | exact at8 | exact at9) rfl ?_
  refine op_not rfl rfl ?_
  refine op_nil (at_then ?_)
  refine W_cond _ rfl ?_ ?_
  · intro h1
    replace h1 := nvar_t h1
    have ho : A.on = false := by simpa using h1
    have he : offD A = A := by rw [offD, ← ho]
    refine W_rseq ?_
    refine op_assign rfl (.int _ _) rfl ?_
    refine op_nil (at_then ?_)
    refine W_ret (ret_then (leave1 (v := (.int _ _)) rfl rfl rfl ?_))
    exact ⟨by rw [armE, ho]; rfl, ⟨role, bb, cb, full, by rw [he]; exact D, hF⟩, .of H.ext hFd⟩
  · intro h1
    replace h1 := nvar_f h1
    have ho : A.on = true := by simpa using h1
    refine W_skip (at_then ?_)
    refine W_rseq ?_
    refine op_move rfl (.pointer _) rfl ?_
    refine op_nilCheck rfl rfl ?_
    refine op_fieldAddr rfl fo_96_2 rfl ?_
    refine op_stb (.bool _) rfl sz_4 rfl rfl rfl H (by first | exact at0 | exact at1 | exact at2 | exact at3 | exact at4 | exact at5 | exact at6 | exact at7 | exact at8 | exact at9) (by first | decide | (simp; done) | (simp; omega)) ?_
    rintro w H
    refine op_nil (at_then ?_)
    refine W_rseq ?_
    refine op_assign rfl (.int _ _) rfl ?_
    refine op_nil (at_then ?_)
    refine W_ret (leave1 (v := (.int _ _)) rfl rfl rfl ?_)
    exact ⟨by rw [armE, ho]; rfl, ⟨role, bb, cb, full, D.turn H.ext (H.get at0) rfl (off_wf D.wf), hF⟩, .of H.ext hFd⟩

theorem rstands_ok {w : World} {role : Nat → Nat} {k : Nat} {v : Value} {p : Byt × List Byt} (hv : LooseS w role k v p.2) (hm : p.2.length ≤ 1000000000000) :
    Ret Tryd.prog 63 #[.agg #[str p.1, v]] w fun v w' => v = str (stands p) ∧ Ext [] w w' := by
  obtain ⟨w0, rfl⟩ : ∃ w0, w0 = w := ⟨_, rfl⟩
  have H := Ctx.start w0 []
  obtain ⟨a, n, c, full, rfl, O, hb⟩ := hv
  have hn : n = p.2.length := OS.num O
  have R : Rd w0 a 1 (fun x : Byt => [str x]) p.2 := O.rd1 (t := 9) fun x hx => (hb x hx).1
  refine ret_of_W (fn := Tryd.f63) Tryd.func63 rfl [.agg #[str p.1, .slice a n c]] rfl (by kernel_rfl) ?_
  refine W_rseq ?_
  refine op_box rfl _ (.agg _) rfl rfl H ?_
  rintro b1 w - H
  refine op_assign rfl (.string _) rfl ?_
  refine op_nil (at_then ?_)
  refine W_seq ?_
  refine W_rseq ?_
  refine op_fieldAddr rfl fo_99_1 rfl ?_
  refine op_ldb rfl ag_97 rfl H (by first | exact at0 | exact at1 | exact at2 | exact at3 | exact at4 | exact at5 | exact at6 | exact at7 | exact at8 | exact at9) rfl ?_
  refine op_len rfl el_97 rfl ?_
  refine op_gtr rfl rfl rfl ?_
  refine op_nil (at_then ?_)
  refine W_cond _ rfl ?_ ?_
  · intro h1
    replace h1 := dec_t h1
    obtain ⟨b, hb⟩ : ∃ b, p.2[n - 1]? = some b := ⟨_, List.getElem?_eq_getElem (by omega)⟩
    have hst : stands p = b := by
      rw [stands, List.getLast?_eq_getElem?, show p.2.length - 1 = n - 1 by omega, hb]; rfl
    refine W_rseq ?_
    refine op_fieldAddr rfl fo_99_1 rfl ?_
    first | refine op_ldb rfl ag_97 rfl H (by first | exact at0 | exact at1 | exact at2 | exact at3 | exact at4 | exact at5 | exact at6 | exact at7 | exact at8 | exact at9) rfl ?_ | refine op_ld rfl ag_97 rfl ((R.ext0 H.ext).one (f := str) hb) ?_
    refine op_fieldAddr rfl fo_99_1 rfl ?_
    first | refine op_ldb rfl ag_97 rfl H (by first | exact at0 | exact at1 | exact at2 | exact at3 | exact at4 | exact at5 | exact at6 | exact at7 | exact at8 | exact at9) rfl ?_ | refine op_ld rfl ag_97 rfl ((R.ext0 H.ext).one (f := str) hb) ?_
    refine op_len rfl el_97 rfl ?_
    refine op_sub_i64 rfl rfl rfl (by omega) (by omega) ?_
    rw [show ((n : Int) - 1) = ((n - 1 : Nat) : Int) by omega]
    first | refine op_indexRd R rfl el_97 sz_9 rfl rfl (by omega) (by omega) (by first | rfl | omega) ?_ | refine op_indexAddr rfl el_97 sz_9 rfl rfl (by omega) (by omega) ?_
    first | refine op_ldb rfl ag_9 rfl H (by first | exact at0 | exact at1 | exact at2 | exact at3 | exact at4 | exact at5 | exact at6 | exact at7 | exact at8 | exact at9) rfl ?_ | refine op_ld rfl ag_9 rfl ((R.ext0 H.ext).one (f := str) hb) ?_
    refine op_assign rfl (.string _) rfl ?_
    refine op_nil (at_then ?_)
    refine W_ret (ret_then (leave1 (v := (.string _)) rfl rfl rfl ?_))
    exact ⟨by rw [hst]; rfl, H.ext⟩
  · intro h1
    replace h1 := dec_f h1
    have hst : stands p = p.1 := by
      have : p.2 = [] := List.eq_nil_of_length_eq_zero (by omega)
      rw [stands, this]; rfl
    refine W_skip (at_then ?_)
    refine W_rseq ?_
    refine op_fieldAddr rfl fo_99_0 rfl ?_
    first | refine op_ldb rfl ag_9 rfl H (by first | exact at0 | exact at1 | exact at2 | exact at3 | exact at4 | exact at5 | exact at6 | exact at7 | exact at8 | exact at9) rfl ?_ | refine op_ld rfl ag_9 rfl ((R.ext0 H.ext).one (f := str) hb) ?_
    refine op_assign rfl (.string _) rfl ?_
    refine op_nil (at_then ?_)
    refine W_ret (leave1 (v := (.string _)) rfl rfl rfl ?_)
    exact ⟨by rw [hst]; rfl, H.ext⟩

end Go.Proofs.YtkmbcpgnafmnpaaDoor

/- The reference's device: writes, flushes. -/
namespace Go.Proofs.YtkmbcpgnafmnpaaDoor
open Go.GV
attribute [local irreducible] Wops W Wq Wt

theorem modify_set {α : Type} {l : List α} {k : Nat} {p : α} {f : α → α} (h : l[k]? = some p) : l.modify k f = l.set k (f p) := by
  apply List.ext_getElem?
  intro i
  rw [List.getElem?_modify, List.getElem?_set]
  by_cases hi : k = i
  · subst hi
    rw [h, if_pos rfl, if_pos (get_lt h)]
    simp
  · rw [if_neg hi]
    simp [hi]
theorem addW_set {A : Dev} {k : Nat} {b : Byt} {p : Byt × List Byt} (h : A.B[k]? = some p) : addW A k b = { A with B := A.B.set k (p.1, p.2 ++ [b]) } := by
  unfold addW
  rw [modify_set h]

set_option maxRecDepth 20000 in
set_option maxHeartbeats 1000000 in
theorem rwrite_ok {w : World} {rd : Nat} {A : Dev} {F : Nat → Prop} (k : Int) (a : Option Addr) (c n : Nat) (l : Byt) (R : Rd w a 1 B8 l) (hn : l.length = n) (hFa : l = [] ∨ ¬ F (adr a).block) {mx : Nat} (hfew : Few A mx) (hmx : mx ≤ 1000000000000) (DA : RefAt w rd A F) :
    Ret Tryd.prog 27 #[ptr rd, .int .i64 k, .slice a n c] w fun v w' => v = .int .i64 (writeE A k l) ∧ RefAt w' rd (writeD A k l) (grow F w w') ∧ Turn F w w' := by
  subst hn
  obtain ⟨w0, rfl⟩ : ∃ w0, w0 = w := ⟨_, rfl⟩
  obtain ⟨role, bb, cb, full, D, hF⟩ := DA
  have hFr : ∀ x, role x ≠ 0 → F x := hF
  have H := Ctx.start1 D.hd
  refine ret_of_W (fn := Tryd.f27) Tryd.func27 rfl [.pointer (some ⟨rd, 0, none⟩), .int .i64 k, .slice a l.length c] rfl (by kernel_rfl) ?_
  refine W_rseq ?_
  refine op_assign rfl (.int _ _) rfl ?_
  refine op_nil (at_then ?_)
  refine W_seq ?_
  refine W_rseq ?_
  refine op_move rfl (.pointer _) rfl ?_
  refine op_nilCheck rfl rfl ?_
  refine op_fieldAddr rfl fo_96_2 rfl ?_
  refine op_ldb rfl ag_4 rfl H (by first | exact at0 | exact at1 | exact at2 | exact at3 | exact at4 | exact at5 | exact at6 | exact at7 | exact at8 | exact at9) rfl ?_
  refine op_not rfl rfl ?_
  refine op_nil (at_then ?_)
  refine W_cond _ rfl ?_ ?_
  · intro h1
    replace h1 := nvar_t h1
    have ho : A.on = false := by simpa using h1
    have he : writeE A k l = 8 := by rw [writeE, ho]; rfl
    have hd : writeD A k l = A := by rw [writeD, ho]; rfl
    refine W_rseq ?_
    refine op_assign rfl (.int _ _) rfl ?_
    refine op_nil (at_then ?_)
    refine W_ret (ret_then (leave1 (v := (.int _ _)) rfl rfl rfl ?_))
    exact ⟨by rw [he], by rw [hd]; exact ⟨role, bb, cb, full, D, fun x h => .inl (hF x h)⟩, .of0 (.refl _ _)⟩
  · intro h1
    replace h1 := nvar_f h1
    have ho : A.on = true := by simpa using h1
    refine W_skip (at_then ?_)
    refine W_seq ?_
    refine W_rseq (Wops_join (α := Unit) 2093056 (fun _ => [(20, .bool (!(A.has k && decide (l.length = 512))))]) (fun _ w' => w0 = w') rfl ?_ ?_)
    · refine op_move rfl (.pointer _) rfl ?_
      refine op_move rfl (.int _ _) rfl ?_
      refine op_call rfl ca_60 (rhas_ok k D.hd) rfl ?_
      rintro v w ⟨rfl, rfl⟩
      rw [show (decide (0 ≤ k) && decide (k < (A.B.length : Int))) = A.has k from rfl]
      refine op_not rfl rfl ?_
      refine op_move rfl (.bool _) rfl ?_
      refine Wops_split 16 rfl ?_ ?_
      · intro h1
        replace h1 := nvar_t h1
        refine op_skip rfl ?_
        refine op_skip rfl ?_
        refine op_skip rfl ?_
        refine op_pick1 rfl rfl (.bool _) rfl ?_
        refine op_nil ?_
        exact ⟨rfl, (), rfl, ⟨congrArg Value.bool (by rw [Bool.eq_iff_iff]; simp_all; try omega), trivial⟩, rfl⟩
      · intro h2
        replace h2 := nvar_f h2
        refine op_move rfl (.slice _ _ _) rfl ?_
        refine op_len rfl el_23 rfl ?_
        refine op_neq rfl rfl rfl ?_
        refine op_pick0 rfl rfl (.bool _) rfl ?_
        refine op_nil ?_
        exact ⟨rfl, (), rfl, ⟨congrArg Value.bool (by rw [Bool.eq_iff_iff]; simp_all; try omega), trivial⟩, rfl⟩
    rintro - j20 w rfl
    refine W_cond _ rfl ?_ ?_
    · intro h2
      replace h2 := nvar_t h2
      have he : writeE A k l = 1 := by rw [writeE, ho, h2]; rfl
      have hd : writeD A k l = A := by rw [writeD, h2, Bool.and_false]; rfl
      refine W_rseq ?_
      refine op_assign rfl (.int _ _) rfl ?_
      refine op_nil (at_then ?_)
      refine W_ret (ret_then (leave1 (v := (.int _ _)) rfl rfl rfl ?_))
      exact ⟨by rw [he], by rw [hd]; exact ⟨role, bb, cb, full, D, fun x h => .inl (hF x h)⟩, .of0 (.refl _ _)⟩
    · intro h2
      replace h2 := nvar_f h2
      refine W_skip (at_then ?_)
      refine W_seq ?_
      refine W_rseq ?_
      refine op_move rfl (.pointer _) rfl ?_
      refine op_call rfl ca_61 (rgoes_ok D) rfl ?_
      rintro v w ⟨rfl, D1, hx1⟩
      refine op_nil (at_then ?_)
      refine W_cond _ rfl ?_ ?_
      · intro hg
        have he : writeE A k l = 8 := by rw [writeE, ho, h2, hg]; rfl
        have hd : writeD A k l = A.less := by rw [writeD, ho, h2, hg]; rfl
        refine W_rseq ?_
        refine op_assign rfl (.int _ _) rfl ?_
        refine op_nil (at_then ?_)
        refine W_ret (ret_then (leave1 (v := (.int _ _)) rfl rfl rfl ?_))
        exact ⟨by rw [he], by rw [hd]; exact ⟨role, bb, cb, full, D1, fun x h => .inl (hF x h)⟩, .of hx1 fun x h => hF x (by rw [List.mem_singleton.1 h, D.rr]; decide)⟩
      · intro hg
        have he : writeE A k l = 0 := by rw [writeE, ho, h2, hg]; rfl
        have hd : writeD A k l = addW A.less k.toNat l := by rw [writeD, ho, h2, hg]; rfl
        obtain ⟨wS, rfl⟩ : ∃ x, x = w := ⟨_, rfl⟩
        rw [Bool.and_eq_true, decide_eq_true_eq] at h2
        obtain ⟨h2, hl⟩ := h2
        obtain ⟨q, rfl, hq⟩ := has_num h2
        have hq1 : q < A.less.B.length := by rw [less_B]; exact hq
        obtain ⟨p, hp⟩ : ∃ p, A.less.B[q]? = some p := ⟨_, List.getElem?_eq_getElem hq1⟩
        obtain ⟨hs0, lv, hlv, al, nl, cl, fl, rfl, O, hent⟩ := D1.part q p hp
        have hnl : nl = p.2.length := OS.num O
        have hll := less_few hfew p (List.mem_of_getElem? hp)
        have hfl := D1.len
        have hcap := D1.cap
        obtain ⟨arrs, harrs⟩ : ∃ x, x = (ent al 9 fl).map (·.1) := ⟨_, rfl⟩
        have har : ∀ x ∈ arrs, role x = 5 + q := fun x h => by
          rw [harrs] at h
          obtain ⟨y, hy, rfl⟩ := List.mem_map.1 h
          exact (hent y hy).2
        have hrd : rd ∉ arrs := fun h => by have := har _ h; rw [D1.rr] at this; omega
        have hbn : bb ∉ arrs := fun h => by have := har _ h; rw [D1.rb] at this; omega
        have hcell : wS.cell? ⟨bb, 0 + ((q : Int)).toNat * 2 + 1, none⟩ = some (.slice al nl cl) := by
          rw [cell_bl D1.hb, show 0 + ((q : Int)).toNat * 2 + 1 = 2 * q + 1 by omega]; exact hlv
        have HT : ∀ x, Ext arrs wS x → Ctx wS (rd :: arrs) x [(rd, Bl TR (RB A.less.B.length bb cb A.less.left A.less.on))] := fun x hx =>
          ⟨hx.mono (fun y h => by simp [h]), fun y hy => by rw [List.mem_singleton] at hy; subst hy; dsimp only; rw [hx.block rd (heap_lt D1.hd) hrd]; exact D1.hd, by simp, fun y hy => .inl (by rw [List.mem_singleton] at hy; subst hy; simp)⟩
        have Rw : Rd wS a 1 B8 l := by
          rcases hFa with rfl | hFa
          · exact Rd.nil
          · refine R.ext hx1 fun h => hFa ?_
            rw [List.mem_singleton.1 h]
            exact hFr _ (by rw [D.rr]; decide)
        have hRa : ∀ x, Ext arrs wS x → Rd x a 1 B8 l := fun x hx => by
          rcases hFa with rfl | hFa
          · exact Rd.nil
          · exact Rw.ext hx fun h => hFa (hFr _ (by rw [har _ h]; omega))
        replace H : Ctx wS arrs wS (ent al 9 fl) := by rw [harrs]; exact Ctx.startL (fun x hx => (hent x hx).1) ent_nd
        refine W_skip (at_then ?_)
        refine W_sseqz [([0, 1, 2, 3, 4, 5, 6, 7, 8, 9, 10, 11, 12, 13, 14], 15), ([], 16), ([], 17), ([18], 19)] (fun x => Ext arrs wS x) 19 mixed (by kernel_rfl) (Ext.drew _ wS) ?_
        refine seg_cons rfl rfl ?_
        refine t_move rfl (.pointer _) rfl ?_
        refine t_nilCheck rfl rfl ?_
        refine t_fieldAddr rfl fo_96_0 rfl ?_
        first | refine t_ldb rfl ag_94 rfl HT (by first | exact at0 | exact at1 | exact at2 | exact at3 | exact at4 | exact at5 | exact at6 | exact at7 | exact at8 | exact at9) rfl ?_ | refine t_ld rfl ag_94 rfl (fun _ hx => hx.cell hcell hbn) ?_
        refine t_move rfl (.int _ _) rfl ?_
        refine t_move rfl (.pointer _) rfl ?_
        refine t_nilCheck rfl rfl ?_
        refine t_fieldAddr rfl fo_96_0 rfl ?_
        first | refine t_ldb rfl ag_94 rfl HT (by first | exact at0 | exact at1 | exact at2 | exact at3 | exact at4 | exact at5 | exact at6 | exact at7 | exact at8 | exact at9) rfl ?_ | refine t_ld rfl ag_94 rfl (fun _ hx => hx.cell hcell hbn) ?_
        refine t_move rfl (.int _ _) rfl ?_
        refine t_indexAddr rfl el_94 sz_99 rfl rfl (by omega) (by omega) ?_
        refine t_fieldAddr rfl fo_99_1 rfl ?_
        first | refine t_ldb rfl ag_97 rfl HT (by first | exact at0 | exact at1 | exact at2 | exact at3 | exact at4 | exact at5 | exact at6 | exact at7 | exact at8 | exact at9) rfl ?_ | refine t_ld rfl ag_97 rfl (fun _ hx => hx.cell hcell hbn) ?_
        refine t_move rfl (.slice _ _ _) rfl ?_
        refine t_back rfl el_23 un_5 un_9 rfl hRa ?_
        refine t_nil ?_
        replace H := H.drew
        refine op_build1 _ (.string _) rfl el_97 sz_9 zc_9 rfl (by decide) (by decide) rfl rfl rfl H ?_
        rintro b38 w - H
        refine op_nil (at_seg (H.ext) ?_)
        refine seg_cons rfl rfl ?_
        refine t_nil ?_
        refine op_appendb (L := []) rfl el_97 el_97 sz_9 by_9 zc_9 rfl (by decide) rfl rfl H O rfl (by simp [oneCell]) (by omega) ?_
        rintro a9 c9 full9 w H9 O9
        obtain ⟨b9, rfl⟩ := O9.form (by omega)
        have hx14 : Ext arrs wS w := H9.ext
        have hbm : w.heap[bb]? = some (Bl TB full) := by rw [hx14.block bb (heap_lt D1.hb) hbn]; exact D1.hb
        obtain ⟨w14, rfl⟩ : ∃ x, x = w := ⟨_, rfl⟩
        replace H := Ctx.start1 hbm
        refine op_nil (at_seg (hx14) ?_)
        refine seg_cons rfl rfl ?_
        refine t_nil ?_
        refine op_indexAddr rfl el_94 sz_99 rfl rfl (by omega) (by omega) ?_
        refine op_nil (at_seg (hx14) ?_)
        refine seg_cons rfl rfl ?_
        refine t_fieldAddr rfl fo_99_1 rfl ?_
        refine t_nil ?_
        refine op_stb (.slice _ _ _) rfl sz_97 rfl rfl rfl H (by first | exact at0 | exact at1 | exact at2 | exact at3 | exact at4 | exact at5 | exact at6 | exact at7 | exact at8 | exact at9) (by first | decide | (simp; done) | (simp; omega)) ?_
        rintro w H
        refine op_nil (at_segz ?_)
        refine seg_nil ?_
        refine W_rseq ?_
        refine op_assign rfl (.int _ _) rfl ?_
        refine op_nil (at_then ?_)
        refine W_ret (leave1 (v := (.int _ _)) rfl rfl rfl ?_)
        have hsz9 : b9 ∈ arrs ∨ wS.heap.size ≤ b9 := H9.own (b9, Bl _ full9) (by rw [mem_ent rfl]; exact List.mem_singleton.2 rfl)
        have hb9w : w14.heap[b9]? = some (Bl 9 full9) := H9.blk (b9, Bl _ full9) (by rw [mem_ent rfl]; exact List.mem_singleton.2 rfl)
        have hs14 := hx14.size
        have hs15 := H.ext.size
        have hbb2 := D1.rb
        have hbblt := D1.lt bb (by omega)
        have hne9 : b9 ≠ bb := fun h => by
          rcases hsz9 with h1 | h1
          · exact hbn (h ▸ h1)
          · omega
        obtain ⟨role', hrole⟩ : ∃ f : Nat → Nat, ∀ x, f x = if x = b9 then 5 + q else role x := ⟨_, fun _ => rfl⟩
        have hold : ∀ x, role x ≠ 0 → role' x = role x := fun x h0 => by
          have hlt := D1.lt x h0
          rw [hrole]
          by_cases h : x = b9
          · rw [if_pos h]
            rcases hsz9 with h1 | h1
            · rw [h, har _ h1]
            · omega
          · rw [if_neg h]
        have hnew : ∀ x, role' x ≠ 0 → role x ≠ 0 ∨ (wS.heap.size ≤ x ∧ x < w.heap.size) := fun x h0 => by
          rw [hrole] at h0
          by_cases h : x = b9
          · rcases hsz9 with h1 | h1
            · exact .inl (by rw [h, har _ h1]; omega)
            · exact .inr (by rw [h]; exact ⟨h1, Nat.lt_of_lt_of_le (heap_lt hb9w) hs15⟩)
          · rw [if_neg h] at h0
            exact .inl h0
        have hxE : Ext (bb :: arrs) wS w := (hx14.mono fun x h => List.mem_cons_of_mem _ h).trans (H.ext.mono fun x h => by rw [List.mem_singleton.1 h]; exact List.mem_cons_self ..)
        have hi1 : 0 + ((q : Int)).toNat * 2 + 1 = 2 * q + 1 := by omega
        have D' := D1.put (p := (p.1, p.2 ++ [l])) (role' := role') hq1 hxE (fun x h => by
            rcases List.mem_cons.1 h with h | h
            · exact .inl (by rw [h]; exact hbb2)
            · exact .inr (har x h)) (H.get at0) (by rw [List.length_set]) (by rw [hi1, List.getElem?_set_ne (by omega)]; exact hs0) (by rw [hi1, List.getElem?_set_self (by omega)])
          (fun i h1 h2 => by rw [hi1, List.getElem?_set_ne (by omega)]) ⟨_, _, _, full9, rfl, by rw [List.map_append]; exact O9, fun x hx' => by
            rw [mem_ent rfl, List.mem_singleton] at hx'
            subst hx'
            exact ⟨by dsimp only; rw [H.ext.block b9 (heap_lt hb9w) (by simpa using hne9)]; exact hb9w, by dsimp only; rw [hrole, if_pos rfl]⟩⟩ hold
          (fun x h => (hnew x h).elim (fun h => by have := D1.lt x h; omega) fun h => h.2) (by rw [← addW_set hp]; exact addW_wf (less_wf D.wf) hl)
        refine ⟨by rw [he], ?_, ?_⟩
        · rw [hd, show ((q : Int)).toNat = q from rfl, addW_set hp]
          refine ⟨role', bb, cb, _, D', fun x h => ?_⟩
          rcases hnew x h with h | h
          · exact .inl (hF x h)
          · exact .inr ⟨Nat.le_trans hx1.size h.1, h.2⟩
        · refine .of (S := rd :: bb :: arrs) ((hx1.mono (by simp)).trans (hxE.mono fun x h => List.mem_cons_of_mem _ h)) fun x h => hF x ?_
          rcases List.mem_cons.1 h with rfl | h
          · rw [D.rr]; decide
          · rcases List.mem_cons.1 h with rfl | h
            · rw [D.rb]; decide
            · rw [har x h]; omega

end Go.Proofs.YtkmbcpgnafmnpaaDoor

/- The reference's device: flushes; the power comes. -/
namespace Go.Proofs.YtkmbcpgnafmnpaaDoor
open Go.GV
attribute [local irreducible] Wops W Wq Wt

theorem set_mid {α : Type} (xs ys : List α) (p q : α) : (xs ++ p :: ys).set xs.length q = xs ++ q :: ys := by
  induction xs with
  | nil => rfl
  | cons x xs ih => simp [ih]
theorem drop_cons {α : Type} {l : List α} {i : Nat} {p : α} (h : l[i]? = some p) : l.drop i = p :: l.drop (i + 1) := by
  obtain ⟨hi, rfl⟩ := List.getElem?_eq_some_iff.1 h
  exact List.drop_eq_getElem_cons hi
def sureB (B : List (Byt × List Byt)) (i : Nat) : List (Byt × List Byt) := (B.take i).map (fun p => (stands p, [])) ++ B.drop i
theorem sureB_len (B : List (Byt × List Byt)) (i : Nat) : (sureB B i).length = B.length := by
  rw [sureB, List.length_append, List.length_map, List.length_take, List.length_drop]; omega
theorem sureB_get {B : List (Byt × List Byt)} {i : Nat} (h : i ≤ B.length) : (sureB B i)[i]? = B[i]? := by
  have hl : ((B.take i).map (fun p : Byt × List Byt => (stands p, ([] : List Byt)))).length = i := by rw [List.length_map, List.length_take]; omega
  rw [sureB, List.getElem?_append_right (by omega), hl, Nat.sub_self, List.getElem?_drop, Nat.add_zero]
theorem sureB_step {B : List (Byt × List Byt)} {i : Nat} {p : Byt × List Byt} (h : B[i]? = some p) : (sureB B i).set i (stands p, []) = sureB B (i + 1) := by
  have hi := get_lt h
  have hl : ((B.take i).map (fun p : Byt × List Byt => (stands p, ([] : List Byt)))).length = i := by rw [List.length_map, List.length_take]; omega
  have h1 := set_mid ((B.take i).map (fun p : Byt × List Byt => (stands p, ([] : List Byt)))) (B.drop (i + 1)) p (stands p, [])
  rw [hl] at h1
  rw [sureB, drop_cons h, h1, sureB, take_snoc h, List.map_append]
  simp
theorem sureB_all (B : List (Byt × List Byt)) : sureB B B.length = B.map fun p => (stands p, []) := by simp [sureB]

def cntL (B : List (Byt × List Byt)) : Nat := B.countP fun p => !p.2.isEmpty
theorem keepB_app (l1 l2 : List (Byt × List Byt)) (picks : List Int) : keepB (l1 ++ l2) picks = keepB l1 picks ++ keepB l2 (picks.drop (cntL l1)) := by
  induction l1 generalizing picks with
  | nil => simp [keepB, cntL]
  | cons p l ih =>
    by_cases hp : p.2 = []
    · have hc : cntL (p :: l) = cntL l := by simp [cntL, hp]
      rw [hc, List.cons_append, keepB, keepB, if_pos hp, if_pos hp, ih, List.cons_append]
    · have hc : cntL (p :: l) = cntL l + 1 := by simp [cntL, hp]
      rw [hc, List.cons_append, keepB, keepB, if_neg hp, if_neg hp, ih, List.cons_append]
      congr 3
      rw [List.drop_tail]
theorem cntL_snoc (l : List (Byt × List Byt)) (p : Byt × List Byt) : cntL (l ++ [p]) = if p.2 = [] then cntL l else cntL l + 1 := by
  unfold cntL
  rw [List.countP_append]
  by_cases hp : p.2 = [] <;> simp [hp]
theorem cntL_le (l : List (Byt × List Byt)) : cntL l ≤ l.length := List.countP_le_length
def keepI (B : List (Byt × List Byt)) (picks : List Int) (i : Nat) : List (Byt × List Byt) := keepB (B.take i) picks ++ B.drop i
theorem keepI_len (B : List (Byt × List Byt)) (picks : List Int) (i : Nat) : (keepI B picks i).length = B.length := by
  rw [keepI, List.length_append, keepB_len, List.length_take, List.length_drop]; omega
theorem keepI_get {B : List (Byt × List Byt)} {picks : List Int} {i : Nat} (h : i ≤ B.length) : (keepI B picks i)[i]? = B[i]? := by
  have hl : (keepB (B.take i) picks).length = i := by rw [keepB_len, List.length_take]; omega
  rw [keepI, List.getElem?_append_right (by omega), hl, Nat.sub_self, List.getElem?_drop, Nat.add_zero]
theorem keepI_same {B : List (Byt × List Byt)} {picks : List Int} {i : Nat} {p : Byt × List Byt} (h : B[i]? = some p) (hp : p.2 = []) : keepI B picks (i + 1) = keepI B picks i := by
  rw [keepI, take_snoc h, keepB_app, keepI, drop_cons h, List.append_assoc]
  congr 1
  rw [keepB, if_pos hp]
  simp [keepB, ← hp]
theorem keepI_step {B : List (Byt × List Byt)} {picks : List Int} {i : Nat} {p : Byt × List Byt} (h : B[i]? = some p) (hp : p.2 ≠ []) : (keepI B picks i).set i (kept p (pickN p (picks.drop (cntL (B.take i)))), []) = keepI B picks (i + 1) := by
  have hi := get_lt h
  have hl : (keepB (B.take i) picks).length = i := by rw [keepB_len, List.length_take]; omega
  have h1 := set_mid (keepB (B.take i) picks) (B.drop (i + 1)) p (kept p (pickN p (picks.drop (cntL (B.take i)))), [])
  rw [hl] at h1
  rw [keepI, drop_cons h, h1, keepI, take_snoc h, keepB_app, List.append_assoc]
  congr 1
  rw [keepB, if_neg hp]
  rfl
theorem keepI_all (B : List (Byt × List Byt)) (picks : List Int) : keepI B picks B.length = keepB B picks := by simp [keepI]

theorem Wf.set {A : Dev} (h : Wf A) {k : Nat} {p : Byt × List Byt} (h1 : p.1.length = 512) (h2 : ∀ b ∈ p.2, b.length = 512) : Wf { A with B := A.B.set k p } := by
  refine ⟨by rw [List.length_set]; exact h.lo, by rw [List.length_set]; exact h.hi, h.left, h.left2, fun q hq => ?_, fun q hq x hx => ?_⟩
  · rcases List.mem_or_eq_of_mem_set hq with hq | rfl
    · exact h.sure q hq
    · exact h1
  · rcases List.mem_or_eq_of_mem_set hq with hq | rfl
    · exact h.loose q hq x hx
    · exact h2 x hx

/-- A block is stored whole: nothing is loose. -/
theorem RefR.fix {w w' : World} {rd : Nat} {A : Dev} {role : Nat → Nat} {bb cb : Nat} {full : List Value} (D : RefR w rd A role bb cb full) {k : Nat} {s : Byt} (hk : k < A.B.length) (hs : s.length = 512)
    (hx : Ext [bb] w w') (hb' : w'.heap[bb]? = some (Bl TB (over full (0 + ((k : Int)).toNat * 2) [str s, .slice none 0 0]))) :
    RefR w' rd { A with B := A.B.set k (s, []) } role bb cb ((full.set (2 * k) (str s)).set (2 * k + 1) (.slice none 0 0)) := by
  have hl := D.len; have hc := D.cap
  have he : over full (0 + ((k : Int)).toNat * 2) [str s, .slice none 0 0] = (full.set (2 * k) (str s)).set (2 * k + 1) (.slice none 0 0) := by
    rw [show 0 + ((k : Int)).toNat * 2 = 2 * k by omega]; rfl
  refine D.put hk hx (fun x h => .inl (by rw [List.mem_singleton.1 h]; exact D.rb)) (by rw [hb', he]) (by rw [List.length_set, List.length_set]) (by rw [List.getElem?_set_ne (by omega), List.getElem?_set_self (by omega)]) (by rw [List.getElem?_set_self (by rw [List.length_set]; omega)])
    (fun i h1 h2 => by rw [List.getElem?_set_ne (by omega), List.getElem?_set_ne (by omega)]) ⟨none, 0, 0, [], rfl, OS.nil, by simp [ent]⟩ (fun _ _ => rfl) (fun x h => Nat.lt_of_lt_of_le (D.lt x h) hx.size) (D.wf.set hs (by simp))

theorem one_pair (l : Byt) : ∀ v ∈ [str l, Value.slice none 0 0], oneCell v = true := by
  intro v hv
  simp only [List.mem_cons, List.not_mem_nil, or_false] at hv
  rcases hv with rfl | rfl <;> rfl
theorem pair_cells {w : World} {bb i : Nat} {x y : Value} {full : List Value} {t : Nat} (hb : w.heap[bb]? = some (Bl t full)) (h0 : full[2 * i]? = some x) (h1 : full[2 * i + 1]? = some y) :
    ∀ j v, [x, y][j]? = some v → w.cell? ⟨bb, 0 + ((i : Int)).toNat * 2 + j, none⟩ = some v := by
  intro j v hj
  rw [cell_bl hb, show 0 + ((i : Int)).toNat * 2 + j = 2 * i + j by omega]
  match j, hj with
  | 0, hj => cases hj; exact h0
  | 1, hj => cases hj; exact h1

set_option maxRecDepth 20000 in
set_option maxHeartbeats 1000000 in
theorem rflush_ok {w : World} {rd : Nat} {A : Dev} {F : Nat → Prop} {mx : Nat} (hfew : Few A mx) (hmx : mx ≤ 1000000000000) (DA : RefAt w rd A F) :
    Ret Tryd.prog 58 #[ptr rd] w fun v w' => v = .int .i64 (flushE A) ∧ RefAt w' rd (flushD A) F ∧ Turn F w w' := by
  obtain ⟨w0, rfl⟩ : ∃ w0, w0 = w := ⟨_, rfl⟩
  obtain ⟨role, bb, cb, full, D, hF⟩ := DA
  have hF1 : F rd := hF _ (by rw [D.rr]; decide)
  have hF2 : F bb := hF _ (by rw [D.rb]; decide)
  have H := Ctx.start1 D.hd
  refine ret_of_W (fn := Tryd.f58) Tryd.func58 rfl [.pointer (some ⟨rd, 0, none⟩)] rfl (by kernel_rfl) ?_
  refine W_rseq ?_
  refine op_assign rfl (.int _ _) rfl ?_
  refine op_nil (at_then ?_)
  refine W_seq ?_
  refine W_rseq (Wops_join (α := Unit) 8176 (fun _ => [(12, .bool (!(A.on && !A.goes)))]) (fun _ w' => (A.on = false ∧ w0 = w') ∨ (A.on = true ∧ RefR w' rd A.less role bb cb full ∧ Ext [rd] w0 w')) rfl ?_ ?_)
  · refine op_move rfl (.pointer _) rfl ?_
    refine op_nilCheck rfl rfl ?_
    refine op_fieldAddr rfl fo_96_2 rfl ?_
    refine op_ldb rfl ag_4 rfl H (by first | exact at0 | exact at1 | exact at2 | exact at3 | exact at4 | exact at5 | exact at6 | exact at7 | exact at8 | exact at9) rfl ?_
    refine op_not rfl rfl ?_
    refine op_move rfl (.bool _) rfl ?_
    refine Wops_split 9 rfl ?_ ?_
    · intro h1
      replace h1 := nvar_t h1
      refine op_skip rfl ?_
      refine op_skip rfl ?_
      refine op_pick1 rfl rfl (.bool _) rfl ?_
      refine op_nil ?_
      exact ⟨rfl, (), rfl, ⟨congrArg Value.bool (by simp_all), trivial⟩, by first | exact .inr ⟨by simp_all, D1, hx1⟩ | exact .inl ⟨by simp_all, rfl⟩⟩
    · intro h2
      replace h2 := nvar_f h2
      refine op_move rfl (.pointer _) rfl ?_
      refine op_call rfl ca_61 (rgoes_ok D) rfl ?_
      rintro v w ⟨rfl, D1, hx1⟩
      refine op_pick0 rfl rfl (.bool _) rfl ?_
      refine op_nil ?_
      exact ⟨rfl, (), rfl, ⟨congrArg Value.bool (by simp_all), trivial⟩, by first | exact .inr ⟨by simp_all, D1, hx1⟩ | exact .inl ⟨by simp_all, rfl⟩⟩
  rintro - j12 w hj
  refine W_cond _ rfl ?_ ?_
  · intro h1
    replace h1 := nvar_t h1
    refine W_rseq ?_
    refine op_assign rfl (.int _ _) rfl ?_
    refine op_nil (at_then ?_)
    refine W_ret (ret_then (leave1 (v := (.int _ _)) rfl rfl rfl ?_))
    rcases hj with ⟨ho, rfl⟩ | ⟨ho, D1, hx1⟩
    · exact ⟨by rw [flushE, ho]; rfl, by rw [flushD, ho]; exact ⟨role, bb, cb, full, D, hF⟩, .of0 (.refl _ _)⟩
    · have hg : A.goes = true := by simpa [ho] using h1
      exact ⟨by rw [flushE, ho, hg]; rfl, by rw [flushD, ho, hg]; exact ⟨role, bb, cb, full, D1, hF⟩, .of hx1 fun x h => by rw [List.mem_singleton.1 h]; exact hF1⟩
  · intro h1
    replace h1 := nvar_f h1
    simp only [Bool.and_eq_true, Bool.not_eq_true'] at h1
    obtain ⟨ho, hg⟩ := h1
    rcases hj with ⟨ho', _⟩ | ⟨_, D1, hx1⟩
    · rw [ho] at ho'; cases ho'
    obtain ⟨w1, rfl⟩ : ∃ x, x = w := ⟨_, rfl⟩
    have hlo := D1.wf.lo; have hhi := D1.wf.hi
    have hfew1 := less_few hfew
    refine W_skip (at_then ?_)
    refine W_seq ?_
    refine W_rseq ?_
    refine op_assign rfl (.int _ _) rfl ?_
    refine op_nil (at_then ?_)
    refine W_block ?_
    refine W_loop 137438945288 (α := Nat) (fun i => [(3, .int .i64 i)]) (fun i w' => i ≤ A.less.B.length ∧ (∃ full', RefR w' rd { A.less with B := sureB A.less.B i } role bb cb full') ∧ Ext [bb] w1 w') (fun i => A.less.B.length - i) 0 rfl ?_ ?_ ?_
    · exact ⟨rfl, trivial⟩
    · exact ⟨Nat.zero_le _, ⟨full, by simpa [sureB] using D1⟩, .refl _ _⟩
    · rintro i j w ⟨hi, ⟨full', D2⟩, hx2⟩
      obtain ⟨wS, rfl⟩ : ∃ x, x = w := ⟨_, rfl⟩
      have H := Ctx.start1 D2.hd
      refine W_seq ?_
      refine W_rseq ?_
      refine op_move rfl (.int _ _) rfl ?_
      refine op_move rfl (.pointer _) rfl ?_
      refine op_nilCheck rfl rfl ?_
      refine op_fieldAddr rfl fo_96_0 rfl ?_
      refine op_ldb rfl ag_94 rfl H (by first | exact at0 | exact at1 | exact at2 | exact at3 | exact at4 | exact at5 | exact at6 | exact at7 | exact at8 | exact at9) rfl ?_
      refine op_len rfl el_94 rfl ?_
      refine op_lss rfl rfl rfl ?_
      refine op_nil (at_then ?_)
      refine W_cond _ rfl ?_ ?_
      · intro h2
        replace h2 := dec_t h2
        have h2' : (i : Int) < ((sureB A.less.B i).length : Int) := h2
        rw [sureB_len] at h2'
        have hi2 : i < (sureB A.less.B i).length := by rw [sureB_len]; omega
        obtain ⟨p, hp⟩ : ∃ p, A.less.B[i]? = some p := ⟨_, List.getElem?_eq_getElem (by omega)⟩
        have hp2 : (sureB A.less.B i)[i]? = some p := by rw [sureB_get hi]; exact hp
        obtain ⟨hs0, lv, hlv, hloose⟩ := D2.part i p hp2
        have hpl := hfew1 p (List.mem_of_getElem? hp)
        have hst := stands_len D1.wf (List.mem_of_getElem? hp)
        have hfl := D2.len
        have hcap : (sureB A.less.B i).length ≤ cb := D2.cap
        have hcells := pair_cells D2.hb hs0 hlv
        have HT : ∀ x, Ext [] wS x → Ctx wS [rd] x [(rd, Bl TR (RB (sureB A.less.B i).length bb cb A.less.left A.less.on))] := fun x hx => H.call hx
        refine W_skip (at_then ?_)
        refine W_seq ?_
        refine W_block ?_
        refine W_segz [([0, 1, 2, 3, 4, 5, 6, 7, 8, 9, 10, 11], 12), ([], 13), ([14], 15)] (fun x => Ext [] wS x) 15 mixed (by kernel_rfl) (Ext.drew _ wS) ?_
        refine seg_cons rfl rfl ?_
        refine t_move rfl (.pointer _) rfl ?_
        refine t_nilCheck rfl rfl ?_
        refine t_fieldAddr rfl fo_96_0 rfl ?_
        refine t_ldb rfl ag_94 rfl HT (by first | exact at0 | exact at1 | exact at2 | exact at3 | exact at4 | exact at5 | exact at6 | exact at7 | exact at8 | exact at9) rfl ?_
        refine t_move rfl (.int _ _) rfl ?_
        refine t_move rfl (.pointer _) rfl ?_
        refine t_nilCheck rfl rfl ?_
        refine t_fieldAddr rfl fo_96_0 rfl ?_
        refine t_ldb rfl ag_94 rfl HT (by first | exact at0 | exact at1 | exact at2 | exact at3 | exact at4 | exact at5 | exact at6 | exact at7 | exact at8 | exact at9) rfl ?_
        refine t_move rfl (.int _ _) rfl ?_
        refine t_indexAddr rfl el_94 sz_99 rfl rfl (by omega) (by omega) ?_
        refine t_ldN [str p.1, lv] rfl ag_99 sz_99 rfl rfl (fun _ hx j v hj => hx.cell (hcells j v hj) (by simp)) ?_
        refine t_nil ?_
        skip
        refine op_call rfl ca_63 (rstands_ok (hloose.keep (Ext.drew [] wS) (by simp) fun _ h => h) (by omega)) rfl ?_
        rintro v w ⟨rfl, hx34⟩
        have hxw : Ext [] wS w := (Ext.drew [] wS).trans hx34
        refine op_nil (at_seg (hxw) ?_)
        refine seg_cons rfl rfl ?_
        refine t_nil ?_
        refine op_buildS [str (stands p), .slice none 0 0] rfl pl_99 zc_99 (by kernel_rfl) ?_
        obtain ⟨w9, rfl⟩ : ∃ x, x = w := ⟨_, rfl⟩
        have hbb9 : w9.heap[bb]? = some (Bl TB full') := by rw [hxw.block bb (heap_lt D2.hb) (by simp)]; exact D2.hb
        refine op_nil (at_seg (hxw) ?_)
        refine seg_cons rfl rfl ?_
        refine t_indexAddr rfl el_94 sz_99 rfl rfl (by omega) (by omega) ?_
        refine t_nil ?_
        refine op_stbN (vs := [str (stands p), .slice none 0 0]) rfl sz_99 rfl rfl rfl (one_pair _) (Ctx.start1 hbb9) at0 (by omega) ?_
        rintro w H9
        refine op_nil (at_segz ?_)
        refine seg_nil ?_
        refine at_block (at_then ?_)
        refine W_region ?_
        refine op_move rfl (.int _ _) rfl ?_
        refine op_add_i64 rfl rfl rfl (by omega) (by omega) ?_
        refine op_assign rfl (.int _ _) rfl ?_
        refine op_nil (at_then ?_)
        have hxE : Ext [bb] wS w := (hxw.mono (by simp)).trans H9.ext
        obtain ⟨f3, D3⟩ : ∃ f, RefR w rd { A.less with B := (sureB A.less.B i).set i (stands p, []) } role bb cb f := ⟨_, D2.fix hi2 hst hxE (H9.get at0)⟩
        rw [sureB_step hp] at D3
        exact ⟨i + 1, rfl, ⟨rfl, trivial⟩, ⟨by omega, ⟨f3, D3⟩, hx2.trans hxE⟩, by omega⟩
      · intro h2
        replace h2 := dec_f h2
        have h2' : ¬ (i : Int) < ((sureB A.less.B i).length : Int) := h2
        rw [sureB_len] at h2'
        have hin : i = A.less.B.length := by omega
        subst hin
        rw [sureB_all] at D2
        refine W_exit (exit_then (exit_then (exit_here (at_then ?_))))
        refine W_rseq ?_
        refine op_assign rfl (.int _ _) rfl ?_
        refine op_nil (at_then ?_)
        refine W_ret (leave1 (v := (.int _ _)) rfl rfl rfl ?_)
        refine ⟨by rw [flushE, ho, hg]; rfl, by rw [flushD, ho, hg]; exact ⟨role, bb, cb, full', D2, hF⟩, .of (S := [rd, bb]) ((hx1.mono (by simp)).trans (hx2.mono (by simp))) fun x h => ?_⟩
        simp only [List.mem_cons, List.not_mem_nil, or_false] at h
        rcases h with rfl | rfl
        · exact hF1
        · exact hF2

theorem pick_num (p : Byt × List Byt) (x : Int) (l : List Int) : (max x 0) % ((p.2.length : Int) + 1) = ((pickN p (x :: l) : Nat) : Int) := by
  unfold pickN
  dsimp only
  rw [Int.natCast_emod, Int.toNat_of_nonneg (by omega)]
  rfl

set_option maxRecDepth 20000 in
set_option maxHeartbeats 2000000 in
theorem rcomes_ok {w : World} {rd : Nat} {A : Dev} {F : Nat → Prop} (a : Option Addr) (c n : Nat) (picks : List Int) (R : Rd w a 1 (fun x : Int => [.int .i64 x]) picks) (hn : picks.length = n) (hm : n ≤ 9223372036854775000) (hFa : picks = [] ∨ ¬ F (adr a).block) (hi64 : ∀ x ∈ picks, -9223372036854775808 ≤ x ∧ x ≤ 9223372036854775807) {mx : Nat} (hfew : Few A mx) (hmx : mx ≤ 1000000000000) (DA : RefAt w rd A F) :
    Ret Tryd.prog 25 #[ptr rd, .slice a n c] w fun v w' => v = .int .i64 (onE A) ∧ RefAt w' rd (onD A picks) F ∧ Turn F w w' := by
  subst hn
  obtain ⟨w0, rfl⟩ : ∃ w0, w0 = w := ⟨_, rfl⟩
  obtain ⟨role, bb, cb, full, D, hF⟩ := DA
  have hF1 : F rd := hF _ (by rw [D.rr]; decide)
  have hF2 : F bb := hF _ (by rw [D.rb]; decide)
  have H := Ctx.start1 D.hd
  have hlo := D.wf.lo; have hhi := D.wf.hi
  refine ret_of_W (fn := Tryd.f25) Tryd.func25 rfl [.pointer (some ⟨rd, 0, none⟩), .slice a picks.length c] rfl (by kernel_rfl) ?_
  refine W_rseq ?_
  refine op_assign rfl (.int _ _) rfl ?_
  refine op_nil (at_then ?_)
  refine W_seq ?_
  refine W_rseq ?_
  refine op_move rfl (.pointer _) rfl ?_
  refine op_nilCheck rfl rfl ?_
  refine op_fieldAddr rfl fo_96_2 rfl ?_
  refine op_ldb rfl ag_4 rfl H (by first | exact at0 | exact at1 | exact at2 | exact at3 | exact at4 | exact at5 | exact at6 | exact at7 | exact at8 | exact at9) rfl ?_
  refine op_nil (at_then ?_)
  refine W_cond _ rfl ?_ ?_
  · intro ho
    refine W_rseq ?_
    refine op_assign rfl (.int _ _) rfl ?_
    refine op_nil (at_then ?_)
    refine W_ret (ret_then (leave1 (v := (.int _ _)) rfl rfl rfl ?_))
    exact ⟨by rw [onE, ho]; rfl, by rw [onD, ho]; exact ⟨role, bb, cb, full, D, hF⟩, .of0 (.refl _ _)⟩
  · intro ho
    have hRb : ∀ x, Ext [bb] w0 x → Rd x a 1 (fun x : Int => [.int .i64 x]) picks := fun x hx => by
      rcases hFa with rfl | hFa
      · exact Rd.nil
      · exact R.ext hx fun h => hFa (by rw [List.mem_singleton.1 h]; exact hF2)
    refine W_skip (at_then ?_)
    refine W_rseq ?_
    refine op_assign rfl (.int _ _) rfl ?_
    refine op_nil (at_then ?_)
    refine W_seq ?_
    refine W_rseq ?_
    refine op_assign rfl (.int _ _) rfl ?_
    refine op_nil (at_then ?_)
    refine W_block ?_
    refine W_loop 302231454903657293661152 (α := Nat) (fun i => [(6, .int .i64 i), (5, .int .i64 (cntL (A.B.take i) : Int))]) (fun i w' => i ≤ A.B.length ∧ (∃ full', RefR w' rd { A with B := keepI A.B picks i } role bb cb full') ∧ Ext [bb] w0 w') (fun i => A.B.length - i) 0 rfl ?_ ?_ ?_
    · exact ⟨rfl, rfl, trivial⟩
    · exact ⟨Nat.zero_le _, ⟨full, by simpa [keepI, keepB] using D⟩, .refl _ _⟩
    · rintro i j w ⟨hi, ⟨full', D2⟩, hx2⟩
      obtain ⟨wS, rfl⟩ : ∃ x, x = w := ⟨_, rfl⟩
      have H := Ctx.start1 D2.hd
      have hcn : cntL (A.B.take i) ≤ 4096 := by have := cntL_le (A.B.take i); rw [List.length_take] at this; omega
      refine W_seq ?_
      refine W_rseq ?_
      refine op_move rfl (.int _ _) rfl ?_
      refine op_move rfl (.pointer _) rfl ?_
      refine op_nilCheck rfl rfl ?_
      refine op_fieldAddr rfl fo_96_0 rfl ?_
      refine op_ldb rfl ag_94 rfl H (by first | exact at0 | exact at1 | exact at2 | exact at3 | exact at4 | exact at5 | exact at6 | exact at7 | exact at8 | exact at9) rfl ?_
      refine op_len rfl el_94 rfl ?_
      refine op_lss rfl rfl rfl ?_
      refine op_nil (at_then ?_)
      refine W_cond _ rfl ?_ ?_
      · intro h2
        replace h2 := dec_t h2
        have h2' : (i : Int) < ((keepI A.B picks i).length : Int) := h2
        rw [keepI_len] at h2'
        have hi2 : i < (keepI A.B picks i).length := by rw [keepI_len]; omega
        obtain ⟨p, hp⟩ : ∃ p, A.B[i]? = some p := ⟨_, List.getElem?_eq_getElem (by omega)⟩
        have hp2 : (keepI A.B picks i)[i]? = some p := by rw [keepI_get hi]; exact hp
        obtain ⟨hs0, lv, hlv, al, nl, cl, fl, rfl, O, hent⟩ := D2.part i p hp2
        have hnl : nl = p.2.length := OS.num O
        subst hnl
        have hpl := hfew p (List.mem_of_getElem? hp)
        have hfl := D2.len
        have hcap : (keepI A.B picks i).length ≤ cb := D2.cap
        have hcell0 : wS.cell? ⟨bb, 0 + ((i : Int)).toNat * 2 + 0, none⟩ = some (str p.1) := pair_cells D2.hb hs0 hlv 0 _ rfl
        have hcell1 : wS.cell? ⟨bb, 0 + ((i : Int)).toNat * 2 + 1, none⟩ = some (.slice al p.2.length cl) := pair_cells D2.hb hs0 hlv 1 _ rfl
        have Rl : Rd wS al 1 (fun x : Byt => [str x]) p.2 := O.rd1 (t := 9) fun x hx => (hent x hx).1
        refine W_skip (at_then ?_)
        refine W_seq ?_
        refine W_block ?_
        refine W_rseq ?_
        refine op_move rfl (.pointer _) rfl ?_
        refine op_nilCheck rfl rfl ?_
        refine op_fieldAddr rfl fo_96_0 rfl ?_
        first | refine op_ldb rfl ag_94 rfl H (by first | exact at0 | exact at1 | exact at2 | exact at3 | exact at4 | exact at5 | exact at6 | exact at7 | exact at8 | exact at9) rfl ?_ | refine op_ld rfl ag_94 rfl (hcell0) ?_ | refine op_ld rfl ag_94 rfl (hcell1) ?_
        refine op_move rfl (.int _ _) rfl ?_
        refine op_indexAddr rfl el_94 sz_99 rfl rfl (by omega) (by omega) ?_
        refine op_fieldAddr rfl fo_99_1 rfl ?_
        first | refine op_ldb rfl ag_97 rfl H (by first | exact at0 | exact at1 | exact at2 | exact at3 | exact at4 | exact at5 | exact at6 | exact at7 | exact at8 | exact at9) rfl ?_ | refine op_ld rfl ag_97 rfl (hcell0) ?_ | refine op_ld rfl ag_97 rfl (hcell1) ?_
        refine op_len rfl el_97 rfl ?_
        refine op_assign rfl (.int _ _) rfl ?_
        refine op_nil (at_then ?_)
        refine W_seq ?_
        refine W_rseq ?_
        refine op_move rfl (.int _ _) rfl ?_
        refine op_eql rfl rfl rfl ?_
        refine op_nil (at_then ?_)
        refine W_cond _ rfl ?_ ?_
        · intro h3
          replace h3 := dec_t h3
          have hp0 : p.2 = [] := List.eq_nil_of_length_eq_zero (by omega)
          refine W_exit (exit_then (exit_here (at_then ?_)))
          refine W_region ?_
          refine op_move rfl (.int _ _) rfl ?_
          refine op_add_i64 rfl rfl rfl (by omega) (by omega) ?_
          refine op_assign rfl (.int _ _) rfl ?_
          refine op_nil (at_then ?_)
          refine ⟨i + 1, rfl, ⟨rfl, congrArg (fun k : Nat => Value.int .i64 (k : Int)) ?_, trivial⟩, ⟨by omega, ⟨full', ?_⟩, hx2⟩, by omega⟩
          · rw [take_snoc hp, cntL_snoc, if_pos hp0]
          · rw [keepI_same hp hp0]; exact D2
        · intro h3
          replace h3 := dec_f h3
          have hpn : p.2 ≠ [] := fun h => h3 (by rw [h]; rfl)
          have hcs : cntL (A.B.take (i + 1)) = cntL (A.B.take i) + 1 := by rw [take_snoc hp, cntL_snoc, if_neg hpn]
          have fin : ∀ (s : Byt), kept p (pickN p (picks.drop (cntL (A.B.take i)))) = s → ∀ w', Ext [bb] wS w' → w'.heap[bb]? = some (Bl TB (over full' (0 + ((i : Int)).toNat * 2) [str s, .slice none 0 0])) →
              (i + 1 ≤ A.B.length ∧ (∃ f, RefR w' rd { A with B := keepI A.B picks (i + 1) } role bb cb f) ∧ Ext [bb] w0 w') := fun s hs w' hx hb => by
            obtain ⟨f3, D3⟩ : ∃ f, RefR w' rd { A with B := (keepI A.B picks i).set i (s, []) } role bb cb f := ⟨_, D2.fix hi2 (by rw [← hs]; exact kept_len D.wf (List.mem_of_getElem? hp) _) hx hb⟩
            rw [← hs, keepI_step hp hpn] at D3
            exact ⟨by omega, ⟨f3, D3⟩, hx2.trans hx⟩
          refine W_skip (at_then ?_)
          refine W_rseq ?_
          refine op_assign rfl (.int _ _) rfl ?_
          refine op_nil (at_then ?_)
          refine W_seq ?_
          refine W_rseq ?_
          refine op_move rfl (.int _ _) rfl ?_
          refine op_move rfl (.slice _ _ _) rfl ?_
          refine op_len rfl el_45 rfl ?_
          refine op_lss rfl rfl rfl ?_
          refine op_nil (at_then ?_)
          refine W_cond _ rfl ?_ ?_
          · intro h4
            replace h4 := dec_t h4
            obtain ⟨x, hx⟩ := get_some (l := picks) (i := cntL (A.B.take i)) (by omega)
            have hdr : picks.drop (cntL (A.B.take i)) = x :: picks.drop (cntL (A.B.take i) + 1) := drop_cons hx
            have hx64 := hi64 x (List.mem_of_getElem? hx)
            have hpk : pickN p (picks.drop (cntL (A.B.take i))) ≤ p.2.length := by rw [hdr]; exact Nat.lt_succ_iff.1 (Nat.mod_lt _ (by omega))
            refine W_region ?_
            refine op_move rfl (.slice _ _ _) rfl ?_
            refine op_move rfl (.int _ _) rfl ?_
            first | refine op_indexRd (hRb _ hx2) rfl el_45 sz_3 rfl rfl (by omega) (by omega) (by first | rfl | omega) ?_ | refine op_indexRd Rl rfl el_45 sz_3 rfl rfl (by omega) (by omega) (by first | rfl | omega) ?_ | refine op_indexAddr rfl el_45 sz_3 rfl rfl (by omega) (by omega) ?_
            first | refine op_ldb rfl ag_3 rfl H (by first | exact at0 | exact at1 | exact at2 | exact at3 | exact at4 | exact at5 | exact at6 | exact at7 | exact at8 | exact at9) rfl ?_ | refine op_ld rfl ag_3 rfl (hcell0) ?_ | refine op_ld rfl ag_3 rfl (hcell1) ?_ | refine op_ld rfl ag_3 rfl ((hRb _ hx2).one (f := fun x => .int .i64 x) hx) ?_
            refine op_max2 rfl rfl rfl ?_
            refine op_move rfl (.int _ _) rfl ?_
            refine op_add_i64 rfl rfl rfl (by omega) (by omega) ?_
            refine op_rem rfl rfl rfl (by omega) (by omega) ?_
            rw [pick_num p x (picks.drop (cntL (A.B.take i) + 1)), ← hdr]
            refine op_assign rfl (.int _ _) rfl ?_
            refine op_nil (at_then ?_)
            refine W_rseq ?_
            refine op_move rfl (.int _ _) rfl ?_
            refine op_add_i64 rfl rfl rfl (by omega) (by omega) ?_
            refine op_assign rfl (.int _ _) rfl ?_
            refine op_nil (at_then ?_)
            refine W_rseq ?_
            refine op_move rfl (.pointer _) rfl ?_
            refine op_nilCheck rfl rfl ?_
            refine op_fieldAddr rfl fo_96_0 rfl ?_
            first | refine op_ldb rfl ag_94 rfl H (by first | exact at0 | exact at1 | exact at2 | exact at3 | exact at4 | exact at5 | exact at6 | exact at7 | exact at8 | exact at9) rfl ?_ | refine op_ld rfl ag_94 rfl (hcell0) ?_ | refine op_ld rfl ag_94 rfl (hcell1) ?_ | refine op_ld rfl ag_94 rfl ((hRb _ hx2).one (f := fun x => .int .i64 x) hx) ?_
            refine op_move rfl (.int _ _) rfl ?_
            first | refine op_indexRd (hRb _ hx2) rfl el_94 sz_99 rfl rfl (by omega) (by omega) (by first | rfl | omega) ?_ | refine op_indexRd Rl rfl el_94 sz_99 rfl rfl (by omega) (by omega) (by first | rfl | omega) ?_ | refine op_indexAddr rfl el_94 sz_99 rfl rfl (by omega) (by omega) ?_
            refine op_fieldAddr rfl fo_99_0 rfl ?_
            first | refine op_ldb rfl ag_9 rfl H (by first | exact at0 | exact at1 | exact at2 | exact at3 | exact at4 | exact at5 | exact at6 | exact at7 | exact at8 | exact at9) rfl ?_ | refine op_ld rfl ag_9 rfl (hcell0) ?_ | refine op_ld rfl ag_9 rfl (hcell1) ?_ | refine op_ld rfl ag_9 rfl ((hRb _ hx2).one (f := fun x => .int .i64 x) hx) ?_
            refine op_assign rfl (.string _) rfl ?_
            refine op_nil (at_then ?_)
            refine W_seq ?_
            refine W_rseq ?_
            refine op_move rfl (.int _ _) rfl ?_
            refine op_gtr rfl rfl rfl ?_
            refine op_nil (at_then ?_)
            refine W_cond _ rfl ?_ ?_
            · intro h5
              replace h5 := dec_t h5
              obtain ⟨b, hb⟩ := get_some (l := p.2) (i := pickN p (picks.drop (cntL (A.B.take i))) - 1) (by omega)
              have hk : kept p (pickN p (picks.drop (cntL (A.B.take i)))) = b := by rw [kept, if_neg (by omega), List.getD_eq_getElem?_getD, hb]; rfl
              refine W_region ?_
              refine op_move rfl (.pointer _) rfl ?_
              refine op_nilCheck rfl rfl ?_
              refine op_fieldAddr rfl fo_96_0 rfl ?_
              first | refine op_ldb rfl ag_94 rfl H (by first | exact at0 | exact at1 | exact at2 | exact at3 | exact at4 | exact at5 | exact at6 | exact at7 | exact at8 | exact at9) rfl ?_ | refine op_ld rfl ag_94 rfl (hcell0) ?_ | refine op_ld rfl ag_94 rfl (hcell1) ?_ | refine op_ld rfl ag_94 rfl ((hRb _ hx2).one (f := fun x => .int .i64 x) hx) ?_ | refine op_ld rfl ag_94 rfl (Rl.one (f := str) hb) ?_
              refine op_move rfl (.int _ _) rfl ?_
              first | refine op_indexRd (hRb _ hx2) rfl el_94 sz_99 rfl rfl (by omega) (by omega) (by first | rfl | omega) ?_ | refine op_indexRd Rl rfl el_94 sz_99 rfl rfl (by omega) (by omega) (by first | rfl | omega) ?_ | refine op_indexAddr rfl el_94 sz_99 rfl rfl (by omega) (by omega) ?_
              refine op_fieldAddr rfl fo_99_1 rfl ?_
              first | refine op_ldb rfl ag_97 rfl H (by first | exact at0 | exact at1 | exact at2 | exact at3 | exact at4 | exact at5 | exact at6 | exact at7 | exact at8 | exact at9) rfl ?_ | refine op_ld rfl ag_97 rfl (hcell0) ?_ | refine op_ld rfl ag_97 rfl (hcell1) ?_ | refine op_ld rfl ag_97 rfl ((hRb _ hx2).one (f := fun x => .int .i64 x) hx) ?_ | refine op_ld rfl ag_97 rfl (Rl.one (f := str) hb) ?_
              refine op_move rfl (.int _ _) rfl ?_
              refine op_sub_i64 rfl rfl rfl (by omega) (by omega) ?_
              rw [show (((pickN p (picks.drop (cntL (A.B.take i))) : Nat) : Int) - 1) = ((pickN p (picks.drop (cntL (A.B.take i))) - 1 : Nat) : Int) by omega]
              first | refine op_indexRd (hRb _ hx2) rfl el_97 sz_9 rfl rfl (by omega) (by omega) (by first | rfl | omega) ?_ | refine op_indexRd Rl rfl el_97 sz_9 rfl rfl (by omega) (by omega) (by first | rfl | omega) ?_ | refine op_indexAddr rfl el_97 sz_9 rfl rfl (by omega) (by omega) ?_
              first | refine op_ldb rfl ag_9 rfl H (by first | exact at0 | exact at1 | exact at2 | exact at3 | exact at4 | exact at5 | exact at6 | exact at7 | exact at8 | exact at9) rfl ?_ | refine op_ld rfl ag_9 rfl (hcell0) ?_ | refine op_ld rfl ag_9 rfl (hcell1) ?_ | refine op_ld rfl ag_9 rfl ((hRb _ hx2).one (f := fun x => .int .i64 x) hx) ?_ | refine op_ld rfl ag_9 rfl (Rl.one (f := str) hb) ?_
              refine op_assign rfl (.string _) rfl ?_
              refine op_nil (at_then ?_)
              refine W_region ?_
              refine op_move rfl (.pointer _) rfl ?_
              refine op_nilCheck rfl rfl ?_
              refine op_fieldAddr rfl fo_96_0 rfl ?_
              first | refine op_ldb rfl ag_94 rfl H (by first | exact at0 | exact at1 | exact at2 | exact at3 | exact at4 | exact at5 | exact at6 | exact at7 | exact at8 | exact at9) rfl ?_ | refine op_ld rfl ag_94 rfl (hcell0) ?_ | refine op_ld rfl ag_94 rfl (hcell1) ?_ | refine op_ld rfl ag_94 rfl ((hRb _ hx2).one (f := fun x => .int .i64 x) hx) ?_ | refine op_ld rfl ag_94 rfl (Rl.one (f := str) hb) ?_
              refine op_move rfl (.int _ _) rfl ?_
              refine op_move rfl (.string _) rfl ?_
              refine op_buildS [str b, .slice none 0 0] rfl pl_99 zc_99 (by kernel_rfl) ?_
              first | refine op_indexRd (hRb _ hx2) rfl el_94 sz_99 rfl rfl (by omega) (by omega) (by first | rfl | omega) ?_ | refine op_indexRd Rl rfl el_94 sz_99 rfl rfl (by omega) (by omega) (by first | rfl | omega) ?_ | refine op_indexAddr rfl el_94 sz_99 rfl rfl (by omega) (by omega) ?_
              refine op_stbN (vs := [str b, .slice none 0 0]) rfl sz_99 rfl rfl rfl (one_pair _) (Ctx.start1 D2.hb) at0 (by omega) ?_
              rintro w H9
              refine op_nil (at_block (at_then ?_))
              refine W_region ?_
              refine op_move rfl (.int _ _) rfl ?_
              refine op_add_i64 rfl rfl rfl (by omega) (by omega) ?_
              refine op_assign rfl (.int _ _) rfl ?_
              refine op_nil (at_then ?_)
              exact ⟨i + 1, rfl, ⟨rfl, congrArg (Value.int .i64) (by rw [hcs]; omega), trivial⟩, fin b hk _ H9.ext (H9.get at0), by omega⟩
            · intro h5
              replace h5 := dec_f h5
              have hk : kept p (pickN p (picks.drop (cntL (A.B.take i)))) = p.1 := by rw [kept, if_pos (by omega)]
              refine W_skip (at_then ?_)
              refine W_region ?_
              refine op_move rfl (.pointer _) rfl ?_
              refine op_nilCheck rfl rfl ?_
              refine op_fieldAddr rfl fo_96_0 rfl ?_
              first | refine op_ldb rfl ag_94 rfl H (by first | exact at0 | exact at1 | exact at2 | exact at3 | exact at4 | exact at5 | exact at6 | exact at7 | exact at8 | exact at9) rfl ?_ | refine op_ld rfl ag_94 rfl (hcell0) ?_ | refine op_ld rfl ag_94 rfl (hcell1) ?_ | refine op_ld rfl ag_94 rfl ((hRb _ hx2).one (f := fun x => .int .i64 x) hx) ?_ | refine op_ld rfl ag_94 rfl (Rl.one (f := str) hb) ?_
              refine op_move rfl (.int _ _) rfl ?_
              refine op_move rfl (.string _) rfl ?_
              refine op_buildS [str p.1, .slice none 0 0] rfl pl_99 zc_99 (by kernel_rfl) ?_
              first | refine op_indexRd (hRb _ hx2) rfl el_94 sz_99 rfl rfl (by omega) (by omega) (by first | rfl | omega) ?_ | refine op_indexRd Rl rfl el_94 sz_99 rfl rfl (by omega) (by omega) (by first | rfl | omega) ?_ | refine op_indexAddr rfl el_94 sz_99 rfl rfl (by omega) (by omega) ?_
              refine op_stbN (vs := [str p.1, .slice none 0 0]) rfl sz_99 rfl rfl rfl (one_pair _) (Ctx.start1 D2.hb) at0 (by omega) ?_
              rintro w H9
              refine op_nil (at_block (at_then ?_))
              refine W_region ?_
              refine op_move rfl (.int _ _) rfl ?_
              refine op_add_i64 rfl rfl rfl (by omega) (by omega) ?_
              refine op_assign rfl (.int _ _) rfl ?_
              refine op_nil (at_then ?_)
              exact ⟨i + 1, rfl, ⟨rfl, congrArg (Value.int .i64) (by rw [hcs]; omega), trivial⟩, fin p.1 hk _ H9.ext (H9.get at0), by omega⟩
          · intro h4
            replace h4 := dec_f h4
            have hdr : picks.drop (cntL (A.B.take i)) = [] := List.drop_eq_nil_of_le (by omega)
            refine W_skip (at_then ?_)
            refine W_rseq ?_
            refine op_move rfl (.int _ _) rfl ?_
            refine op_add_i64 rfl rfl rfl (by omega) (by omega) ?_
            refine op_assign rfl (.int _ _) rfl ?_
            refine op_nil (at_then ?_)
            refine W_rseq ?_
            refine op_move rfl (.pointer _) rfl ?_
            refine op_nilCheck rfl rfl ?_
            refine op_fieldAddr rfl fo_96_0 rfl ?_
            first | refine op_ldb rfl ag_94 rfl H (by first | exact at0 | exact at1 | exact at2 | exact at3 | exact at4 | exact at5 | exact at6 | exact at7 | exact at8 | exact at9) rfl ?_ | refine op_ld rfl ag_94 rfl (hcell0) ?_ | refine op_ld rfl ag_94 rfl (hcell1) ?_ | refine op_ld rfl ag_94 rfl ((hRb _ hx2).one (f := fun x => .int .i64 x) hx) ?_ | refine op_ld rfl ag_94 rfl (Rl.one (f := str) hb) ?_
            refine op_move rfl (.int _ _) rfl ?_
            first | refine op_indexRd (hRb _ hx2) rfl el_94 sz_99 rfl rfl (by omega) (by omega) (by first | rfl | omega) ?_ | refine op_indexRd Rl rfl el_94 sz_99 rfl rfl (by omega) (by omega) (by first | rfl | omega) ?_ | refine op_indexAddr rfl el_94 sz_99 rfl rfl (by omega) (by omega) ?_
            refine op_fieldAddr rfl fo_99_0 rfl ?_
            first | refine op_ldb rfl ag_9 rfl H (by first | exact at0 | exact at1 | exact at2 | exact at3 | exact at4 | exact at5 | exact at6 | exact at7 | exact at8 | exact at9) rfl ?_ | refine op_ld rfl ag_9 rfl (hcell0) ?_ | refine op_ld rfl ag_9 rfl (hcell1) ?_ | refine op_ld rfl ag_9 rfl ((hRb _ hx2).one (f := fun x => .int .i64 x) hx) ?_ | refine op_ld rfl ag_9 rfl (Rl.one (f := str) hb) ?_
            refine op_assign rfl (.string _) rfl ?_
            refine op_nil (at_then ?_)
            refine W_seq ?_
            refine W_rseq ?_
            refine op_move rfl (.int _ _) rfl ?_
            refine op_gtr rfl rfl rfl ?_
            refine op_nil (at_then ?_)
            refine W_cond _ rfl ?_ ?_
            · intro h5
              replace h5 := dec_t h5
              exact absurd h5 (by omega)
            · intro h5
              replace h5 := dec_f h5
              have hk : kept p (pickN p (picks.drop (cntL (A.B.take i)))) = p.1 := by rw [hdr]; rfl
              refine W_skip (at_then ?_)
              refine W_region ?_
              refine op_move rfl (.pointer _) rfl ?_
              refine op_nilCheck rfl rfl ?_
              refine op_fieldAddr rfl fo_96_0 rfl ?_
              first | refine op_ldb rfl ag_94 rfl H (by first | exact at0 | exact at1 | exact at2 | exact at3 | exact at4 | exact at5 | exact at6 | exact at7 | exact at8 | exact at9) rfl ?_ | refine op_ld rfl ag_94 rfl (hcell0) ?_ | refine op_ld rfl ag_94 rfl (hcell1) ?_ | refine op_ld rfl ag_94 rfl ((hRb _ hx2).one (f := fun x => .int .i64 x) hx) ?_ | refine op_ld rfl ag_94 rfl (Rl.one (f := str) hb) ?_
              refine op_move rfl (.int _ _) rfl ?_
              refine op_move rfl (.string _) rfl ?_
              refine op_buildS [str p.1, .slice none 0 0] rfl pl_99 zc_99 (by kernel_rfl) ?_
              first | refine op_indexRd (hRb _ hx2) rfl el_94 sz_99 rfl rfl (by omega) (by omega) (by first | rfl | omega) ?_ | refine op_indexRd Rl rfl el_94 sz_99 rfl rfl (by omega) (by omega) (by first | rfl | omega) ?_ | refine op_indexAddr rfl el_94 sz_99 rfl rfl (by omega) (by omega) ?_
              refine op_stbN (vs := [str p.1, .slice none 0 0]) rfl sz_99 rfl rfl rfl (one_pair _) (Ctx.start1 D2.hb) at0 (by omega) ?_
              rintro w H9
              refine op_nil (at_block (at_then ?_))
              refine W_region ?_
              refine op_move rfl (.int _ _) rfl ?_
              refine op_add_i64 rfl rfl rfl (by omega) (by omega) ?_
              refine op_assign rfl (.int _ _) rfl ?_
              refine op_nil (at_then ?_)
              exact ⟨i + 1, rfl, ⟨rfl, congrArg (Value.int .i64) (by rw [hcs]; omega), trivial⟩, fin p.1 hk _ H9.ext (H9.get at0), by omega⟩
      · intro h2
        replace h2 := dec_f h2
        have h2' : ¬ (i : Int) < ((keepI A.B picks i).length : Int) := h2
        rw [keepI_len] at h2'
        have hin : i = A.B.length := by omega
        subst hin
        have hon : onD A picks = ⟨keepI A.B picks A.B.length, -1, true⟩ := by rw [onD, ho, keepI_all]; rfl
        refine W_exit (exit_then (exit_then (exit_here (at_then ?_))))
        refine W_rseq ?_
        refine op_move rfl (.pointer _) rfl ?_
        refine op_nilCheck rfl rfl ?_
        refine op_fieldAddr rfl fo_96_2 rfl ?_
        refine op_stb (.bool _) rfl sz_4 rfl rfl rfl H (by first | exact at0 | exact at1 | exact at2 | exact at3 | exact at4 | exact at5 | exact at6 | exact at7 | exact at8 | exact at9) (by first | decide | (simp; done) | (simp; omega)) ?_
        rintro w H
        refine op_nil (at_then ?_)
        refine W_rseq ?_
        refine op_move rfl (.pointer _) rfl ?_
        refine op_nilCheck rfl rfl ?_
        refine op_fieldAddr rfl fo_96_1 rfl ?_
        refine op_stb (.int _ _) rfl sz_3 rfl rfl rfl H (by first | exact at0 | exact at1 | exact at2 | exact at3 | exact at4 | exact at5 | exact at6 | exact at7 | exact at8 | exact at9) (by first | decide | (simp; done) | (simp; omega)) ?_
        rintro w H
        refine op_nil (at_then ?_)
        refine W_rseq ?_
        refine op_assign rfl (.int _ _) rfl ?_
        refine op_nil (at_then ?_)
        refine W_ret (leave1 (v := (.int _ _)) rfl rfl rfl ?_)
        have D4 := D2.turn (A' := onD A picks) H.ext (by rw [hon]; exact H.get at0) (by rw [hon]) (on_wf D.wf picks)
        refine ⟨by rw [onE, ho]; rfl, ⟨role, bb, cb, full', D4, hF⟩, .of (S := [rd, bb]) ((hx2.mono (by simp)).trans (H.ext.mono (by simp))) fun x h => ?_⟩
        simp only [List.mem_cons, List.not_mem_nil, or_false] at h
        rcases h with rfl | rfl
        · exact hF1
        · exact hF2

end Go.Proofs.YtkmbcpgnafmnpaaDoor

/- The reference's device is made; its roots. -/
namespace Go.Proofs.YtkmbcpgnafmnpaaDoor
open Go.GV
attribute [local irreducible] Wops W Wq Wt

theorem zeros_len : zeros.length = 512 := List.length_replicate
def cellsN (i : Nat) : List Value := (List.replicate i [str zeros, Value.slice none 0 0]).flatten
theorem cellsN_succ (i : Nat) : cellsN (i + 1) = cellsN i ++ [str zeros, .slice none 0 0] := by
  unfold cellsN
  rw [List.replicate_succ', List.flatten_append]
  simp
theorem cellsN_get {n i : Nat} (h : i < n) : (cellsN n)[2 * i]? = some (str zeros) ∧ (cellsN n)[2 * i + 1]? = some (.slice none 0 0) := by
  have hlen : ∀ n, (cellsN n).length = 2 * n := fun n => by
    induction n with
    | zero => rfl
    | succ n ih => rw [cellsN_succ, List.length_append, ih]; simp; omega
  induction n with
  | zero => omega
  | succ n ih =>
    rw [cellsN_succ]
    by_cases hi : i < n
    · rw [List.getElem?_append_left (by rw [hlen]; omega), List.getElem?_append_left (by rw [hlen]; omega)]
      exact ih hi
    · have : i = n := by omega
      subst this
      rw [List.getElem?_append_right (by rw [hlen]; omega), List.getElem?_append_right (by rw [hlen]; omega), hlen]
      rw [show 2 * i - 2 * i = 0 by omega, show 2 * i + 1 - 2 * i = 1 by omega]
      exact ⟨rfl, rfl⟩

set_option maxRecDepth 20000 in
set_option maxHeartbeats 1000000 in
theorem rnew_ok (n : Int) (w : World) :
    Ret Tryd.prog 18 #[.int .i64 n] w fun v w' => Ext [] w w' ∧ ((newE n = 1 ∧ v = .tuple #[.pointer none, .int .i64 1]) ∨
      (newE n = 0 ∧ 1 ≤ n ∧ n ≤ 4096 ∧ ∃ rd, v = .tuple #[ptr rd, .int .i64 0] ∧ RefAt w' rd (newD n.toNat) fun x => w.heap.size ≤ x ∧ x < w'.heap.size)) := by
  obtain ⟨w0, rfl⟩ : ∃ w0, w0 = w := ⟨_, rfl⟩
  have H := Ctx.start w0 []
  refine ret_of_W (fn := Tryd.f18) Tryd.func18 rfl [.int .i64 n] rfl (by kernel_rfl) ?_
  refine W_rseq ?_
  refine op_assign rfl (.pointer _) rfl ?_
  refine op_assign rfl (.int _ _) rfl ?_
  refine op_nil (at_then ?_)
  refine W_seq ?_
  refine W_rseq (Wops_join (α := Unit) 8064 (fun _ => [(12, .bool (decide (n < 1) || decide (4096 < n)))]) (fun _ w' => Ctx w0 [] w' []) rfl ?_ ?_)
  · refine op_move rfl (.int _ _) rfl ?_
    refine op_lss rfl rfl rfl ?_
    refine op_move rfl (.bool _) rfl ?_
    refine Wops_split 9 rfl ?_ ?_
    · intro h1
      replace h1 := dec_t h1
      refine op_skip rfl ?_
      refine op_skip rfl ?_
      refine op_pick1 rfl rfl (.bool _) rfl ?_
      refine op_nil ?_
      exact ⟨rfl, (), rfl, ⟨congrArg Value.bool (by rw [Bool.eq_iff_iff]; simp_all; try omega), trivial⟩, H⟩
    · intro h2
      replace h2 := dec_f h2
      refine op_move rfl (.int _ _) rfl ?_
      refine op_gtr rfl rfl rfl ?_
      refine op_pick0 rfl rfl (.bool _) rfl ?_
      refine op_nil ?_
      exact ⟨rfl, (), rfl, ⟨congrArg Value.bool (by rw [Bool.eq_iff_iff]; simp_all; try omega), trivial⟩, H⟩
  rintro - j12 w H
  refine W_cond _ rfl ?_ ?_
  · intro h1
    refine W_rseq ?_
    refine op_assign rfl (.pointer _) rfl ?_
    refine op_assign rfl (.int _ _) rfl ?_
    refine op_nil (at_then ?_)
    refine W_ret (ret_then (leave2 (v1 := (.pointer _)) (v2 := (.int _ _)) rfl rfl rfl rfl ?_))
    exact ⟨H.ext, .inl ⟨by rw [newE, h1]; rfl, rfl⟩⟩
  · intro h1
    have h2 : 1 ≤ n ∧ n ≤ 4096 := by simp only [Bool.or_eq_false_iff, decide_eq_false_iff_not] at h1; omega
    obtain ⟨m, rfl⟩ : ∃ m : Nat, n = m := ⟨n.toNat, by omega⟩
    refine W_skip (at_then ?_)
    refine W_rseq ?_
    refine op_buildS [.slice none 0 0, .int .i64 (-1), .bool true] rfl pl_96 zc_96 (by kernel_rfl) ?_
    refine op_box rfl _ (.agg _) rfl rfl H ?_
    rintro b14 w - H
    refine op_assign rfl (.pointer _) rfl ?_
    refine op_nil (at_then ?_)
    refine W_rseq ?_
    refine op_make rfl el_23 sz_5 by_5 zc_5 rfl rfl (by omega) (by omega) (by omega) (by omega) H ?_
    rintro b15 w - H
    have Rz : Rd w (some ⟨b15, 0, none⟩) 1 B8 zeros := rd_blB (t := 5) (by have := H.get at0; rw [show (zeros.map bv) = List.replicate 512 (Value.int .u8 0) from by rw [zeros, List.map_replicate]; rfl]; exact this)
    refine op_back rfl el_23 un_5 un_9 (show _ = Value.slice (some ⟨b15, 0, none⟩) zeros.length 512 from by rw [zeros_len]; rfl) Rz ?_
    replace H := H.tail
    refine op_assign rfl (.string _) rfl ?_
    refine op_nil (at_then ?_)
    refine W_seq ?_
    refine W_rseq ?_
    refine op_assign rfl (.int _ _) rfl ?_
    refine op_nil (at_then ?_)
    refine W_block ?_
    refine W_loop 8589803584 (α := Nat × Option Addr × Nat × List Value) (fun x => [(6, .int .i64 x.1)]) (fun x w' => x.1 ≤ m ∧ Ctx w0 [] w' ([(b14, Bl TR [.slice x.2.1 x.1 x.2.2.1, .int .i64 (-1), .bool true])] ++ ent x.2.1 99 x.2.2.2) ∧ OS x.2.1 x.1 x.2.2.1 2 x.2.2.2 (cellsN x.1)) (fun x => m - x.1) (0, none, 0, []) rfl ?_ ?_ ?_
    · exact ⟨rfl, trivial⟩
    · exact ⟨Nat.zero_le _, H, OS.nil⟩
    · rintro ⟨i, a5, c5, full5⟩ j w ⟨hi, H, O⟩; dsimp only at hi H O; dsimp only
      refine W_seq ?_
      refine W_rseq ?_
      refine op_move rfl (.int _ _) rfl ?_
      refine op_move rfl (.int _ _) rfl ?_
      refine op_lss rfl rfl rfl ?_
      refine op_nil (at_then ?_)
      refine W_cond _ rfl ?_ ?_
      · intro h3
        replace h3 := dec_t h3
        refine W_skip (at_then ?_)
        refine W_seq ?_
        refine W_block ?_
        refine W_region ?_
        refine op_move rfl (.pointer _) rfl ?_
        refine op_move rfl (.pointer _) rfl ?_
        refine op_nilCheck rfl rfl ?_
        refine op_fieldAddr rfl fo_96_0 rfl ?_
        refine op_ldb rfl ag_94 rfl H (by first | exact at0 | exact at1 | exact at2 | exact at3 | exact at4 | exact at5 | exact at6 | exact at7 | exact at8 | exact at9) rfl ?_
        refine op_move rfl (.string _) rfl ?_
        refine op_buildS [str zeros, .slice none 0 0] rfl pl_99 zc_99 (by kernel_rfl) ?_
        refine op_buildL [str zeros, .slice none 0 0] rfl el_94 sz_99 zc_99 (by decide) (by decide) (by kernel_rfl) H ?_
        rintro b29 w - H
        refine op_appendb (L := [(b14, Bl TR [.slice a5 i c5, .int .i64 (-1), .bool true])]) rfl el_94 el_94 sz_99 by_99 zc_99 rfl (by decide) rfl rfl H O rfl (one_pair _) (by omega) ?_
        rintro a9 c9 full9 w H O
        refine op_nilCheck rfl rfl ?_
        refine op_fieldAddr rfl fo_96_0 rfl ?_
        refine op_stb (.slice _ _ _) rfl sz_94 rfl rfl rfl H (by first | exact at0 | exact at1 | exact at2 | exact at3 | exact at4 | exact at5 | exact at6 | exact at7 | exact at8 | exact at9) (by first | decide | (simp; done) | (simp; omega)) ?_
        rintro w H
        refine op_nil (at_block (at_then ?_))
        refine W_region ?_
        refine op_move rfl (.int _ _) rfl ?_
        refine op_add_i64 rfl rfl rfl (by omega) (by omega) ?_
        refine op_assign rfl (.int _ _) rfl ?_
        refine op_nil (at_then ?_)
        exact ⟨(i + 1, a9, c9, full9), rfl, ⟨rfl, trivial⟩, ⟨by omega, H, by rw [cellsN_succ]; exact O⟩, by dsimp only; omega⟩
      · intro h3
        replace h3 := dec_f h3
        have him : i = m := by omega
        subst him
        obtain ⟨bb, rfl⟩ := O.form (by omega)
        refine W_exit (exit_then (exit_then (exit_here (at_then ?_))))
        refine W_rseq ?_
        refine op_move rfl (.pointer _) rfl ?_
        refine op_assign rfl (.pointer _) rfl ?_
        refine op_assign rfl (.int _ _) rfl ?_
        refine op_nil (at_then ?_)
        refine W_ret (leave2 (v1 := (.pointer _)) (v2 := (.int _ _)) rfl rfl rfl rfl ?_)
        have hin : (bb, Bl TB full5) ∈ [(b14, Bl TR [.slice (some ⟨bb, 0, none⟩) i c5, .int .i64 (-1), .bool true])] ++ ent (some ⟨bb, 0, none⟩) 99 full5 := List.mem_append_right _ (by rw [mem_ent rfl]; exact List.mem_singleton.2 rfl)
        have hne : b14 ≠ bb := H.ne (i := 0) (j := 1) at0 at1 (by decide)
        have o1 : w0.heap.size ≤ b14 := (H.own _ (List.mem_cons_self ..)).elim (fun h => by cases h) id
        have o2 : w0.heap.size ≤ bb := (H.own _ hin).elim (fun h => by cases h) id
        have hr : ∀ x, (if x = b14 then 1 else if x = bb then 2 else 0) ≠ 0 → w0.heap.size ≤ x ∧ x < w.heap.size := by
          intro x hx
          by_cases h14 : x = b14
          · rw [h14]; exact ⟨o1, H.lt at0⟩
          · by_cases h11 : x = bb
            · rw [h11]; exact ⟨o2, heap_lt (H.blk _ hin)⟩
            · rw [if_neg h14, if_neg h11] at hx; exact absurd rfl hx
        have hln : (newD i).B.length = i := List.length_replicate
        refine ⟨H.ext, .inr ⟨by rw [newE, h1]; rfl, h2.1, h2.2, b14, rfl, fun x => if x = b14 then 1 else if x = bb then 2 else 0, bb, c5, full5, ⟨fun x h => (hr x h).2, if_pos rfl, ?_, ?_, H.blk _ hin, O.len, by rw [show ((i : Int)).toNat = i from rfl, hln]; exact O.le, fun k p hp => ?_, new_wf (by omega) (by omega)⟩, hr⟩⟩
        · rw [if_neg (Ne.symm hne), if_pos rfl]
        · rw [show ((i : Int)).toNat = i from rfl, hln]; exact H.get at0
        · obtain ⟨hk, rfl⟩ := List.getElem?_eq_some_iff.1 hp
          have hk' : k < i := by rw [show ((i : Int)).toNat = i from rfl, hln] at hk; exact hk
          have hpe : (newD ((i : Int)).toNat).B[k] = (zeros, []) := List.getElem_replicate _
          rw [hpe]
          obtain ⟨g0, g1⟩ := cellsN_get hk'
          have hsp := O.split
          have hll := O.llen
          exact ⟨by rw [hsp, List.getElem?_append_left (by omega)]; exact g0, .slice none 0 0, by rw [hsp, List.getElem?_append_left (by omega)]; exact g1, none, 0, 0, [], rfl, OS.nil, by simp [ent]⟩

end Go.Proofs.YtkmbcpgnafmnpaaDoor
