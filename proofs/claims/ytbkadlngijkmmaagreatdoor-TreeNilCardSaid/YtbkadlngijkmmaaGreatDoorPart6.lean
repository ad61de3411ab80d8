/- Part 6 of the proof. -/
import Derived.Test.YtbkadlngijkmmaaGreatDoorPart5
/- A tree in memory: its device, its pages; what it reads. -/
namespace Go.Proofs.YtbkadlngijkmmaaGreatDoor
open Go.GV
theorem ag_116_TrJ : aggB Tryz.prog 116 = some true := by kernel_rfl
theorem ag_33_TrJ : aggB Tryz.prog 33 = some false := by kernel_rfl
theorem ca_123_TrJ : callable Tryz.prog 123 = true := by kernel_rfl
theorem ca_124_TrJ : callable Tryz.prog 124 = true := by kernel_rfl
theorem ca_69_TrJ : callable Tryz.prog 69 = true := by kernel_rfl
theorem fo_146_0_TrJ : fieldO Tryz.prog 146 0 = some 0 := by kernel_rfl
theorem fo_146_1_TrJ : fieldO Tryz.prog 146 1 = some 1 := by kernel_rfl
theorem fo_146_2_TrJ : fieldO Tryz.prog 146 2 = some 2 := by kernel_rfl
theorem pl_116_TrJ : placesB Tryz.prog 116 = some [(0, 1), (1, 1)] := by kernel_rfl
theorem sz_116_TrJ : tsize Tryz.prog 116 = some 2 := by kernel_rfl
theorem zc_116_TrJ : zcells Tryz.prog 116 = some ([.bool false, .slice none 0 0]) := by kernel_rfl
attribute [local irreducible] Wops W Wq Wt

theorem Its.past {w w1 w2 : World} {a : Option Addr} {n c : Nat} {L : List It} {S : List Nat} (I : Its w (Old w1) a n c L) (he : Ext S w w2) (hS : ∀ x ∈ S, x < w1.heap.size) : Its w2 (Old w1) a n c L :=
  I.turn ⟨⟨S, hS, he⟩, fun _ h => .inl h⟩
def TT : Nat := 146
def TreeB (bd bp fr : Nat) : List Value := [ptr bd, ptr bp, .int .i64 (fr : Int)]
/-- A tree, its pages, its device, and blocks of one's own. -/
structure Tx (w : World) (bt bd bp ba fr : Nat) (A : Dev) (P : List Nat) (F : Mut) (L : List (Nat × Obj)) : Prop where
  tr : w.heap[bt]? = some (Bl TT (TreeB bd bp fr))
  pg : PgAt w bp ba P
  dev : DevAt w bd A F
  blk : ∀ x ∈ L, w.heap[x.1]? = some x.2
  nd : L.Pairwise fun x y => x.1 ≠ y.1
  off : ∀ x ∈ L, ¬ F x.1 ∧ x.1 ≠ ba ∧ x.1 ≠ bt ∧ x.1 ≠ bp
  nbt : ¬ F bt ∧ bt ≠ ba
  nbp : ¬ F bp
  nba : ¬ F ba
  lt : ∀ x, F x → x < w.heap.size
/-- What may turn. -/
def TM (F : Mut) (ba bt bp : Nat) (L : List (Nat × Obj)) : Mut := fun x => F x ∨ x = ba ∨ x = bt ∨ x = bp ∨ x ∈ L.map (·.1)
section
variable {w w' : World} {bt bd bp ba fr : Nat} {A A' : Dev} {P P' : List Nat} {F F' : Mut} {L L' : List (Nat × Obj)}
theorem Tx.mlt (T : Tx w bt bd bp ba fr A P F L) : ∀ x, TM F ba bt bp L x → x < w.heap.size := fun x h => by
  rcases h with h | rfl | rfl | rfl | h
  · exact T.lt x h
  · exact heap_lt T.pg.st
  · exact heap_lt T.tr
  · exact heap_lt T.pg.hd
  · obtain ⟨y, hy, rfl⟩ := List.mem_map.1 h
    exact heap_lt (T.blk y hy)
theorem Tx.ids (T : Tx w bt bd bp ba fr A P F L) : ∀ x ∈ L.map (·.1), ¬ F x ∧ x ≠ ba ∧ x ≠ bt ∧ x ≠ bp := fun x h => by
  obtain ⟨y, hy, rfl⟩ := List.mem_map.1 h
  exact T.off y hy
/-- One's own blocks turn, and new ones come. -/
theorem Tx.own (T : Tx w bt bd bp ba fr A P F L) (H : Ctx w (L.map (·.1)) w' L') : Tx w' bt bd bp ba fr A P F L' ∧ Grown (TM F ba bt bp L) (TM F ba bt bp L') w w' := by
  have hi := T.ids
  have hs := H.ext.size
  have hnew : ∀ x ∈ L', ¬ F x.1 ∧ x.1 ≠ ba ∧ x.1 ≠ bt ∧ x.1 ≠ bp := fun x hx => by
    rcases H.own x hx with h | h
    · exact hi _ h
    · exact ⟨fun hf => by have := T.lt _ hf; omega, fun e => by have := heap_lt T.pg.st; omega, fun e => by have := heap_lt T.tr; omega, fun e => by have := heap_lt T.pg.hd; omega⟩
  refine ⟨⟨?_, T.pg.keep H.ext (fun h => (hi _ h).2.2.2 rfl) (fun h => (hi _ h).2.1 rfl), T.dev.keep H.ext fun x h hf => (hi x h).1 hf, H.blk, H.nd, hnew, T.nbt, T.nbp, T.nba, fun x h => by have := T.lt x h; omega⟩, ⟨⟨L.map (·.1), fun x h => .inr (.inr (.inr (.inr h))), H.ext⟩, fun x h => ?_⟩⟩
  · rw [H.ext.block bt (heap_lt T.tr) fun h => (hi _ h).2.2.1 rfl]; exact T.tr
  · rcases h with h | h | h | h | h
    · exact .inl (.inl h)
    · exact .inl (.inr (.inl h))
    · exact .inl (.inr (.inr (.inl h)))
    · exact .inl (.inr (.inr (.inr (.inl h))))
    · obtain ⟨y, hy, rfl⟩ := List.mem_map.1 h
      exact (H.own y hy).imp (fun h => .inr (.inr (.inr (.inr h)))) id
theorem Tx.ctx (T : Tx w bt bd bp ba fr A P F L) : Ctx w (L.map (·.1)) w L := Ctx.startL T.blk T.nd
theorem Tx.call (T : Tx w bt bd bp ba fr A P F L) (hx : Ext [] w w') : Tx w' bt bd bp ba fr A P F L := (T.own (T.ctx.call hx)).1
theorem Grown.call0 {F : Mut} (hx : Ext [] w w') : Grown F F w w' := ⟨.of0 hx, fun _ h => .inl h⟩
theorem Tx.page (T : Tx w bt bd bp ba fr A P F L) (h : PgAt w' bp ba P') (hx : Ext [ba] w w') : Tx w' bt bd bp ba fr A P' F L ∧ Grown (TM F ba bt bp L) (TM F ba bt bp L) w w' := by
  have hs := hx.size
  refine ⟨⟨?_, h, T.dev.keep hx fun x h hf => by rw [List.mem_singleton.1 h] at hf; exact T.nba hf, fun x hm => ?_, T.nd, T.off, T.nbt, T.nbp, T.nba, fun x h => by have := T.lt x h; omega⟩, ⟨⟨[ba], fun x h => .inr (.inl (List.mem_singleton.1 h)), hx⟩, fun x h => .inl h⟩⟩
  · rw [hx.block bt (heap_lt T.tr) (by simpa using T.nbt.2)]; exact T.tr
  · rw [hx.block x.1 (heap_lt (T.blk x hm)) (by simpa using (T.off x hm).2.1)]; exact T.blk x hm
theorem Tx.devs (T : Tx w bt bd bp ba fr A P F L) (h : DevAt w' bd A' F') (t : Turn F w w') (hF : ∀ x, F' x → F x ∨ (w.heap.size ≤ x ∧ x < w'.heap.size)) : Tx w' bt bd bp ba fr A' P F' L ∧ Grown (TM F ba bt bp L) (TM F' ba bt bp L) w w' := by
  obtain ⟨S, hS, hx⟩ := t
  have hs := hx.size
  have hno : ∀ x, x < w.heap.size → ¬ F x → ¬ F' x := fun x h1 h2 h3 => (hF x h3).elim h2 fun h => by omega
  have hb := heap_lt T.tr; have hp := heap_lt T.pg.hd; have ha := heap_lt T.pg.st
  refine ⟨⟨?_, T.pg.keep hx (fun h => T.nbp (hS _ h)) (fun h => T.nba (hS _ h)), h, fun x hm => ?_, T.nd, fun x hm => ⟨hno _ (heap_lt (T.blk x hm)) (T.off x hm).1, (T.off x hm).2⟩, ⟨hno _ hb T.nbt.1, T.nbt.2⟩, hno _ hp T.nbp, hno _ ha T.nba, fun x h => ?_⟩, ⟨⟨S, fun x h => .inl (hS x h), hx⟩, fun x h => ?_⟩⟩
  · rw [hx.block bt hb fun h => T.nbt.1 (hS _ h)]; exact T.tr
  · rw [hx.block x.1 (heap_lt (T.blk x hm)) fun h => (T.off x hm).1 (hS _ h)]; exact T.blk x hm
  · rcases hF x h with h | h
    · have := T.lt x h; omega
    · exact h.2
  · rcases h with h | h
    · exact (hF x h).imp .inl And.left
    · exact .inl (.inr h)
end

/-- What is read of a page that lies so deep. -/
def readT (A : Dev) (fr sz : Nat) (page depth : Int) : Int × Option (Bool × List It) :=
  if 16 < depth ∨ page < 0 ∨ (sz : Int) ≤ page then (9, none)
  else if readE A ((fr : Int) + page) = 0 then (match parseO (readB A ((fr : Int) + page)) with | none => (9, none) | some n => (0, some n))
  else (readE A ((fr : Int) + page), none)
theorem readB_len {A : Dev} (h : Wf A) (k : Int) : (readB A k).length ≤ 512 := by
  unfold readB
  by_cases h0 : readE A k = 0
  · rw [decide_eq_true h0, cond_true]
    unfold readE at h0
    cases ho : A.on with
    | false => rw [ho] at h0; cases h0
    | true =>
      cases hh : A.has k with
      | false => rw [ho, hh] at h0; cases h0
      | true =>
        have hl : k.toNat < A.B.length := by simp only [Dev.has, Bool.and_eq_true, decide_eq_true_eq] at hh; omega
        have hm := getD_mem (d := (zeros, ([] : List Byt))) hl
        unfold stands
        cases hg : (A.B.getD k.toNat (zeros, [])).2.getLast? with
        | none => rw [Option.getD_none, h.sure _ hm]; exact Nat.le_refl _
        | some b => rw [Option.getD_some, h.loose _ hm b (List.mem_of_getLast? hg)]; exact Nat.le_refl _
  · rw [decide_eq_false h0]; exact Nat.zero_le _

section
variable {w : World} {bt bd bp ba fr : Nat} {A : Dev} {P : List Nat} {F : Mut} {L : List (Nat × Obj)}
set_option maxRecDepth 20000 in
set_option maxHeartbeats 4000000 in
theorem read7_ok (T : Tx w bt bd bp ba fr A P F L) (hfr : fr ≤ 5000) (page depth : Int) (hp : -9223372036854775808 ≤ page ∧ page ≤ 9223372036854775807) {mx : Nat} (hfew : Few A mx) (hmx : mx ≤ 1000000000) :
    Ret Tryz.prog 66 #[ptr bt, .int .i64 page, .int .i64 depth] w fun v w' => ∃ (inner : Bool) (a : Option Addr) (n c : Nat), v = .tuple #[.agg #[.bool inner, .slice a n c], .int .i64 (readT A fr P.length page depth).1] ∧ Ext [] w w' ∧ ∀ i M, (readT A fr P.length page depth).2 = some (i, M) → inner = i ∧ Its w' (Old w) a n c M ∧ ∀ x ∈ M, x.key.length ≤ 505 ∧ x.val.length ≤ 505 ∧ x.page < 4294967296 := by
  obtain ⟨w0, rfl⟩ : ∃ w0, w0 = w := ⟨_, rfl⟩
  have H := Ctx.start w0 []
  have hlen := T.pg.len
  obtain ⟨rd, hrd⟩ : ∃ rd, rd = readT A fr P.length page depth := ⟨_, rfl⟩
  rw [← hrd]
  unfold readT at hrd
  refine ret_of_W (fn := Tryz.f66) Tryz.func66 rfl [.pointer (some ⟨bt, 0, none⟩), .int .i64 page, .int .i64 depth] rfl (by kernel_rfl) ?_
  refine W_rseq ?_
  refine op_alloc rfl zc_116_TrJ H ?_
  rintro b6 w - H
  refine op_assign rfl (.int _ _) rfl ?_
  refine op_nil (at_then ?_)
  refine W_seq ?_
  refine W_rseq (Wops_join (α := Unit) 134213632 (fun _ => [(26, .bool (decide (16 < depth) || (decide (page < 0) || decide ((P.length : Int) ≤ page))))]) (fun _ w' => Ctx w0 [] w' [(b6, Bl 116 [.bool false, .slice none 0 0])]) rfl ?_ ?_)
  · refine op_move rfl (.int _ _) rfl ?_
    refine op_gtr rfl rfl rfl ?_
    refine op_move rfl (.bool _) rfl ?_
    refine Wops_split 14 rfl ?_ ?_
    · intro h1
      replace h1 := dec_t h1
      refine op_skip rfl ?_
      refine op_skip rfl ?_
      refine op_pick1 rfl rfl (.bool _) rfl ?_
      refine op_move rfl (.bool _) rfl ?_
      refine op_skip rfl ?_
      refine op_skip rfl ?_
      refine op_skip rfl ?_
      refine op_skip rfl ?_
      refine op_skip rfl ?_
      refine op_skip rfl ?_
      refine op_skip rfl ?_
      refine op_pick1 rfl rfl (.bool _) rfl ?_
      refine op_nil ?_
      exact ⟨rfl, (), rfl, ⟨congrArg Value.bool (by rw [Bool.eq_iff_iff]; simp; omega), trivial⟩, H⟩
    · intro h2
      replace h2 := dec_f h2
      refine op_move rfl (.int _ _) rfl ?_
      refine op_lss rfl rfl rfl ?_
      refine op_pick0 rfl rfl (.bool _) rfl ?_
      refine op_move rfl (.bool _) rfl ?_
      refine Wops_split 18 rfl ?_ ?_
      · intro h3
        replace h3 := dec_t h3
        refine op_skip rfl ?_
        refine op_skip rfl ?_
        refine op_skip rfl ?_
        refine op_skip rfl ?_
        refine op_skip rfl ?_
        refine op_skip rfl ?_
        refine op_skip rfl ?_
        refine op_pick1 rfl rfl (.bool _) rfl ?_
        refine op_nil ?_
        exact ⟨rfl, (), rfl, ⟨congrArg Value.bool (by rw [Bool.eq_iff_iff]; simp; omega), trivial⟩, H⟩
      · intro h4
        replace h4 := dec_f h4
        refine op_move rfl (.int _ _) rfl ?_
        refine op_move rfl (.pointer _) rfl ?_
        refine op_nilCheck rfl rfl ?_
        refine op_fieldAddr rfl fo_146_1_TrJ rfl ?_
        first | refine op_ldb rfl ag_33_TrJ rfl H (by first | exact at0 | exact at1 | exact at2 | exact at3 | exact at4 | exact at5 | exact at6 | exact at7 | exact at8 | exact at9) rfl ?_ | refine op_ld rfl ag_33_TrJ rfl (cell_bl (T.call H.ext).tr (0 + 1)) ?_
        refine op_call rfl ca_69_TrJ (psize_ok (T.call H.ext).pg) rfl ?_
        rintro v w ⟨rfl, rfl⟩
        refine op_geq rfl rfl rfl ?_
        refine op_pick0 rfl rfl (.bool _) rfl ?_
        refine op_nil ?_
        exact ⟨rfl, (), rfl, ⟨congrArg Value.bool (by rw [Bool.eq_iff_iff]; simp; omega), trivial⟩, H⟩
  rintro - j26 w H
  refine W_cond _ rfl ?_ ?_
  · intro h1
    rw [if_pos (by simpa using h1)] at hrd
    refine W_rseq ?_
    refine op_buildS [.bool false, .slice none 0 0] rfl pl_116_TrJ zc_116_TrJ (by kernel_rfl) ?_
    refine op_stb0 rfl sz_116_TrJ rfl rfl rfl (by simp [oneCell]) H (by first | exact at0 | exact at1 | exact at2 | exact at3 | exact at4 | exact at5 | exact at6 | exact at7 | exact at8 | exact at9) rfl ?_
    rintro w H
    refine op_assign rfl (.int _ _) rfl ?_
    refine op_nil (at_then ?_)
    refine W_ret (ret_then (leave2b rfl rfl rfl ag_116_TrJ sz_116_TrJ H (by first | exact at0 | exact at1 | exact at2 | exact at3 | exact at4 | exact at5 | exact at6 | exact at7 | exact at8 | exact at9) rfl (show _ = (.int _ _) from rfl) ?_))
    exact ⟨false, none, 0, 0, by rw [hrd], H.ext, fun i M h => by rw [hrd] at h; cases h⟩
  · intro h1
    have hn1 : ¬ (16 < depth ∨ page < 0 ∨ (P.length : Int) ≤ page) := (by intro h5; have h6 : (decide (16 < depth) || (decide (page < 0) || decide ((P.length : Int) ≤ page))) = true := (by simpa using h5); rw [h1] at h6; cases h6)
    rw [if_neg hn1] at hrd
    have hb6 := H.get at0
    have hx6 := H.ext
    obtain ⟨wb, rfl⟩ : ∃ wb, wb = w := ⟨_, rfl⟩
    have Tb := T.call hx6
    refine W_skip (at_then ?_)
    refine W_sseqz [([0, 1, 2, 3, 4, 5, 6, 7, 8, 9], 10), ([11, 12, 13, 14], 15)] (fun z => Ext [] wb z) [] mixed (by kernel_rfl) (Ext.drew [] wb) ?_
    refine seg_cons rfl rfl ?_
    refine t_move rfl (.pointer _) rfl ?_
    refine t_nilCheck rfl rfl ?_
    refine t_fieldAddr rfl fo_146_0_TrJ rfl ?_
    first | refine t_ldb rfl ag_32 rfl (fun _ _ => Ctx.start _ []) (by first | exact at0 | exact at1 | exact at2 | exact at3 | exact at4 | exact at5 | exact at6 | exact at7 | exact at8 | exact at9) rfl ?_ | refine t_ld rfl ag_32 rfl (fun _ hx => cell_bl (Tb.call hx).tr (0 + 0)) ?_ | refine t_ld rfl ag_32 rfl (fun _ hx => cell_bl (Tb.call hx).tr (0 + 2)) ?_
    refine t_move rfl (.pointer _) rfl ?_
    refine t_nilCheck rfl rfl ?_
    refine t_fieldAddr rfl fo_146_2_TrJ rfl ?_
    first | refine t_ldb rfl ag_3 rfl (fun _ _ => Ctx.start _ []) (by first | exact at0 | exact at1 | exact at2 | exact at3 | exact at4 | exact at5 | exact at6 | exact at7 | exact at8 | exact at9) rfl ?_ | refine t_ld rfl ag_3 rfl (fun _ hx => cell_bl (Tb.call hx).tr (0 + 0)) ?_ | refine t_ld rfl ag_3 rfl (fun _ hx => cell_bl (Tb.call hx).tr (0 + 2)) ?_
    refine t_move rfl (.int _ _) rfl ?_
    refine t_add_i64 rfl rfl rfl (by omega) (by omega) ?_
    refine t_nil ?_
    skip
    refine op_call rfl ca_123_TrJ (dread_ok ((fr : Int) + page) hfew (by omega) (Tb.call (Ext.drew [] wb)).dev) rfl ?_
    rintro v w2 ⟨s39, rfl, F39⟩
    obtain ⟨a39, c39, rfl, R39, hc39⟩ := Fresh.rdB F39
    refine op_nil (at_seg ((Ext.drew [] wb).trans F39.ext) ?_)
    refine seg_cons rfl rfl ?_
    refine t_move rfl (.tuple _) rfl ?_
    refine t_extract rfl rfl rfl ?_
    refine t_extract rfl rfl rfl ?_
    refine t_assign rfl (.slice _ _ _) rfl ?_
    refine t_nil ?_
    refine op_assign rfl (.int _ _) rfl ?_
    refine op_nil (at_seg ((Ext.drew [] wb).trans F39.ext) ?_)
    refine seg_nil ?_
    refine W_seq ?_
    have hx39 := (Ext.drew [] wb).trans F39.ext
    replace H := (show Ctx w0 [] wb [(b6, Bl 116 [.bool false, .slice none 0 0])] from H).call hx39
    refine W_rseq ?_
    refine op_move rfl (.int _ _) rfl ?_
    refine op_neq rfl rfl rfl ?_
    refine op_nil (at_then ?_)
    refine W_cond _ rfl ?_ ?_
    · intro h2
      replace h2 := ndec_t h2
      rw [if_neg h2] at hrd
      refine W_rseq ?_
      refine op_buildS [.bool false, .slice none 0 0] rfl pl_116_TrJ zc_116_TrJ (by kernel_rfl) ?_
      refine op_move rfl (.int _ _) rfl ?_
      refine op_stb0 rfl sz_116_TrJ rfl rfl rfl (by simp [oneCell]) H (by first | exact at0 | exact at1 | exact at2 | exact at3 | exact at4 | exact at5 | exact at6 | exact at7 | exact at8 | exact at9) rfl ?_
      rintro w H
      refine op_assign rfl (.int _ _) rfl ?_
      refine op_nil (at_then ?_)
      refine W_ret (ret_then (leave2b rfl rfl rfl ag_116_TrJ sz_116_TrJ H (by first | exact at0 | exact at1 | exact at2 | exact at3 | exact at4 | exact at5 | exact at6 | exact at7 | exact at8 | exact at9) rfl (show _ = (.int _ _) from rfl) ?_))
      exact ⟨false, none, 0, 0, by rw [hrd], H.ext, fun i M h => by rw [hrd] at h; cases h⟩
    · intro h2
      replace h2 := ndec_f h2
      rw [if_pos h2] at hrd
      have hrl := readB_len T.dev.wf ((fr : Int) + page)
      refine W_skip (at_then ?_)
      refine W_rseq ?_
      refine op_move rfl (.slice _ _ _) rfl ?_
      refine op_call rfl ca_124_TrJ (parse_ok a39 c39 _ (readB A ((fr : Int) + page)) _ R39 rfl (by omega) hc39) rfl ?_
      have hb6l := H.lt (k := 0) rfl
      have hxw := H.ext
      rintro v w5 ⟨inner, aa, nn, cc, rfl, hx48, hits⟩
      have Hold := H.call hx48
      replace H := Ctx.startL (fun x hx => Hold.blk x hx) Hold.nd
      have hge := (Hold.own _ (List.mem_cons_self ..)).elim (fun h => by cases h) id
      refine op_move rfl (.tuple _) rfl ?_
      refine op_extract rfl rfl rfl ?_
      refine op_extract rfl rfl rfl ?_
      refine op_alloc rfl zc_116_TrJ H ?_
      rintro b10 w - H
      refine op_stb0 rfl sz_116_TrJ rfl rfl rfl (by simp [oneCell]) H (by first | exact at0 | exact at1 | exact at2 | exact at3 | exact at4 | exact at5 | exact at6 | exact at7 | exact at8 | exact at9) rfl ?_
      rintro w H
      refine op_assign rfl (.bool _) rfl ?_
      refine op_nil (at_then ?_)
      refine W_seq ?_
      refine W_rseq ?_
      refine op_move rfl (.bool _) rfl ?_
      refine op_not rfl rfl ?_
      refine op_nil (at_then ?_)
      refine W_cond _ rfl ?_ ?_
      · intro h3
        replace h3 := nvar_t h3
        have hn : parseO (readB A ((fr : Int) + page)) = none := by cases h : parseO (readB A ((fr : Int) + page)) <;> simp_all
        rw [hn] at hrd
        refine W_rseq ?_
        refine op_buildS [.bool false, .slice none 0 0] rfl pl_116_TrJ zc_116_TrJ (by kernel_rfl) ?_
        refine op_stb0 rfl sz_116_TrJ rfl rfl rfl (by simp [oneCell]) H (by first | exact at0 | exact at1 | exact at2 | exact at3 | exact at4 | exact at5 | exact at6 | exact at7 | exact at8 | exact at9) rfl ?_
        rintro w H
        refine op_assign rfl (.int _ _) rfl ?_
        refine op_nil (at_then ?_)
        refine W_ret (ret_then (leave2b rfl rfl rfl ag_116_TrJ sz_116_TrJ H (by first | exact at0 | exact at1 | exact at2 | exact at3 | exact at4 | exact at5 | exact at6 | exact at7 | exact at8 | exact at9) rfl (show _ = (.int _ _) from rfl) ?_))
        exact ⟨false, none, 0, 0, by rw [hrd], Hold.ext.then H.ext (fun x hx => .inr (by rw [List.mem_singleton.1 hx]; exact hge)), fun i M h => by rw [hrd] at h; cases h⟩
      · intro h3
        replace h3 := nvar_f h3
        obtain ⟨nd, hn⟩ : ∃ nd, parseO (readB A ((fr : Int) + page)) = some nd := by cases h : parseO (readB A ((fr : Int) + page)) <;> simp_all
        rw [hn] at hrd
        refine W_skip (at_then ?_)
        refine W_rseq ?_
        refine op_ldbN rfl ag_116_TrJ sz_116_TrJ rfl H (by first | exact at0 | exact at1 | exact at2 | exact at3 | exact at4 | exact at5 | exact at6 | exact at7 | exact at8 | exact at9) rfl ?_
        refine op_stb0 rfl sz_116_TrJ rfl rfl rfl (by simp [oneCell]) H (by first | exact at0 | exact at1 | exact at2 | exact at3 | exact at4 | exact at5 | exact at6 | exact at7 | exact at8 | exact at9) rfl ?_
        rintro w H
        refine op_assign rfl (.int _ _) rfl ?_
        refine op_nil (at_then ?_)
        refine W_ret (leave2b rfl rfl rfl ag_116_TrJ sz_116_TrJ H (by first | exact at0 | exact at1 | exact at2 | exact at3 | exact at4 | exact at5 | exact at6 | exact at7 | exact at8 | exact at9) rfl (show _ = (.int _ _) from rfl) ?_)
        refine ⟨inner, aa, nn, cc, by rw [hrd], Hold.ext.then H.ext (fun x hx => .inr (by rw [List.mem_singleton.1 hx]; exact hge)), fun i M h => ?_⟩
        rw [hrd] at h
        injection h with h
        subst h
        obtain ⟨h5, h6, h7⟩ := hits i M hn
        refine ⟨h5, (h6.past H.ext fun x hx => by rw [List.mem_singleton.1 hx]; exact hb6l).weak (Old.mono hxw), fun x hx => ?_⟩
        have h8 := h7 x hx
        have h9 := bodyOf_le (readB A ((fr : Int) + page))
        unfold OkL at h8
        omega
end

end Go.Proofs.YtbkadlngijkmmaaGreatDoor

/- What a tree tells of a key. -/
namespace Go.Proofs.YtbkadlngijkmmaaGreatDoor
open Go.GV
theorem ag_114_TrK : aggB Tryz.prog 114 = some false := by kernel_rfl
theorem ag_33_TrK : aggB Tryz.prog 33 = some false := by kernel_rfl
theorem ca_64_TrK : callable Tryz.prog 64 = true := by kernel_rfl
theorem ca_65_TrK : callable Tryz.prog 65 = true := by kernel_rfl
theorem ca_66_TrK : callable Tryz.prog 66 = true := by kernel_rfl
theorem ca_67_TrK : callable Tryz.prog 67 = true := by kernel_rfl
theorem ca_68_TrK : callable Tryz.prog 68 = true := by kernel_rfl
theorem ca_69_TrK : callable Tryz.prog 69 = true := by kernel_rfl
theorem el_114_TrK : elemT Tryz.prog 114 = some 120 := by kernel_rfl
theorem fo_116_0_TrK : fieldO Tryz.prog 116 0 = some 0 := by kernel_rfl
theorem fo_116_1_TrK : fieldO Tryz.prog 116 1 = some 1 := by kernel_rfl
theorem fo_120_1_TrK : fieldO Tryz.prog 120 1 = some 1 := by kernel_rfl
theorem fo_120_2_TrK : fieldO Tryz.prog 120 2 = some 2 := by kernel_rfl
theorem fo_146_1_TrK : fieldO Tryz.prog 146 1 = some 1 := by kernel_rfl
theorem sz_116_TrK : tsize Tryz.prog 116 = some 2 := by kernel_rfl
theorem sz_120_TrK : tsize Tryz.prog 120 = some 3 := by kernel_rfl
theorem un_34_TrK : Tryz.prog.underlying 34 = some (.pointer 146) := by kernel_rfl
theorem zc_116_TrK : zcells Tryz.prog 116 = some ([.bool false, .slice none 0 0]) := by kernel_rfl
attribute [local irreducible] Wops W Wq Wt

theorem parseO_ne {b : Byt} {i : Bool} {l : List It} (h : parseO b = some (i, l)) : l ≠ [] := by
  unfold parseO at h
  split at h
  · unfold finG at h
    split at h
    · split at h
      · rename_i h5
        injection h with h; injection h with h6 h7
        rw [← h7]; exact h5.2
      · cases h
    · cases h
  · cases h
theorem parseG_len {i : Bool} {b : Byt} : ∀ {n at' : Nat} {r : List It × Nat}, parseG i b n at' = some r → r.1.length = n
  | 0, at', r, h => by cases h; rfl
  | n + 1, at', r, h => by
    cases h1 : oneO i b at' with
    | none => rw [parseG_none h1] at h; cases h
    | some x =>
      obtain ⟨x, m⟩ := x
      rw [parseG_some h1] at h
      cases h2 : parseG i b n m with
      | none => rw [h2] at h; cases h
      | some r2 =>
        rw [h2] at h
        cases h
        show r2.1.length + 1 = n + 1
        rw [parseG_len h2]
theorem parseO_len {b : Byt} {i : Bool} {l : List It} (h : parseO b = some (i, l)) : l.length ≤ 65535 := by
  unfold parseO at h
  split at h
  · unfold finG at h
    split at h
    · rename_i r hr
      split at h
      · injection h with h; injection h with h6 h7
        have h8 := parseG_len hr
        have h9 := numN_lt ((bodyB b).take 2)
        have h10 : 256 ^ ((bodyB b).take 2).length ≤ 256 ^ 2 := Nat.pow_le_pow_right (by omega) (by rw [List.length_take]; omega)
        rw [← h7, h8]; omega
      · cases h
    · cases h
  · cases h
theorem readT_some {A : Dev} {fr sz : Nat} {page depth : Int} {i : Bool} {l : List It} (h : (readT A fr sz page depth).2 = some (i, l)) : (readT A fr sz page depth).1 = 0 ∧ l ≠ [] ∧ depth ≤ 16 ∧ 0 ≤ page ∧ page < (sz : Int) ∧ l.length ≤ 65535 := by
  unfold readT at h ⊢
  split at h
  · cases h
  · rename_i h1
    rw [if_neg h1]
    split at h
    · rename_i h2
      rw [if_pos h2]
      split at h
      · cases h
      · rename_i n hn
        injection h with h
        subst h
        exact ⟨rfl, parseO_ne hn, by omega, by omega, by omega, parseO_len hn⟩
    · cases h
theorem readT_none {A : Dev} {fr sz : Nat} {page depth : Int} (h : (readT A fr sz page depth).2 = none) : (readT A fr sz page depth).1 ≠ 0 := by
  unfold readT at h ⊢
  split
  · decide
  · rename_i h1
    rw [if_neg h1] at h
    split
    · rename_i h2
      rw [if_pos h2] at h
      split
      · decide
      · rename_i n hn
        rw [hn] at h; cases h
    · rename_i h2; exact h2
theorem belowN_lt {l : List It} (h : l ≠ []) (key : Byt) : belowN l key < l.length := by
  unfold belowN
  have h1 := List.takeWhile_prefix (l := l.tail) (fun x : It => decide (cmpB x.key key ≤ 0)) |>.length_le
  have h2 := List.length_pos_iff.2 h
  rw [List.length_tail] at h1
  omega
theorem bsN_le (L : List It) (key : Byt) : ∀ (n i j : Nat), j - i ≤ n → i ≤ j → i ≤ bsN L key i j ∧ bsN L key i j ≤ j
  | 0, i, j, h, hij => by rw [bsN_end (by omega)]; omega
  | n + 1, i, j, h, hij => by
    by_cases hlt : i < j
    · rw [bsN_lt hlt]
      split
      · have := bsN_le L key n ((i + j) / 2 + 1) j (by omega) (by omega); omega
      · have := bsN_le L key n i ((i + j) / 2) (by omega) (by omega); omega
    · rw [bsN_end (by omega)]; omega
theorem placeN_le (L : List It) (key : Byt) : placeN L key ≤ L.length := (bsN_le L key _ 0 L.length (Nat.le_refl _) (Nat.zero_le _)).2
theorem placeB_get {L : List It} {key : Byt} (h : placeB L key = true) : ∃ x, L[placeN L key]? = some x ∧ x.key = key := by
  unfold placeB at h
  cases hx : L[placeN L key]? with
  | none => rw [hx] at h; cases h
  | some x => rw [hx] at h; exact ⟨x, rfl, cmpB_eq (of_decide_eq_true h)⟩

def mayE (sz root : Int) : Int := if root < -1 ∨ sz ≤ root then 1 else 0
def rightK (k v : Nat) : Bool := decide (1 ≤ k) && (decide (k ≤ 32) && decide (v ≤ 128))
/-- What is found below a page. -/
def getG (A : Dev) (fr sz : Nat) (key : Byt) : Nat → Int → Int → Int × Option Byt
  | 0, _, _ => (9, none)
  | n + 1, page, depth =>
    if page = -1 then (0, none) else match (readT A fr sz page depth).2 with
    | none => ((readT A fr sz page depth).1, none)
    | some (true, l) => getG A fr sz key n (((l[belowN l key]?.map (·.page)).getD 0 : Nat) : Int) (depth + 1)
    | some (false, l) => if placeB l key = true then (0, some ((l[placeN l key]?.map (·.val)).getD [])) else (0, none)
def getT (A : Dev) (fr sz : Nat) (root : Int) (key : Byt) : Int × Option Byt :=
  if mayE sz root ≠ 0 then (1, none) else if rightK key.length 0 = true then getG A fr sz key 18 root 0 else (1, none)

theorem right7_ok (a b : Option Addr) (n m c d : Nat) (w : World) : Ret Tryz.prog 65 #[.slice a n c, .slice b m d] w fun v w' => v = .bool (rightK n m) ∧ w = w' := by
  obtain ⟨w0, rfl⟩ : ∃ w0, w0 = w := ⟨_, rfl⟩
  refine ret_of_W (fn := Tryz.f65) Tryz.func65 rfl [.slice a n c, .slice b m d] rfl (by kernel_rfl) ?_
  refine W_rseq ?_
  refine op_assign rfl (.bool _) rfl ?_
  refine op_nil (at_then ?_)
  refine W_rseq ?_
  refine op_move rfl (.slice _ _ _) rfl ?_
  refine op_len rfl el_23 rfl ?_
  refine op_geq rfl rfl rfl ?_
  refine op_move rfl (.bool _) rfl ?_
  refine Wops_split 8 rfl ?_ ?_
  · intro h1
    replace h1 := dec_t h1
    refine op_move rfl (.slice _ _ _) rfl ?_
    refine op_len rfl el_23 rfl ?_
    refine op_leq rfl rfl rfl ?_
    refine op_pick1 rfl rfl (.bool _) rfl ?_
    refine op_move rfl (.bool _) rfl ?_
    refine Wops_split 13 rfl ?_ ?_
    · intro h2
      replace h2 := dec_t h2
      refine op_move rfl (.slice _ _ _) rfl ?_
      refine op_len rfl el_23 rfl ?_
      refine op_leq rfl rfl rfl ?_
      refine op_pick1 rfl rfl (.bool _) rfl ?_
      refine op_assign rfl (.bool _) rfl ?_
      refine op_nil (at_then ?_)
      refine W_ret (leave1 (v := (.bool _)) rfl rfl rfl ?_)
      exact ⟨congrArg Value.bool (by unfold rightK; rw [Bool.eq_iff_iff]; simp; omega), rfl⟩
    · intro h3
      replace h3 := dec_f h3
      refine op_skip rfl ?_
      refine op_skip rfl ?_
      refine op_skip rfl ?_
      refine op_pick0 rfl rfl (.bool _) rfl ?_
      refine op_assign rfl (.bool _) rfl ?_
      refine op_nil (at_then ?_)
      refine W_ret (leave1 (v := (.bool _)) rfl rfl rfl ?_)
      exact ⟨congrArg Value.bool (by unfold rightK; rw [Bool.eq_iff_iff]; simp; omega), rfl⟩
  · intro h4
    replace h4 := dec_f h4
    refine op_skip rfl ?_
    refine op_skip rfl ?_
    refine op_skip rfl ?_
    refine op_pick0 rfl rfl (.bool _) rfl ?_
    refine op_move rfl (.bool _) rfl ?_
    refine op_skip rfl ?_
    refine op_skip rfl ?_
    refine op_skip rfl ?_
    refine op_pick0 rfl rfl (.bool _) rfl ?_
    refine op_assign rfl (.bool _) rfl ?_
    refine op_nil (at_then ?_)
    refine W_ret (leave1 (v := (.bool _)) rfl rfl rfl ?_)
    exact ⟨congrArg Value.bool (by unfold rightK; rw [Bool.eq_iff_iff]; simp; omega), rfl⟩
section
variable {w : World} {bt bd bp ba fr : Nat} {A : Dev} {P : List Nat} {F : Mut} {L : List (Nat × Obj)}
theorem may7_ok (T : Tx w bt bd bp ba fr A P F L) (root : Int) : Ret Tryz.prog 64 #[ptr bt, .int .i64 root] w fun v w' => v = .int .i64 (mayE P.length root) ∧ w = w' := by
  obtain ⟨w0, rfl⟩ : ∃ w0, w0 = w := ⟨_, rfl⟩
  refine ret_of_W (fn := Tryz.f64) Tryz.func64 rfl [.pointer (some ⟨bt, 0, none⟩), .int .i64 root] rfl (by kernel_rfl) ?_
  refine W_rseq ?_
  refine op_assign rfl (.int _ _) rfl ?_
  refine op_nil (at_then ?_)
  refine W_seq ?_
  refine W_block ?_
  refine W_rseq ?_
  refine op_move rfl (.pointer _) rfl ?_
  refine op_eqlptr rfl un_34_TrK rfl ?_
  refine op_assign rfl (.bool _) rfl ?_
  refine op_nil (at_then ?_)
  refine W_cond0 rfl ?_
  refine W_rseq (Wops_join (α := Unit) 1048320 (fun _ => [(8, .bool (decide (root < -1) || decide ((P.length : Int) ≤ root)))]) (fun _ w' => w0 = w') rfl ?_ ?_)
  · refine op_move rfl (.int _ _) rfl ?_
    refine op_lss rfl rfl rfl ?_
    refine op_move rfl (.bool _) rfl ?_
    refine Wops_split 11 rfl ?_ ?_
    · intro h1
      replace h1 := dec_t h1
      refine op_skip rfl ?_
      refine op_skip rfl ?_
      refine op_skip rfl ?_
      refine op_skip rfl ?_
      refine op_skip rfl ?_
      refine op_skip rfl ?_
      refine op_skip rfl ?_
      refine op_pick1 rfl rfl (.bool _) rfl ?_
      refine op_assign rfl (.bool _) rfl ?_
      refine op_nil ?_
      exact ⟨rfl, (), rfl, ⟨congrArg Value.bool (by rw [Bool.eq_iff_iff]; simp; omega), trivial⟩, rfl⟩
    · intro h2
      replace h2 := dec_f h2
      refine op_move rfl (.int _ _) rfl ?_
      refine op_move rfl (.pointer _) rfl ?_
      refine op_nilCheck rfl rfl ?_
      refine op_fieldAddr rfl fo_146_1_TrK rfl ?_
      first | refine op_ldb rfl ag_33_TrK rfl H (by first | exact at0 | exact at1 | exact at2 | exact at3 | exact at4 | exact at5 | exact at6 | exact at7 | exact at8 | exact at9) rfl ?_ | refine op_ld rfl ag_33_TrK rfl (cell_bl T.tr (0 + 1)) ?_
      refine op_call rfl ca_69_TrK (psize_ok T.pg) rfl ?_
      rintro v w ⟨rfl, rfl⟩
      refine op_geq rfl rfl rfl ?_
      refine op_pick0 rfl rfl (.bool _) rfl ?_
      refine op_assign rfl (.bool _) rfl ?_
      refine op_nil ?_
      exact ⟨rfl, (), rfl, ⟨congrArg Value.bool (by rw [Bool.eq_iff_iff]; simp; omega), trivial⟩, rfl⟩
  rintro - j8 w rfl
  refine W_cond _ rfl ?_ ?_
  · intro h1
    refine W_rseq ?_
    refine op_assign rfl (.int _ _) rfl ?_
    refine op_nil (at_then ?_)
    refine W_ret (ret_block (ret_then (leave1 (v := (.int _ _)) rfl rfl rfl ?_)))
    exact ⟨by rw [mayE, if_pos (by simpa using h1)], rfl⟩
  · intro h1
    have hn1 : ¬ (root < -1 ∨ (P.length : Int) ≤ root) := (by intro h5; have h6 : (decide (root < -1) || decide ((P.length : Int) ≤ root)) = true := (by simpa using h5); rw [h1] at h6; cases h6)
    refine W_skip (at_block (at_then ?_))
    refine W_rseq ?_
    refine op_assign rfl (.int _ _) rfl ?_
    refine op_nil (at_then ?_)
    refine W_ret (leave1 (v := (.int _ _)) rfl rfl rfl ?_)
    exact ⟨by rw [mayE, if_neg hn1], rfl⟩
theorem may7_nil (root : Int) (w : World) : Ret Tryz.prog 64 #[.pointer none, .int .i64 root] w fun v w' => v = .int .i64 2 ∧ w = w' := by
  refine ret_of_W (fn := Tryz.f64) Tryz.func64 rfl [.pointer none, .int .i64 root] rfl (by kernel_rfl) ?_
  refine W_rseq ?_
  refine op_assign rfl (.int _ _) rfl ?_
  refine op_nil (at_then ?_)
  refine W_seq ?_
  refine W_block ?_
  refine W_rseq ?_
  refine op_move rfl (.pointer _) rfl ?_
  refine op_eqlptr rfl un_34_TrK rfl ?_
  refine op_assign rfl (.bool _) rfl ?_
  refine op_nil (at_then ?_)
  refine W_cond1 rfl ?_
  refine W_rseq ?_
  refine op_assign rfl (.int _ _) rfl ?_
  refine op_nil (at_then ?_)
  refine W_ret (ret_block (ret_then (leave1 (v := (.int _ _)) rfl rfl rfl ?_)))
  exact ⟨rfl, rfl⟩
theorem getG_1 {A : Dev} {fr sz : Nat} {key : Byt} {n : Nat} {page depth : Int} : getG A fr sz key (n + 1) page depth = if page = -1 then (0, none) else match (readT A fr sz page depth).2 with
    | none => ((readT A fr sz page depth).1, none)
    | some (true, l) => getG A fr sz key n (((l[belowN l key]?.map (·.page)).getD 0 : Nat) : Int) (depth + 1)
    | some (false, l) => if placeB l key = true then (0, some ((l[placeN l key]?.map (·.val)).getD [])) else (0, none) := by rw [getG]

set_option maxRecDepth 20000 in
set_option maxHeartbeats 4000000 in
theorem get7_ok (T : Tx w bt bd bp ba fr A P F L) (hfr : fr ≤ 5000) (root : Int) (hr : -9223372036854775808 ≤ root ∧ root ≤ 9223372036854775807) (ka : Option Addr) (kc kn : Nat) (key : Byt) (Rk : Rd w ka 1 B8 key) (hk : key.length = kn) {mx : Nat} (hfew : Few A mx) (hmx : mx ≤ 1000000000) :
    Ret Tryz.prog 17 #[ptr bt, .int .i64 root, .slice ka kn kc] w fun v w' => ∃ va vc u, v = .tuple #[.slice va (List.length u) vc, .bool (getT A fr P.length root key).2.isSome, .int .i64 (getT A fr P.length root key).1] ∧ Ext [] w w' ∧ Rdx w' (Old w) va u ∧ u.length ≤ vc ∧ u = (getT A fr P.length root key).2.getD [] := by
  subst hk
  obtain ⟨w0, rfl⟩ : ∃ w0, w0 = w := ⟨_, rfl⟩
  obtain ⟨rg, hrg⟩ : ∃ rg, rg = getT A fr P.length root key := ⟨_, rfl⟩
  rw [← hrg]
  unfold getT at hrg
  refine ret_of_W (fn := Tryz.f17) Tryz.func17 rfl [.pointer (some ⟨bt, 0, none⟩), .int .i64 root, .slice ka key.length kc] rfl (by kernel_rfl) ?_
  refine W_rseq ?_
  refine op_assign rfl (.slice _ _ _) rfl ?_
  refine op_assign rfl (.bool _) rfl ?_
  refine op_assign rfl (.int _ _) rfl ?_
  refine op_nil (at_then ?_)
  refine W_seq ?_
  refine W_rseq ?_
  refine op_move rfl (.pointer _) rfl ?_
  refine op_move rfl (.int _ _) rfl ?_
  refine op_call rfl ca_64_TrK (may7_ok T root) rfl ?_
  rintro v w ⟨rfl, rfl⟩
  refine op_assign rfl (.int _ _) rfl ?_
  refine op_nil (at_then ?_)
  refine W_rseq ?_
  refine op_move rfl (.int _ _) rfl ?_
  refine op_neq rfl rfl rfl ?_
  refine op_nil (at_then ?_)
  refine W_cond _ rfl ?_ ?_
  · intro h1
    replace h1 := ndec_t h1
    rw [if_pos h1] at hrg
    have he : mayE P.length root = 1 := by unfold mayE at h1 ⊢; split <;> simp_all
    refine W_rseq ?_
    refine op_move rfl (.int _ _) rfl ?_
    refine op_assign rfl (.slice _ _ _) rfl ?_
    refine op_assign rfl (.bool _) rfl ?_
    refine op_assign rfl (.int _ _) rfl ?_
    refine op_nil (at_then ?_)
    refine W_ret (ret_then (leave3 (v1 := (.slice _ _ _)) (v2 := (.bool _)) (v3 := (.int _ _)) rfl rfl rfl rfl rfl ?_))
    exact ⟨none, 0, [], by rw [hrg, he]; rfl, .refl _ _, Rdx.nil, Nat.le_refl _, by rw [hrg]; rfl⟩
  · intro h1
    replace h1 := ndec_f h1
    rw [if_neg (by simpa using h1)] at hrg
    refine W_skip (at_then ?_)
    refine W_seq ?_
    refine W_rseq ?_
    refine op_move rfl (.slice _ _ _) rfl ?_
    refine op_call rfl ca_65_TrK (right7_ok ka none _ 0 kc 0 _) rfl ?_
    rintro v w ⟨rfl, rfl⟩
    refine op_not rfl rfl ?_
    refine op_nil (at_then ?_)
    refine W_cond _ rfl ?_ ?_
    · intro h2
      replace h2 := nvar_t h2
      rw [if_neg (by simpa using h2)] at hrg
      refine W_rseq ?_
      refine op_assign rfl (.slice _ _ _) rfl ?_
      refine op_assign rfl (.bool _) rfl ?_
      refine op_assign rfl (.int _ _) rfl ?_
      refine op_nil (at_then ?_)
      refine W_ret (ret_then (leave3 (v1 := (.slice _ _ _)) (v2 := (.bool _)) (v3 := (.int _ _)) rfl rfl rfl rfl rfl ?_))
      exact ⟨none, 0, [], by rw [hrg]; rfl, .refl _ _, Rdx.nil, Nat.le_refl _, by rw [hrg]; rfl⟩
    · intro h2
      replace h2 := nvar_f h2
      rw [if_pos (by simpa using h2)] at hrg
      refine W_skip (at_then ?_)
      refine W_seq ?_
      refine W_rseq ?_
      refine op_move rfl (.int _ _) rfl ?_
      refine op_assign rfl (.int _ _) rfl ?_
      refine op_assign rfl (.int _ _) rfl ?_
      refine op_nil (at_then ?_)
      refine W_block ?_
      refine W_loop 73786976294771162560 (α := Int × Nat) (fun s => [(10, .int .i64 s.1), (11, .int .i64 (s.2 : Int))]) (fun s w' => Ext [] w0 w' ∧ s.2 ≤ 17 ∧ (-9223372036854775808 ≤ s.1 ∧ s.1 ≤ 9223372036854775807) ∧ getG A fr P.length key (18 - s.2) s.1 (s.2 : Int) = rg) (fun s => 18 - s.2) (root, 0) rfl ?_ ?_ ?_
      · exact ⟨rfl, rfl, trivial⟩
      · exact ⟨.refl _ _, Nat.zero_le _, hr, hrg.symm⟩
      · rintro ⟨page, d⟩ j w ⟨hx, hd, hpg, hg⟩; dsimp only at hx hd hpg hg; dsimp only
        rw [show 18 - d = (17 - d) + 1 by omega, getG_1] at hg
        refine W_seq ?_
        refine W_rseq ?_
        refine op_move rfl (.int _ _) rfl ?_
        refine op_neq rfl rfl rfl ?_
        refine op_nil (at_then ?_)
        refine W_cond _ rfl ?_ ?_
        · intro h3
          replace h3 := ndec_t h3
          rw [if_neg (by simpa using h3)] at hg
          have Tw := T.call hx
          refine W_skip (at_then ?_)
          refine W_seq ?_
          refine W_block ?_
          refine W_rseq ?_
          refine op_move rfl (.pointer _) rfl ?_
          refine op_move rfl (.int _ _) rfl ?_
          refine op_move rfl (.int _ _) rfl ?_
          refine op_call rfl ca_66_TrK (read7_ok Tw hfr page (d : Int) hpg hfew hmx) rfl ?_
          rintro v w2 ⟨inner, aa, nn, cc, rfl, hx34, hits⟩
          have H := Ctx.start w2 []
          refine op_move rfl (.tuple _) rfl ?_
          refine op_extract rfl rfl rfl ?_
          refine op_extract rfl rfl rfl ?_
          refine op_alloc rfl zc_116_TrK H ?_
          rintro b12 w - H
          refine op_stb0 rfl sz_116_TrK rfl rfl rfl (by simp [oneCell]) H (by first | exact at0 | exact at1 | exact at2 | exact at3 | exact at4 | exact at5 | exact at6 | exact at7 | exact at8 | exact at9) rfl ?_
          rintro w H
          refine op_assign rfl (.int _ _) rfl ?_
          refine op_nil (at_then ?_)
          refine W_seq ?_
          refine W_rseq ?_
          refine op_move rfl (.int _ _) rfl ?_
          refine op_neq rfl rfl rfl ?_
          refine op_nil (at_then ?_)
          refine W_cond _ rfl ?_ ?_
          · intro h4
            replace h4 := ndec_t h4
            have hnone : (readT A fr P.length page (d : Int)).2 = none := by
              cases h5 : (readT A fr P.length page (d : Int)).2 with
              | none => rfl
              | some r => obtain ⟨i, l⟩ := r; exact absurd (readT_some h5).1 (by simpa using h4)
            rw [hnone] at hg
            dsimp only at hg
            refine W_rseq ?_
            refine op_move rfl (.int _ _) rfl ?_
            refine op_assign rfl (.slice _ _ _) rfl ?_
            refine op_assign rfl (.bool _) rfl ?_
            refine op_assign rfl (.int _ _) rfl ?_
            refine op_nil (at_then ?_)
            refine W_ret (ret_then (ret_block (ret_then (ret_then (ret_block (ret_then (leave3 (v1 := (.slice _ _ _)) (v2 := (.bool _)) (v3 := (.int _ _)) rfl rfl rfl rfl rfl ?_)))))))
            exact ⟨none, 0, [], by rw [← hg]; rfl, hx.trans (hx34.trans H.ext), Rdx.nil, Nat.le_refl _, by rw [← hg]; rfl⟩
          · intro h4
            replace h4 := ndec_f h4
            obtain ⟨⟨i, l⟩, hsome⟩ : ∃ r, (readT A fr P.length page (d : Int)).2 = some r := by
              cases h5 : (readT A fr P.length page (d : Int)).2 with
              | none => exact absurd (by simpa using h4) (readT_none h5)
              | some r => exact ⟨r, rfl⟩
            obtain ⟨-, hne, hd16, -, -, hll⟩ := readT_some hsome
            obtain ⟨rfl, I, hb⟩ := hits i l hsome
            rw [hsome] at hg
            have hxw := hx.trans hx34
            have hnum := I.num
            refine W_skip (at_then ?_)
            refine W_seq ?_
            refine W_rseq ?_
            refine op_fieldAddr rfl fo_116_0_TrK rfl ?_
            refine op_ldb rfl ag_4 rfl H (by first | exact at0 | exact at1 | exact at2 | exact at3 | exact at4 | exact at5 | exact at6 | exact at7 | exact at8 | exact at9) rfl ?_
            refine op_nil (at_then ?_)
            refine W_cond _ rfl ?_ ?_
            · intro h5
              subst h5
              dsimp only at hg
              have hb12 := H.get at0
              have hx12 := H.ext
              obtain ⟨wr, rfl⟩ : ∃ wr, wr = w := ⟨_, rfl⟩
              have hkeep : ∀ {z : World}, Ext [] wr z → z.heap[b12]? = some (Bl 116 [.bool true, .slice aa nn cc]) := fun {z} h => by rw [h.block b12 (heap_lt hb12) (by simp)]; exact hb12
              have Ir := I.call hx12
              obtain ⟨ms, R, -, hl, hok⟩ := Ir.ex
              have hml : ms.length = nn := by rw [hnum, ← hl, List.length_map]
              have hbl := belowN_lt hne key
              obtain ⟨x, hx1⟩ := get_some (l := ms) (i := belowN l key) (by omega)
              have hxL := Im.at hl hx1
              have hxb := hb x.it (List.mem_of_getElem? hxL)
              rw [hxL] at hg
              simp only [Option.map_some, Option.getD_some] at hg
              have hRR : ∀ {z : World}, Ext [] wr z → Rd z aa 3 Im.enc ms := fun {z} h => R.ext0 h
              have hx0r : Ext [] w0 wr := hxw.trans hx12
              refine W_sseqz [([0, 1, 2, 3, 4], 5), ([6, 7, 8], 9)] (fun z => Ext [] wr z) [] mixed (by kernel_rfl) (Ext.drew [] wr) ?_
              refine seg_cons rfl rfl ?_
              refine t_fieldAddr rfl fo_116_1_TrK rfl ?_
              first | refine t_ldb rfl ag_114_TrK rfl (fun _ _ => Ctx.start _ []) (by first | exact at0 | exact at1 | exact at2 | exact at3 | exact at4 | exact at5 | exact at6 | exact at7 | exact at8 | exact at9) rfl ?_ | refine t_ld rfl ag_114_TrK rfl (fun _ hx => cell_bl (hkeep hx) (0 + 1)) ?_ | refine t_ld rfl ag_114_TrK rfl (fun _ hx => (hRR hx).fld hx1 rfl (j := 2) rfl) ?_
              refine t_fieldAddr rfl fo_116_1_TrK rfl ?_
              first | refine t_ldb rfl ag_114_TrK rfl (fun _ _ => Ctx.start _ []) (by first | exact at0 | exact at1 | exact at2 | exact at3 | exact at4 | exact at5 | exact at6 | exact at7 | exact at8 | exact at9) rfl ?_ | refine t_ld rfl ag_114_TrK rfl (fun _ hx => cell_bl (hkeep hx) (0 + 1)) ?_ | refine t_ld rfl ag_114_TrK rfl (fun _ hx => (hRR hx).fld hx1 rfl (j := 2) rfl) ?_
              refine t_move rfl (.slice _ _ _) rfl ?_
              refine t_nil ?_
              skip
              refine op_call rfl ca_67_TrK (below_ok (Ir.call (Ext.drew [] wr)) ka kc _ key (Rk.ext0 (hx0r.trans (Ext.drew [] wr))) rfl (by omega)) rfl ?_
              rintro v w5 ⟨rfl, rfl⟩
              refine op_nil (at_seg ((Ext.drew [] wr)) ?_)
              refine seg_cons rfl rfl ?_
              first | refine t_indexRd R rfl el_114_TrK sz_120_TrK rfl rfl (by omega) (by omega) (by first | rfl | omega) ?_ | refine t_indexAddr rfl el_114_TrK sz_120_TrK rfl rfl (by omega) (by omega) ?_
              refine t_fieldAddr rfl fo_120_2_TrK rfl ?_
              first | refine t_ldb rfl ag_3 rfl (fun _ _ => Ctx.start _ []) (by first | exact at0 | exact at1 | exact at2 | exact at3 | exact at4 | exact at5 | exact at6 | exact at7 | exact at8 | exact at9) rfl ?_ | refine t_ld rfl ag_3 rfl (fun _ hx => cell_bl (hkeep hx) (0 + 1)) ?_ | refine t_ld rfl ag_3 rfl (fun _ hx => (hRR hx).fld hx1 rfl (j := 2) rfl) ?_
              refine t_nil ?_
              refine op_assign rfl (.int _ _) rfl ?_
              refine op_nil (at_seg ((Ext.drew [] wr)) ?_)
              refine seg_nil ?_
              refine W_exit (exit_then (exit_here (at_then ?_)))
              refine W_region ?_
              refine op_move rfl (.int _ _) rfl ?_
              refine op_add_i64 rfl rfl rfl (by omega) (by omega) ?_
              refine op_assign rfl (.int _ _) rfl ?_
              refine op_nil (at_then ?_)
              exact ⟨(((x.it.page : Nat) : Int), d + 1), rfl, ⟨rfl, rfl, trivial⟩, ⟨hx0r.trans (Ext.drew [] wr), by dsimp only; omega, by dsimp only; omega, by dsimp only; rw [show 18 - (d + 1) = 17 - d by omega]; exact hg⟩, by dsimp only; omega⟩
            · intro h5
              subst h5
              dsimp only at hg
              have hx12 := H.ext
              have Ir := I.call hx12
              obtain ⟨ms, R, -, hl, hok⟩ := Ir.ex
              have hml : ms.length = nn := by rw [hnum, ← hl, List.length_map]
              refine W_skip (at_then ?_)
              refine W_rseq ?_
              refine op_fieldAddr rfl fo_116_1_TrK rfl ?_
              first | refine op_ldb rfl ag_114_TrK rfl H (by first | exact at0 | exact at1 | exact at2 | exact at3 | exact at4 | exact at5 | exact at6 | exact at7 | exact at8 | exact at9) rfl ?_ | refine op_ld rfl ag_114_TrK rfl (cell_bl (hkeep hx) (0 + 1)) ?_ | refine op_ld rfl ag_114_TrK rfl ((hRR hx).fld hx1 rfl (j := 2) rfl) ?_
              refine op_move rfl (.slice _ _ _) rfl ?_
              refine op_call rfl ca_68_TrK (place_ok Ir ka kc _ key (Rk.ext0 (hxw.trans hx12)) rfl (by omega)) rfl ?_
              rintro v w5 ⟨rfl, hx55⟩
              replace H := H.call hx55
              refine op_move rfl (.tuple _) rfl ?_
              refine op_extract rfl rfl rfl ?_
              refine op_extract rfl rfl rfl ?_
              refine op_assign rfl (.int _ _) rfl ?_
              refine op_assign rfl (.bool _) rfl ?_
              refine op_nil (at_then ?_)
              refine W_seq ?_
              refine W_rseq ?_
              refine op_move rfl (.bool _) rfl ?_
              refine op_not rfl rfl ?_
              refine op_nil (at_then ?_)
              refine W_cond _ rfl ?_ ?_
              · intro h6
                replace h6 := nvar_t h6
                rw [if_neg (by simpa using h6)] at hg
                refine W_rseq ?_
                refine op_assign rfl (.slice _ _ _) rfl ?_
                refine op_assign rfl (.bool _) rfl ?_
                refine op_assign rfl (.int _ _) rfl ?_
                refine op_nil (at_then ?_)
                refine W_ret (ret_then (ret_block (ret_then (ret_then (ret_block (ret_then (leave3 (v1 := (.slice _ _ _)) (v2 := (.bool _)) (v3 := (.int _ _)) rfl rfl rfl rfl rfl ?_)))))))
                exact ⟨none, 0, [], by rw [← hg]; rfl, hxw.trans H.ext, Rdx.nil, Nat.le_refl _, by rw [← hg]; rfl⟩
              · intro h6
                replace h6 := nvar_f h6
                have h6' : placeB l key = true := by simpa using h6
                rw [if_pos h6'] at hg
                obtain ⟨y, hy, -⟩ := placeB_get h6'
                have hpl := (List.getElem?_eq_some_iff.1 hy).1
                obtain ⟨x, hx1⟩ := get_some (l := ms) (i := placeN l key) (by omega)
                have hxL := Im.at hl hx1
                rw [hxL] at hg
                simp only [Option.map_some, Option.getD_some] at hg
                have hxo := (hok x (List.mem_of_getElem? hx1)).call hx55
                refine W_skip (at_then ?_)
                refine W_rseq ?_
                refine op_fieldAddr rfl fo_116_1_TrK rfl ?_
                first | refine op_ldb rfl ag_114_TrK rfl H (by first | exact at0 | exact at1 | exact at2 | exact at3 | exact at4 | exact at5 | exact at6 | exact at7 | exact at8 | exact at9) rfl ?_ | refine op_ld rfl ag_114_TrK rfl ((R.ext0 hx55).fld hx1 rfl (j := 1) rfl) ?_
                refine op_move rfl (.int _ _) rfl ?_
                first | refine op_indexRd R rfl el_114_TrK sz_120_TrK rfl rfl (by omega) (by omega) (by first | rfl | omega) ?_ | refine op_indexRd R rfl el_114_TrK sz_120_TrK rfl rfl (by omega) (by omega) (by first | rfl | omega) ?_ | refine op_indexAddr rfl el_114_TrK sz_120_TrK rfl rfl (by omega) (by omega) ?_
                refine op_fieldAddr rfl fo_120_1_TrK rfl ?_
                first | refine op_ldb rfl ag_23 rfl H (by first | exact at0 | exact at1 | exact at2 | exact at3 | exact at4 | exact at5 | exact at6 | exact at7 | exact at8 | exact at9) rfl ?_ | refine op_ld rfl ag_23 rfl ((R.ext0 hx55).fld hx1 rfl (j := 1) rfl) ?_
                refine op_assign rfl (.slice _ _ _) rfl ?_
                refine op_assign rfl (.bool _) rfl ?_
                refine op_assign rfl (.int _ _) rfl ?_
                refine op_nil (at_then ?_)
                refine W_ret (ret_block (ret_then (ret_then (ret_block (ret_then (leave3 (v1 := (.slice _ _ _)) (v2 := (.bool _)) (v3 := (.int _ _)) rfl rfl rfl rfl rfl ?_))))))
                refine ⟨x.va, x.vc, x.it.val, by rw [← hg]; rfl, hxw.trans H.ext, hxo.v.weak (Old.mono hx), hxo.vc, by rw [← hg]; rfl⟩
        · intro h3
          replace h3 := ndec_f h3
          have h3' : page = -1 := by simpa using h3
          rw [if_pos h3'] at hg
          refine W_exit (exit_then (exit_then (exit_here (at_then ?_))))
          refine W_rseq ?_
          refine op_assign rfl (.slice _ _ _) rfl ?_
          refine op_assign rfl (.bool _) rfl ?_
          refine op_assign rfl (.int _ _) rfl ?_
          refine op_nil (at_then ?_)
          refine W_ret (leave3 (v1 := (.slice _ _ _)) (v2 := (.bool _)) (v3 := (.int _ _)) rfl rfl rfl rfl rfl ?_)
          exact ⟨none, 0, [], by rw [← hg]; rfl, hx, Rdx.nil, Nat.le_refl _, by rw [← hg]; rfl⟩
end

end Go.Proofs.YtbkadlngijkmmaaGreatDoor

/- What a node has, in one or two. -/
namespace Go.Proofs.YtbkadlngijkmmaaGreatDoor
open Go.GV
theorem ag_114_TrL : aggB Tryz.prog 114 = some false := by kernel_rfl
theorem ag_116_TrL : aggB Tryz.prog 116 = some true := by kernel_rfl
theorem ag_120_TrL : aggB Tryz.prog 120 = some true := by kernel_rfl
theorem ca_137_TrL : callable Tryz.prog 137 = true := by kernel_rfl
theorem ca_138_TrL : callable Tryz.prog 138 = true := by kernel_rfl
theorem el_114_TrL : elemT Tryz.prog 114 = some 120 := by kernel_rfl
theorem el_137_TrL : elemT Tryz.prog 137 = some 116 := by kernel_rfl
theorem fo_116_0_TrL : fieldO Tryz.prog 116 0 = some 0 := by kernel_rfl
theorem fo_116_1_TrL : fieldO Tryz.prog 116 1 = some 1 := by kernel_rfl
theorem pl_116_TrL : placesB Tryz.prog 116 = some [(0, 1), (1, 1)] := by kernel_rfl
theorem sz_116_TrL : tsize Tryz.prog 116 = some 2 := by kernel_rfl
theorem sz_120_TrL : tsize Tryz.prog 120 = some 3 := by kernel_rfl
theorem zc_116_TrL : zcells Tryz.prog 116 = some ([.bool false, .slice none 0 0]) := by kernel_rfl
attribute [local irreducible] Wops W Wq Wt

def halfG (inner : Bool) (half : Nat) : List It → Nat → Nat
  | [], _ => 0
  | x :: l, sum => if sum < half then halfG inner half l (sum + sizeI inner x) + 1 else 0
/-- How many items the first half has. -/
def halfK (inner : Bool) (L : List It) : Nat := halfG inner (totalI inner L / 2) L 0
def halvesN (inner : Bool) (L : List It) : List (List It) := if totalI inner L ≤ 503 then [L] else [L.take (halfK inner L), L.drop (halfK inner L)]
abbrev SN := Option Addr × List It × Nat
def encN (inner : Bool) (x : SN) : List Value := [.bool inner, .slice x.1 x.2.1.length x.2.2]
/-- A slice of nodes. -/
structure Nds (w : World) (M : Mut) (inner : Bool) (a : Option Addr) (n c : Nat) (Ls : List (List It)) : Prop where
  ex : ∃ ms : List SN, Rd w a 2 (encN inner) ms ∧ (ms = [] ∨ ¬ M (adr a).block) ∧ ms.map (fun x => x.2.1) = Ls ∧ ∀ m ∈ ms, Its w M m.1 m.2.1.length m.2.2 m.2.1
  num : n = Ls.length
theorem Nds.turn {w w' : World} {M M' : Mut} {inner : Bool} {a : Option Addr} {n c : Nat} {Ls : List (List It)} (h : Nds w M inner a n c Ls) (t : Grown M M' w w') : Nds w' M' inner a n c Ls := by
  obtain ⟨ms, R, hs, hl, hm⟩ := h.ex
  refine ⟨⟨ms, ?_, ?_, hl, fun m hx => (hm m hx).turn t⟩, h.num⟩
  · rcases hs with rfl | hs
    · exact Rd.nil
    · obtain ⟨⟨S, hS, hx⟩, _⟩ := t
      exact R.ext hx fun h => hs (hS _ h)
  · rcases hs with rfl | hs
    · exact .inl rfl
    · rcases rd_ltN R (by decide) (fun x _ => rfl) with h0 | h0
      · exact .inl h0
      · exact .inr fun h5 => (t.2 _ h5).elim hs fun h6 => by omega
theorem total_take_le (inner : Bool) (L : List It) (k : Nat) : totalI inner (L.take k) ≤ totalI inner L := by
  have h := totalI_append inner (L.take k) (L.drop k)
  rw [List.take_append_drop] at h
  omega

set_option maxRecDepth 20000 in
set_option maxHeartbeats 4000000 in
theorem halves_ok {w : World} {M : Mut} (hM : ∀ x, M x → x < w.heap.size) (inner : Bool) {a : Option Addr} {n c : Nat} {L : List It} (I : Its w M a n c L) (hm : n ≤ 1000000) (hsz : ∀ x ∈ L, x.key.length ≤ 65535 ∧ x.val.length ≤ 65535) :
    Ret Tryz.prog 200 #[.agg #[.bool inner, .slice a n c]] w fun v w' => ∃ a' n' c', v = .slice a' n' c' ∧ Nds w' M inner a' n' c' (halvesN inner L) ∧ Ext [] w w' := by
  obtain ⟨w0, rfl⟩ : ∃ w0, w0 = w := ⟨_, rfl⟩
  have H := Ctx.start w0 []
  obtain ⟨ms, R, -, hl, hok⟩ := I.ex
  have hnum := I.num
  have hcap := I.le
  have hml : ms.length = n := by rw [hnum, ← hl, List.length_map]
  have htl := total_le (inner := inner) hsz
  refine ret_of_W (fn := Tryz.f200) Tryz.func200 rfl [.agg #[.bool inner, .slice a n c]] rfl (by kernel_rfl) ?_
  refine W_rseq ?_
  refine op_box rfl [.bool inner, .slice a n c] (.agg _) rfl rfl H ?_
  rintro b1 w - H
  refine op_assign rfl (.slice _ _ _) rfl ?_
  refine op_nil (at_then ?_)
  refine W_seq ?_
  refine W_rseq ?_
  refine op_ldbN rfl ag_116_TrL sz_116_TrL rfl H (by first | exact at0 | exact at1 | exact at2 | exact at3 | exact at4 | exact at5 | exact at6 | exact at7 | exact at8 | exact at9) rfl ?_
  refine op_call rfl ca_137_TrL (total_ok inner (I.call H.ext) hm hsz) rfl ?_
  rintro v w ⟨rfl, hx7⟩
  replace H := H.call hx7
  refine op_leq rfl rfl rfl ?_
  refine op_nil (at_then ?_)
  refine W_cond _ rfl ?_ ?_
  · intro h1
    replace h1 := dec_t h1
    have hh : halvesN inner L = [L] := by rw [halvesN, if_pos (by omega)]
    have hxb := H.ext
    refine W_rseq ?_
    refine op_ldbN rfl ag_116_TrL sz_116_TrL rfl H (by first | exact at0 | exact at1 | exact at2 | exact at3 | exact at4 | exact at5 | exact at6 | exact at7 | exact at8 | exact at9) rfl ?_
    refine op_build1 _ (.agg _) rfl el_137_TrL sz_116_TrL zc_116_TrL rfl (by decide) (by decide) rfl rfl rfl H ?_
    rintro b10 w - H
    refine op_assign rfl (.slice _ _ _) rfl ?_
    refine op_nil (at_then ?_)
    refine W_ret (ret_then (leave1 (v := (.slice _ _ _)) rfl rfl rfl ?_))
    refine ⟨some ⟨b10, 0, none⟩, 1, 1, rfl, ⟨⟨[(a, L, c)], Rd.of_bl (r := []) (H.get at0) ?_ (fun _ _ => rfl), .inr fun hq => ?_, by rw [hh]; rfl, fun m hm => ?_⟩, by rw [hh]; rfl⟩, H.ext⟩
    · rw [List.flatMap_singleton, List.append_nil, encN, ← hnum]
    · have := hM _ hq
      have h5 := (H.own _ (List.mem_cons_self ..)).elim (fun h => by cases h) id
      dsimp only [adr] at this h5
      omega
    · rw [List.mem_singleton.1 hm]
      have := I.call H.ext
      rw [hnum] at this
      exact this
  · intro h1
    replace h1 := dec_f h1
    have hh : halvesN inner L = [L.take (halfK inner L), L.drop (halfK inner L)] := by rw [halvesN, if_neg (by omega)]
    refine W_skip (at_then ?_)
    refine W_rseq ?_
    refine op_ldbN rfl ag_116_TrL sz_116_TrL rfl H (by first | exact at0 | exact at1 | exact at2 | exact at3 | exact at4 | exact at5 | exact at6 | exact at7 | exact at8 | exact at9) rfl ?_
    refine op_call rfl ca_137_TrL (total_ok inner (I.call H.ext) hm hsz) rfl ?_
    rintro v w ⟨rfl, hx12⟩
    replace H := H.call hx12
    refine op_quo rfl rfl rfl (by omega) (by omega) (show _ ≤ (9223372036854775807 : Int) by omega) ?_
    rw [show (totalI inner L : Int) / 2 = ((totalI inner L / 2 : Nat) : Int) by omega]
    refine op_assign rfl (.int _ _) rfl ?_
    refine op_assign rfl (.int _ _) rfl ?_
    refine op_assign rfl (.int _ _) rfl ?_
    refine op_nil (at_then ?_)
    refine W_seq ?_
    refine W_block ?_
    obtain ⟨wb, rfl⟩ : ∃ wb, wb = w := ⟨_, rfl⟩
    have hb1 := H.get at0
    have hxb := H.ext
    have hnode : ∀ {z : World}, Ext [] wb z → z.heap[b1]? = some (Bl 116 [.bool inner, .slice a n c]) := fun {z} h => by rw [h.block b1 (heap_lt hb1) (by simp)]; exact hb1
    have hRR : ∀ {z : World}, Ext [] wb z → Rd z a 3 Im.enc ms := fun {z} h => R.ext0 (hxb.trans h)
    refine W_loop 268419120 (α := Nat) (fun k => [(4, .int .i64 (totalI inner (L.take k) : Int)), (5, .int .i64 (k : Int))]) (fun k w' => k ≤ n ∧ Ext [] wb w' ∧ halfG inner (totalI inner L / 2) (L.drop k) (totalI inner (L.take k)) + k = halfK inner L) (fun k => n - k) 0 rfl ?_ ?_ ?_
    · exact ⟨rfl, rfl, trivial⟩
    · exact ⟨Nat.zero_le _, .refl _ _, rfl⟩
    · rintro k j w ⟨hk, hxl, hg⟩
      have htk := total_take_le inner L k
      refine W_seq ?_
      refine W_rseq ?_
      refine op_move rfl (.int _ _) rfl ?_
      refine op_move rfl (.int _ _) rfl ?_
      refine op_lss rfl rfl rfl ?_
      refine op_nil (at_then ?_)
      refine W_cond _ rfl ?_ ?_
      · intro h2
        replace h2 := dec_t h2
        have hkn : k < n := by
          rcases Nat.lt_or_ge k n with h3 | h3
          · exact h3
          · rw [List.take_of_length_le (by omega)] at h2; omega
        obtain ⟨x, hx1⟩ := get_some (l := ms) (i := k) (by omega)
        have hxL := Im.at hl hx1
        have hxo := hok x (List.mem_of_getElem? hx1)
        have hxs := hsz x.it (List.mem_of_getElem? hxL)
        have hts := total_snoc (inner := inner) hxL
        have htk2 := total_take_le inner L (k + 1)
        rw [drop_cons hxL, halfG, if_pos (by omega), ← hts] at hg
        have hD := Ext.drew [] w
        have hoD := hxo.call ((hxb.trans hxl).trans hD)
        refine W_skip (at_then ?_)
        refine W_block ?_
        refine W_sseqz [([0, 1, 2, 3, 4, 5, 6], 7), ([8], 9)] (fun z => Ext [] w z) [] mixed (by kernel_rfl) (hD) ?_
        refine seg_cons rfl rfl ?_
        refine t_move rfl (.int _ _) rfl ?_
        first | refine t_ldN _ rfl ag_116_TrL sz_116_TrL rfl rfl (fun _ hx => (fun j v hv => by rw [cell_bl (hnode (hxl.trans hx)), Nat.zero_add]; exact hv)) ?_ | refine t_ldN _ rfl ag_116_TrL sz_116_TrL rfl rfl (fun _ hx => (hRR (hxl.trans hx)).row hx1 rfl) ?_ | refine t_ldbN rfl ag_116_TrL sz_116_TrL rfl (fun _ _ => Ctx.start _ []) (by first | exact at0 | exact at1 | exact at2 | exact at3 | exact at4 | exact at5 | exact at6 | exact at7 | exact at8 | exact at9) rfl ?_
        refine t_fieldAddr rfl fo_116_1_TrL rfl ?_
        first | refine t_ldb rfl ag_114_TrL rfl (fun _ _ => Ctx.start _ []) (by first | exact at0 | exact at1 | exact at2 | exact at3 | exact at4 | exact at5 | exact at6 | exact at7 | exact at8 | exact at9) rfl ?_ | refine t_ld rfl ag_114_TrL rfl (fun _ hx => cell_bl (hnode (hxl.trans hx)) (0 + 1)) ?_
        refine t_move rfl (.int _ _) rfl ?_
        first | refine t_indexRd R rfl el_114_TrL sz_120_TrL rfl rfl (by omega) (by omega) (by first | rfl | omega) ?_ | refine t_indexAddr rfl el_114_TrL sz_120_TrL rfl rfl (by omega) (by omega) ?_
        first | refine t_ldN _ rfl ag_120_TrL sz_120_TrL rfl rfl (fun _ hx => (fun j v hv => by rw [cell_bl (hnode (hxl.trans hx)), Nat.zero_add]; exact hv)) ?_ | refine t_ldN _ rfl ag_120_TrL sz_120_TrL rfl rfl (fun _ hx => (hRR (hxl.trans hx)).row hx1 rfl) ?_ | refine t_ldbN rfl ag_120_TrL sz_120_TrL rfl (fun _ _ => Ctx.start _ []) (by first | exact at0 | exact at1 | exact at2 | exact at3 | exact at4 | exact at5 | exact at6 | exact at7 | exact at8 | exact at9) rfl ?_
        refine t_nil ?_
        skip
        refine op_call rfl ca_138_TrL (size_ok7 inner a n c hoD (by omega) (by omega)) rfl ?_
        rintro v w5 ⟨rfl, hx24⟩
        have hx5 := hD.trans hx24
        refine op_nil (at_seg (hx5) ?_)
        refine seg_cons rfl rfl ?_
        refine t_add_i64 rfl rfl rfl (by omega) (by omega) ?_
        refine t_nil ?_
        refine op_assign rfl (.int _ _) rfl ?_
        refine op_nil (at_seg (hx5) ?_)
        refine seg_nil ?_
        refine W_region ?_
        refine op_move rfl (.int _ _) rfl ?_
        refine op_add_i64 rfl rfl rfl (by omega) (by omega) ?_
        refine op_assign rfl (.int _ _) rfl ?_
        refine op_nil (at_block (at_then ?_))
        exact ⟨k + 1, rfl, ⟨by show Value.int .i64 _ = Value.int .i64 _; congr 1; rw [hts]; omega, rfl, trivial⟩, ⟨by omega, hxl.trans hx5, by rw [← hg]; omega⟩, by omega⟩
      · intro h2
        replace h2 := dec_f h2
        have hK : halfK inner L = k := by
          have h0 : halfG inner (totalI inner L / 2) (L.drop k) (totalI inner (L.take k)) = 0 := by
            cases hd : L.drop k with
            | nil => rfl
            | cons x l => rw [halfG, if_neg (by omega)]
          omega
        have hD := Ext.drew [] w
        have H := (Ctx.start w []).drew
        refine W_exit (exit_then (exit_then (exit_here (at_then ?_))))
        refine W_sseqz [([0, 1, 2, 3, 4, 5, 6, 7, 8, 9, 10, 11, 12, 13], 14), ([], 15)] (fun z => Ext [] w z) [] mixed (by kernel_rfl) (hD) ?_
        refine seg_cons rfl rfl ?_
        refine t_fieldAddr rfl fo_116_0_TrL rfl ?_
        first | refine t_ldb rfl ag_4 rfl (fun _ _ => Ctx.start _ []) (by first | exact at0 | exact at1 | exact at2 | exact at3 | exact at4 | exact at5 | exact at6 | exact at7 | exact at8 | exact at9) rfl ?_ | refine t_ld rfl ag_4 rfl (fun _ hx => cell_bl (hnode (hxl.trans hx)) (0 + 0)) ?_ | refine t_ld rfl ag_4 rfl (fun _ hx => cell_bl (hnode (hxl.trans hx)) (0 + 1)) ?_
        refine t_fieldAddr rfl fo_116_1_TrL rfl ?_
        first | refine t_ldb rfl ag_114_TrL rfl (fun _ _ => Ctx.start _ []) (by first | exact at0 | exact at1 | exact at2 | exact at3 | exact at4 | exact at5 | exact at6 | exact at7 | exact at8 | exact at9) rfl ?_ | refine t_ld rfl ag_114_TrL rfl (fun _ hx => cell_bl (hnode (hxl.trans hx)) (0 + 0)) ?_ | refine t_ld rfl ag_114_TrL rfl (fun _ hx => cell_bl (hnode (hxl.trans hx)) (0 + 1)) ?_
        refine t_move rfl (.int _ _) rfl ?_
        refine t_slice_hi rfl el_114_TrL sz_120_TrL rfl rfl (by omega) (by omega) ?_
        refine t_buildS [.bool inner, .slice a k c] rfl pl_116_TrL zc_116_TrL (by kernel_rfl) ?_
        refine t_fieldAddr rfl fo_116_0_TrL rfl ?_
        first | refine t_ldb rfl ag_4 rfl (fun _ _ => Ctx.start _ []) (by first | exact at0 | exact at1 | exact at2 | exact at3 | exact at4 | exact at5 | exact at6 | exact at7 | exact at8 | exact at9) rfl ?_ | refine t_ld rfl ag_4 rfl (fun _ hx => cell_bl (hnode (hxl.trans hx)) (0 + 0)) ?_ | refine t_ld rfl ag_4 rfl (fun _ hx => cell_bl (hnode (hxl.trans hx)) (0 + 1)) ?_
        refine t_fieldAddr rfl fo_116_1_TrL rfl ?_
        first | refine t_ldb rfl ag_114_TrL rfl (fun _ _ => Ctx.start _ []) (by first | exact at0 | exact at1 | exact at2 | exact at3 | exact at4 | exact at5 | exact at6 | exact at7 | exact at8 | exact at9) rfl ?_ | refine t_ld rfl ag_114_TrL rfl (fun _ hx => cell_bl (hnode (hxl.trans hx)) (0 + 0)) ?_ | refine t_ld rfl ag_114_TrL rfl (fun _ hx => cell_bl (hnode (hxl.trans hx)) (0 + 1)) ?_
        refine t_move rfl (.int _ _) rfl ?_
        refine t_slice_lo rfl el_114_TrL sz_120_TrL rfl rfl (by omega) (by omega) ?_
        refine t_buildS [.bool inner, .slice (cutA a c k 3) (n - k) (c - k)] rfl pl_116_TrL zc_116_TrL (by kernel_rfl) ?_
        refine t_nil ?_
        skip
        refine op_buildL [.bool inner, .slice a k c, .bool inner, .slice (cutA a c k 3) (n - k) (c - k)] rfl el_137_TrL sz_116_TrL zc_116_TrL (by decide) (by decide) (by kernel_rfl) H ?_
        rintro b42 w5 - H
        refine op_nil (at_seg (H.ext) ?_)
        refine seg_cons rfl rfl ?_
        refine t_nil ?_
        refine op_assign rfl (.slice _ _ _) rfl ?_
        refine op_nil (at_seg (H.ext) ?_)
        refine seg_nil ?_
        refine W_ret (leave1 (v := (.slice _ _ _)) rfl rfl rfl ?_)
        have hx5 := (hxb.trans hxl).trans H.ext
        have I5 := I.call hx5
        have hlt : (L.take k).length = k := by rw [List.length_take]; omega
        have hld : (L.drop k).length = n - k := by rw [List.length_drop]; omega
        refine ⟨some ⟨b42, 0, none⟩, 2, 2, rfl, ⟨⟨[(a, L.take k, c), (cutA a c k 3, L.drop k, c - k)], Rd.of_bl (r := []) (H.get at0) ?_ (fun _ _ => rfl), .inr fun hq => ?_, by rw [hh, hK]; rfl, fun m hm => ?_⟩, by rw [hh]; rfl⟩, hx5⟩
        · simp [encN, hlt, hld]
        · have := hM _ hq
          have h5 := (H.own _ (List.mem_cons_self ..)).elim (fun h => by cases h) id
          have h6 := (hxb.trans hxl).size
          dsimp only [adr] at this h5
          omega
        · rcases List.mem_cons.1 hm with rfl | hm
          · have := I5.take (k := k) hk
            rw [← hlt] at this
            simpa [hlt] using this
          · rw [List.mem_singleton.1 hm]
            have := I5.drop (k := k) hk
            rw [← hld] at this
            simpa [hld] using this

end Go.Proofs.YtbkadlngijkmmaaGreatDoor

/- A change of a tree: what it takes, what it lets go; a node is written. -/
namespace Go.Proofs.YtbkadlngijkmmaaGreatDoor
open Go.GV
theorem ag_114_TrM : aggB Tryz.prog 114 = some false := by kernel_rfl
theorem ag_116_TrM : aggB Tryz.prog 116 = some true := by kernel_rfl
theorem ag_120_TrM : aggB Tryz.prog 120 = some true := by kernel_rfl
theorem ag_33_TrM : aggB Tryz.prog 33 = some false := by kernel_rfl
theorem ag_34_TrM : aggB Tryz.prog 34 = some false := by kernel_rfl
theorem by_3_TrM : tbytes Tryz.prog 3 = some 8 := by kernel_rfl
theorem ca_139_TrM : callable Tryz.prog 139 = true := by kernel_rfl
theorem ca_140_TrM : callable Tryz.prog 140 = true := by kernel_rfl
theorem ca_141_TrM : callable Tryz.prog 141 = true := by kernel_rfl
theorem el_114_TrM : elemT Tryz.prog 114 = some 120 := by kernel_rfl
theorem fo_116_1_TrM : fieldO Tryz.prog 116 1 = some 1 := by kernel_rfl
theorem fo_120_0_TrM : fieldO Tryz.prog 120 0 = some 0 := by kernel_rfl
theorem fo_135_0_TrM : fieldO Tryz.prog 135 0 = some 0 := by kernel_rfl
theorem fo_135_1_TrM : fieldO Tryz.prog 135 1 = some 1 := by kernel_rfl
theorem fo_146_0_TrM : fieldO Tryz.prog 146 0 = some 0 := by kernel_rfl
theorem fo_146_1_TrM : fieldO Tryz.prog 146 1 = some 1 := by kernel_rfl
theorem fo_146_2_TrM : fieldO Tryz.prog 146 2 = some 2 := by kernel_rfl
theorem pl_120_TrM : placesB Tryz.prog 120 = some [(0, 1), (1, 1), (2, 1)] := by kernel_rfl
theorem sz_116_TrM : tsize Tryz.prog 116 = some 2 := by kernel_rfl
theorem sz_120_TrM : tsize Tryz.prog 120 = some 3 := by kernel_rfl
theorem zc_120_TrM : zcells Tryz.prog 120 = some ([.slice none 0 0, .slice none 0 0, .int .i64 0]) := by kernel_rfl
theorem zc_3_TrM : zcells Tryz.prog 3 = some ([.int .i64 0]) := by kernel_rfl
attribute [local irreducible] Wops W Wq Wt

theorem Grown.trans {F F' F'' : Mut} {w w' w'' : World} (h1 : Grown F F' w w') (h2 : Grown F' F'' w' w'') : Grown F F'' w w'' := by
  obtain ⟨⟨S1, hS1, hx1⟩, g1⟩ := h1
  obtain ⟨⟨S2, hS2, hx2⟩, g2⟩ := h2
  have hs := hx1.size
  refine ⟨⟨S1 ++ S2.filter (fun x => decide (x < w.heap.size)), fun x hx => ?_, (hx1.mono fun x h => List.mem_append_left _ h).then hx2 fun x h => ?_⟩, fun x h => ?_⟩
  · rcases List.mem_append.1 hx with h | h
    · exact hS1 x h
    · have h5 := List.mem_filter.1 h
      have h6 : x < w.heap.size := by simpa using h5.2
      exact (g1 x (hS2 x h5.1)).elim id fun h7 => by omega
  · by_cases h6 : x < w.heap.size
    · exact .inl (List.mem_append_right _ (List.mem_filter.2 ⟨h, decide_eq_true h6⟩))
    · exact .inr (by omega)
  · rcases g2 x h with h | h
    · exact g1 x h
    · exact .inr (by omega)
/-- Blocks of one's own, beside what is M's. -/
structure Fo (w : World) (M : Mut) (Y : List (Nat × Obj)) : Prop where
  blk : ∀ y ∈ Y, w.heap[y.1]? = some y.2
  nd : Y.Pairwise fun x y => x.1 ≠ y.1
  off : ∀ y ∈ Y, ¬ M y.1
def MY (M : Mut) (Y : List (Nat × Obj)) : Mut := fun x => M x ∨ x ∈ Y.map (·.1)
section
variable {w w' : World} {M M' : Mut} {Y Y' : List (Nat × Obj)}
theorem Fo.nil : Fo w M [] := ⟨(fun y h => by cases h), List.Pairwise.nil, (fun y h => by cases h)⟩
theorem Fo.call (h : Fo w M Y) (t : Grown M M' w w') : Fo w' M' Y ∧ Grown (MY M Y) (MY M' Y) w w' := by
  obtain ⟨⟨S, hS, hx⟩, g⟩ := t
  refine ⟨⟨fun y hy => ?_, h.nd, fun y hy h5 => ?_⟩, ⟨⟨S, fun x hx => .inl (hS x hx), hx⟩, fun x h5 => ?_⟩⟩
  · rw [hx.block y.1 (heap_lt (h.blk y hy)) fun h5 => h.off y hy (hS _ h5)]; exact h.blk y hy
  · rcases g _ h5 with h6 | h6
    · exact h.off y hy h6
    · have := heap_lt (h.blk y hy); omega
  · rcases h5 with h5 | h5
    · exact (g x h5).imp .inl id
    · exact .inl (.inr h5)
theorem Fo.ctx (h : Fo w M Y) : Ctx w (Y.map (·.1)) w Y := Ctx.startL h.blk h.nd
theorem Fo.own (h : Fo w M Y) (hlt : ∀ x, M x → x < w.heap.size) (H : Ctx w (Y.map (·.1)) w' Y') : Fo w' M Y' ∧ Grown (MY M Y) (MY M Y') w w' := by
  refine ⟨⟨H.blk, H.nd, fun y hy h5 => ?_⟩, ⟨⟨Y.map (·.1), fun x hx => .inr hx, H.ext⟩, fun x h5 => ?_⟩⟩
  · rcases H.own y hy with h6 | h6
    · obtain ⟨z, hz, he⟩ := List.mem_map.1 h6
      exact h.off z hz (by rw [he]; exact h5)
    · have := hlt _ h5; omega
  · rcases h5 with h5 | h5
    · exact .inl (.inl h5)
    · obtain ⟨y, hy, rfl⟩ := List.mem_map.1 h5
      exact (H.own y hy).imp .inr id
theorem Fo.weak (h : Fo w M Y) (hM : ∀ x, M' x → M x) : Fo w M' Y := ⟨h.blk, h.nd, fun y hy h5 => h.off y hy (hM _ h5)⟩
/-- What may turn, and what one's caller may turn. -/
def MZ (M Z : Mut) : Mut := fun x => M x ∨ Z x
theorem Grown.or (t : Grown M M' w w') (Z : Mut) : Grown (MZ M Z) (MZ M' Z) w w' := by
  obtain ⟨⟨S, hS, hx⟩, g⟩ := t
  exact ⟨⟨S, fun x h => .inl (hS x h), hx⟩, fun x h => h.elim (fun h => (g x h).imp .inl id) fun h => .inl (.inr h)⟩
end
def pv (k : Nat) : Value := .int .i64 (k : Int)
def TC : Nat := 135
/-- A change that goes on. -/
structure Ch where
  A : Dev
  P : List Nat
  tk : List Nat
  gn : List Nat
abbrev CL (bt bc : Nat) (ta : Option Addr) (tn tc : Nat) (tf : List Value) (ga : Option Addr) (gn gc : Nat) (gf : List Value) : List (Nat × Obj) :=
  (bc, Bl TC [ptr bt, .slice ta tn tc, .slice ga gn gc]) :: (ent ta 3 tf ++ ent ga 3 gf)
structure Cx (w : World) (bt bd bp ba fr bc : Nat) (c : Ch) (F : Mut) (L : List (Nat × Obj)) : Prop where
  T : Tx w bt bd bp ba fr c.A c.P F L
  ex : ∃ ta tc tf ga gc gf, L = CL bt bc ta c.tk.length tc tf ga c.gn.length gc gf ∧ OS ta c.tk.length tc 1 tf (c.tk.map pv) ∧ OS ga c.gn.length gc 1 gf (c.gn.map pv)

def takeE7 (P : List Nat) : Int := if takeI P = P.length then 7 else 0
def takeK (P : List Nat) : Nat := if takeI P = P.length then 0 else takeI P
def takeP' (P : List Nat) : List Nat := if takeI P = P.length then P else P.set (takeI P) 2
theorem takeK_le (P : List Nat) : takeK P ≤ P.length := by
  have := (List.takeWhile_prefix (l := P) (fun s => decide (s ≠ 0))).length_le
  unfold takeK takeI; split <;> omega
theorem ptake2_ok {w : World} {bp ba : Nat} {P : List Nat} (h : PgAt w bp ba P) : Ret Tryz.prog 139 #[ptr bp] w fun v w' => v = .tuple #[.int .i64 (takeK P : Int), .int .i64 (takeE7 P)] ∧ PgAt w' bp ba (takeP' P) ∧ Ext [ba] w w' :=
  (ptake_ok h).mono fun v w' hh => by
    rcases hh with ⟨h1, hv, hp, hx⟩ | ⟨h1, hv, rfl⟩
    · have hn : ¬ takeI P = P.length := by omega
      rw [takeK, takeE7, takeP', if_neg hn, if_neg hn, if_neg hn]
      exact ⟨hv, hp, hx⟩
    · rw [takeK, takeE7, takeP', if_pos h1, if_pos h1, if_pos h1]
      exact ⟨hv, h, .refl _ _⟩

theorem seal_post {k : UInt8} {l : Byt} {w w' : World} {v : Value} (h : SealPost k l w v w') : ∃ a m c, v = .tuple #[.slice a (List.length m) c, .int .i64 (sealE k l)] ∧ Ext [] w w' ∧ Rdx w' (Old w) a m ∧ m.length ≤ c ∧ (sealE k l = 0 → m = sealB k l) := by
  rcases h with ⟨h0, rfl, hx⟩ | ⟨h0, s, rfl, B⟩
  · exact ⟨none, [], 0, rfl, hx, Rdx.nil, Nat.le_refl _, fun h => absurd h h0⟩
  · obtain ⟨a, c, rfl, R, hc, hn⟩ := B.ex
    exact ⟨a, _, c, by rw [h0], B.ext, Rdx.fresh R (.inr hn), hc, fun _ => rfl⟩
theorem Rd.turnM {w w' : World} {M M' : Mut} {α : Type} {a : Option Addr} {s : Nat} {enc : α → List Value} {l : List α} (R : Rd w a s enc l) (hs : l = [] ∨ ¬ M (adr a).block) (h0 : 0 < s) (he : ∀ x ∈ l, (enc x).length = s) (t : Grown M M' w w') : Rd w' a s enc l ∧ (l = [] ∨ ¬ M' (adr a).block) := by
  rcases hs with rfl | hs
  · exact ⟨Rd.nil, .inl rfl⟩
  · obtain ⟨⟨S, hS, hx⟩, g⟩ := t
    refine ⟨R.ext hx fun h => hs (hS _ h), ?_⟩
    rcases rd_ltN R h0 he with h | h
    · exact .inl h
    · exact .inr fun h5 => (g _ h5).elim hs fun h6 => by omega
def nodeB (inner : Bool) (L : List It) : Byt := sealB (kindI inner L) (bodyI inner L)
def nodeE (inner : Bool) (L : List It) : Int := sealE (kindI inner L) (bodyI inner L)
def keyOf0 (L : List It) : Byt := (L[0]?.map (·.key)).getD []
/-- A node is written: the error, the change behind it, the page. -/
def wrC (fr : Nat) (c : Ch) (inner : Bool) (L : List It) : Int × Ch :=
  if takeE7 c.P ≠ 0 then (takeE7 c.P, c)
  else if nodeE inner L ≠ 0 then (nodeE inner L, { c with P := takeP' c.P, tk := c.tk ++ [takeK c.P] })
  else (writeE c.A (((fr + takeK c.P : Nat)) : Int) (nodeB inner L), ⟨writeD c.A (((fr + takeK c.P : Nat)) : Int) (nodeB inner L), takeP' c.P, c.tk ++ [takeK c.P], c.gn⟩)

set_option maxRecDepth 20000 in
set_option maxHeartbeats 8000000 in
theorem write7_ok {w : World} {bt bd bp ba fr bc : Nat} {c : Ch} {F : Mut} {L : List (Nat × Obj)} (X : Cx w bt bd bp ba fr bc c F L) (hfr : fr ≤ 5000) (htk : c.tk.length ≤ 100000) (inner : Bool) {a : Option Addr} {n cc : Nat} {M : List It} (Z : Mut) (I : Its w (MZ (TM F ba bt bp L) Z) a n cc M) (hne : M ≠ []) (hm : n ≤ 1000)
    (hsz : ∀ x ∈ M, x.key.length ≤ 65535 ∧ x.val.length ≤ 65535) (hpg : ∀ x ∈ M, x.page < 9223372036854775808) {mx : Nat} (hfew : Few c.A mx) (hmx : mx ≤ 1000000000) :
    Ret Tryz.prog 80 #[ptr bc, .agg #[.bool inner, .slice a n cc]] w fun v w' => ∃ (m : Im) (F' : Mut) (L' : List (Nat × Obj)), v = .tuple #[.agg m.enc.toArray, .int .i64 (wrC fr c inner M).1] ∧ Cx w' bt bd bp ba fr bc (wrC fr c inner M).2 F' L' ∧ Grown (TM F ba bt bp L) (TM F' ba bt bp L') w w' ∧ m.Ok w' (MZ (TM F' ba bt bp L') Z) ∧ m.it.page ≤ 4096 ∧ ((wrC fr c inner M).1 = 0 → m.it = ⟨keyOf0 M, [], takeK c.P⟩) := by
  obtain ⟨w0, rfl⟩ : ∃ w0, w0 = w := ⟨_, rfl⟩
  obtain ⟨T, ta, tc, tf, ga, gc, gf, rfl, Ot, Og⟩ := X
  obtain ⟨wr, hwr⟩ : ∃ wr, wr = wrC fr c inner M := ⟨_, rfl⟩
  rw [← hwr]
  unfold wrC at hwr
  have hkl := takeK_le c.P
  have hpl := T.pg.len
  have H := T.ctx
  refine ret_of_W (fn := Tryz.f80) Tryz.func80 rfl [.pointer (some ⟨bc, 0, none⟩), .agg #[.bool inner, .slice a n cc]] rfl (by kernel_rfl) ?_
  refine W_rseq ?_
  refine op_box rfl [.bool inner, .slice a n cc] (.agg _) rfl rfl H ?_
  rintro b3 w - H
  refine op_alloc rfl zc_120_TrM H ?_
  rintro b4 w - H
  refine op_assign rfl (.int _ _) rfl ?_
  refine op_nil (at_then ?_)
  refine W_rseq ?_
  refine op_move rfl (.pointer _) rfl ?_
  refine op_nilCheck rfl rfl ?_
  refine op_fieldAddr rfl fo_135_0_TrM rfl ?_
  first | refine op_ldb rfl ag_34_TrM rfl H (by first | exact at0 | exact at1 | exact at2 | exact at3 | exact at4 | exact at5 | exact at6 | exact at7 | exact at8 | exact at9) rfl ?_ | refine op_ld rfl ag_34_TrM rfl (cell_bl (T.own H).1.tr (0 + 1)) ?_
  refine op_nilCheck rfl rfl ?_
  refine op_fieldAddr rfl fo_146_1_TrM rfl ?_
  first | refine op_ldb rfl ag_33_TrM rfl H (by first | exact at0 | exact at1 | exact at2 | exact at3 | exact at4 | exact at5 | exact at6 | exact at7 | exact at8 | exact at9) rfl ?_ | refine op_ld rfl ag_33_TrM rfl (cell_bl (T.own H).1.tr (0 + 1)) ?_
  obtain ⟨T1, G1⟩ := T.own H
  refine op_call rfl ca_139_TrM (ptake2_ok T1.pg) rfl ?_
  rintro v w2 ⟨rfl, hp2, hx2⟩
  obtain ⟨T2, G2⟩ := T1.page hp2 hx2
  have G12 := G1.trans G2
  replace H := T2.ctx
  refine op_move rfl (.tuple _) rfl ?_
  refine op_extract rfl rfl rfl ?_
  refine op_extract rfl rfl rfl ?_
  refine op_assign rfl (.int _ _) rfl ?_
  refine op_assign rfl (.int _ _) rfl ?_
  refine op_nil (at_then ?_)
  refine W_seq ?_
  refine W_rseq ?_
  refine op_move rfl (.int _ _) rfl ?_
  refine op_neq rfl rfl rfl ?_
  refine op_nil (at_then ?_)
  refine W_cond _ rfl ?_ ?_
  · intro h1
    replace h1 := ndec_t h1
    rw [if_pos h1] at hwr
    have hPP : takeP' c.P = c.P := by unfold takeP' takeE7 at *; split <;> simp_all
    refine W_rseq ?_
    refine op_buildS [.slice none 0 0, .slice none 0 0, .int .i64 0] rfl pl_120_TrM zc_120_TrM (by kernel_rfl) ?_
    refine op_move rfl (.int _ _) rfl ?_
    refine op_stb0 rfl sz_120_TrM rfl rfl rfl (by simp [oneCell]) H (by first | exact at0 | exact at1 | exact at2 | exact at3 | exact at4 | exact at5 | exact at6 | exact at7 | exact at8 | exact at9) rfl ?_
    rintro w H
    refine op_assign rfl (.int _ _) rfl ?_
    refine op_nil (at_then ?_)
    refine W_ret (ret_then (leave2b rfl rfl rfl ag_120_TrM sz_120_TrM H (by first | exact at0 | exact at1 | exact at2 | exact at3 | exact at4 | exact at5 | exact at6 | exact at7 | exact at8 | exact at9) rfl (show _ = (.int _ _) from rfl) ?_))
    obtain ⟨T3, G3⟩ := T2.own H.tail.tail
    rw [hPP] at T3
    exact ⟨⟨none, 0, none, 0, ⟨[], [], 0⟩⟩, F, _, by rw [hwr]; rfl, by rw [hwr]; exact ⟨T3, ta, tc, tf, ga, gc, gf, rfl, Ot, Og⟩, G12.trans G3, ⟨Rdx.nil, Rdx.nil, Nat.le_refl _, Nat.le_refl _⟩, Nat.zero_le _, fun h => absurd (by rw [hwr] at h; exact h) h1⟩
  · intro h1
    replace h1 := ndec_f h1
    rw [if_neg (by simpa using h1)] at hwr
    have hl1 : (c.tk ++ [takeK c.P]).length = c.tk.length + 1 := by simp
    refine W_skip (at_then ?_)
    refine W_rseq ?_
    refine op_move rfl (.pointer _) rfl ?_
    refine op_move rfl (.pointer _) rfl ?_
    refine op_nilCheck rfl rfl ?_
    refine op_fieldAddr rfl fo_135_1_TrM rfl ?_
    first | refine op_ldb rfl ag_57 rfl H (by first | exact at0 | exact at1 | exact at2 | exact at3 | exact at4 | exact at5 | exact at6 | exact at7 | exact at8 | exact at9) rfl ?_ | refine op_ld rfl ag_57 rfl (cell_bl (T.own H).1.tr (0 + 1)) ?_
    refine op_move rfl (.int _ _) rfl ?_
    refine op_build1 _ (.int _ _) rfl el_57 sz_3 zc_3_TrM rfl (by decide) (by decide) rfl rfl rfl H ?_
    rintro b30 w - H
    replace H := H.perm ((((List.perm_append_comm.cons _).cons _).cons _).cons _)
    refine op_appendb (L := _ :: _ :: _ :: ent ga 3 gf) rfl el_57 el_57 sz_3 by_3_TrM zc_3_TrM rfl (by decide) rfl rfl H Ot rfl (by simp [oneCell]) (by omega) ?_
    rintro a31 c31 f31 w H O31
    refine op_nilCheck rfl rfl ?_
    refine op_fieldAddr rfl fo_135_1_TrM rfl ?_
    refine op_stb (.slice _ _ _) rfl sz_57 rfl rfl rfl H (by first | exact at0 | exact at1 | exact at2 | exact at3 | exact at4 | exact at5 | exact at6 | exact at7 | exact at8 | exact at9) (by first | decide | (simp; done) | (simp; omega)) ?_
    rintro w H
    refine op_nil (at_then ?_)
    refine W_rseq ?_
    refine op_ldbN rfl ag_116_TrM sz_116_TrM rfl H (by first | exact at0 | exact at1 | exact at2 | exact at3 | exact at4 | exact at5 | exact at6 | exact at7 | exact at8 | exact at9) rfl ?_
    obtain ⟨T3, G3⟩ := T2.own H
    have G13 := G12.trans G3
    have hFlt := T3.lt
    have I3 := (I.weak fun _ h => Or.inl h).turn G13
    refine op_call rfl ca_140_TrM (bytes_ok inner I3 hm hsz hpg) rfl ?_
    rintro v w4 SP
    obtain ⟨sa, sm, sc, rfl, hx36, Xm, hmc, hmm⟩ := seal_post SP
    have T4 := T3.call hx36
    have G14 := G13.trans (.call0 hx36)
    replace H := T4.ctx
    refine op_move rfl (.tuple _) rfl ?_
    refine op_extract rfl rfl rfl ?_
    refine op_extract rfl rfl rfl ?_
    refine op_assign rfl (.slice _ _ _) rfl ?_
    refine op_assign rfl (.int _ _) rfl ?_
    refine op_nil (at_then ?_)
    refine W_seq ?_
    refine W_rseq ?_
    refine op_move rfl (.int _ _) rfl ?_
    refine op_neq rfl rfl rfl ?_
    refine op_nil (at_then ?_)
    refine W_cond _ rfl ?_ ?_
    · intro h2
      replace h2 := ndec_t h2
      have h2' : nodeE inner M ≠ 0 := h2
      rw [if_pos h2'] at hwr
      have hO : OS a31 (c.tk ++ [takeK c.P]).length c31 1 f31 ((c.tk ++ [takeK c.P]).map pv) := by
        rw [hl1, List.map_append]; exact O31
      refine W_rseq ?_
      refine op_buildS [.slice none 0 0, .slice none 0 0, .int .i64 0] rfl pl_120_TrM zc_120_TrM (by kernel_rfl) ?_
      refine op_move rfl (.int _ _) rfl ?_
      refine op_stb0 rfl sz_120_TrM rfl rfl rfl (by simp [oneCell]) H (by first | exact at0 | exact at1 | exact at2 | exact at3 | exact at4 | exact at5 | exact at6 | exact at7 | exact at8 | exact at9) rfl ?_
      rintro w H
      refine op_assign rfl (.int _ _) rfl ?_
      refine op_nil (at_then ?_)
      refine W_ret (ret_then (leave2b rfl rfl rfl ag_120_TrM sz_120_TrM H (by first | exact at0 | exact at1 | exact at2 | exact at3 | exact at4 | exact at5 | exact at6 | exact at7 | exact at8 | exact at9) rfl (show _ = (.int _ _) from rfl) ?_))
      obtain ⟨T5, G5⟩ := T4.own (H.tail.tail.perm (List.perm_append_comm.cons _))
      refine ⟨⟨none, 0, none, 0, ⟨[], [], 0⟩⟩, F, _, by rw [hwr]; rfl, ?_, G14.trans G5, ⟨Rdx.nil, Rdx.nil, Nat.le_refl _, Nat.le_refl _⟩, Nat.zero_le _, fun h => absurd (by rw [hwr] at h; exact h) h2'⟩
      rw [hwr]
      exact ⟨T5, a31, c31, f31, ga, gc, gf, by rw [hl1]; rfl, hO, Og⟩
    · intro h2
      replace h2 := ndec_f h2
      have h2' : ¬ nodeE inner M ≠ 0 := fun h => h h2
      rw [if_neg h2'] at hwr
      have hmm' : sm = nodeB inner M := hmm h2
      have hO : OS a31 (c.tk ++ [takeK c.P]).length c31 1 f31 ((c.tk ++ [takeK c.P]).map pv) := by
        rw [hl1, List.map_append]; exact O31
      obtain ⟨ms, R, hs, hl, hok⟩ := I.ex
      have hs : ms = [] ∨ ¬ TM F ba bt bp _ (adr a).block := hs.imp id fun h h5 => h (Or.inl h5)
      have hml : ms.length = n := by rw [I.num, ← hl, List.length_map]
      have hMp : 0 < M.length := List.length_pos_iff.2 hne
      have hnum := I.num
      obtain ⟨x, hx0⟩ := get_some (l := ms) (i := 0) (by omega)
      have hxL := Im.at hl hx0
      have hk0 : keyOf0 M = x.it.key := by unfold keyOf0; rw [hxL]; rfl
      obtain ⟨R4, hs4⟩ := Rd.turnM R hs (by decide) (fun _ _ => rfl) G14
      have R4d := R4.ext0 (Ext.drew [] w4)
      have G1d := G14.trans (.call0 (Ext.drew [] w4))
      have T4d := T4.call (Ext.drew [] w4)
      have hbc : w4.heap[bc]? = some (Bl TC [ptr bt, .slice a31 (c.tk.length + 1) c31, .slice ga c.gn.length gc]) := H.get at2
      have hb3 : w4.heap[b3]? = some (Bl 116 [.bool inner, .slice a n cc]) := H.get at1
      have hbt := T4.tr
      have hcell := R4.fld hx0 rfl (j := 0) rfl
      have hbl : (bodyI inner M).length ≤ 505 := by
        unfold nodeE sealE at h2'
        by_cases h5 : 505 < (bodyI inner M).length
        · rw [decide_eq_true h5] at h2'
          exact absurd (by cases decide ((kindI inner M).toNat = 0) <;> simp) h2'
        · omega
      have hsl : sm.length = 512 := by rw [hmm']; exact seal_len hbl
      refine W_skip (at_then ?_)
      refine W_sseqz [([0, 1, 2, 3, 4, 5, 6, 7, 8, 9, 10, 11, 12, 13, 14, 15, 16, 17, 18, 19, 20, 21, 22, 23], 24), ([], 25), ([], 26)] (fun z => z.heap[bc]? = some (Bl TC [ptr bt, .slice a31 (c.tk.length + 1) c31, .slice ga c.gn.length gc]) ∧ z.heap[b3]? = some (Bl 116 [.bool inner, .slice a n cc]) ∧ z.heap[bt]? = some (Bl TT (TreeB bd bp fr)) ∧ z.cell? ⟨(adr a).block, (adr a).off + 0 * 3 + 0, none⟩ = some (.slice x.ka x.it.key.length x.kc)) [] mixed (by kernel_rfl) (⟨hbc, hb3, hbt, hcell⟩) ?_
      refine seg_cons rfl rfl ?_
      refine t_fieldAddr rfl fo_116_1_TrM rfl ?_
      first | refine t_ldb rfl ag_114_TrM rfl (fun _ _ => Ctx.start _ []) (by first | exact at0 | exact at1 | exact at2 | exact at3 | exact at4 | exact at5 | exact at6 | exact at7 | exact at8 | exact at9) rfl ?_ | refine t_ld rfl ag_114_TrM rfl (fun _ hx => cell_bl hx.1 (0 + 0)) ?_ | refine t_ld rfl ag_114_TrM rfl (fun _ hx => cell_bl hx.2.1 (0 + 1)) ?_ | refine t_ld rfl ag_114_TrM rfl (fun _ hx => cell_bl hx.2.2.1 (0 + 0)) ?_ | refine t_ld rfl ag_114_TrM rfl (fun _ hx => cell_bl hx.2.2.1 (0 + 2)) ?_ | refine t_ld rfl ag_114_TrM rfl (fun _ hx => hx.2.2.2) ?_
      first | refine t_indexRd R4 rfl el_114_TrM sz_120_TrM rfl rfl (by omega) (by omega) (by first | rfl | omega) ?_ | refine t_indexAddr rfl el_114_TrM sz_120_TrM rfl rfl (by omega) (by omega) ?_
      refine t_fieldAddr rfl fo_120_0_TrM rfl ?_
      first | refine t_ldb rfl ag_23 rfl (fun _ _ => Ctx.start _ []) (by first | exact at0 | exact at1 | exact at2 | exact at3 | exact at4 | exact at5 | exact at6 | exact at7 | exact at8 | exact at9) rfl ?_ | refine t_ld rfl ag_23 rfl (fun _ hx => cell_bl hx.1 (0 + 0)) ?_ | refine t_ld rfl ag_23 rfl (fun _ hx => cell_bl hx.2.1 (0 + 1)) ?_ | refine t_ld rfl ag_23 rfl (fun _ hx => cell_bl hx.2.2.1 (0 + 0)) ?_ | refine t_ld rfl ag_23 rfl (fun _ hx => cell_bl hx.2.2.1 (0 + 2)) ?_ | refine t_ld rfl ag_23 rfl (fun _ hx => hx.2.2.2) ?_
      refine t_move rfl (.int _ _) rfl ?_
      refine t_buildS [.slice x.ka x.it.key.length x.kc, .slice none 0 0, .int .i64 (takeK c.P : Int)] rfl pl_120_TrM zc_120_TrM (by kernel_rfl) ?_
      refine t_move rfl (.pointer _) rfl ?_
      refine t_nilCheck rfl rfl ?_
      refine t_fieldAddr rfl fo_135_0_TrM rfl ?_
      first | refine t_ldb rfl ag_34_TrM rfl (fun _ _ => Ctx.start _ []) (by first | exact at0 | exact at1 | exact at2 | exact at3 | exact at4 | exact at5 | exact at6 | exact at7 | exact at8 | exact at9) rfl ?_ | refine t_ld rfl ag_34_TrM rfl (fun _ hx => cell_bl hx.1 (0 + 0)) ?_ | refine t_ld rfl ag_34_TrM rfl (fun _ hx => cell_bl hx.2.1 (0 + 1)) ?_ | refine t_ld rfl ag_34_TrM rfl (fun _ hx => cell_bl hx.2.2.1 (0 + 0)) ?_ | refine t_ld rfl ag_34_TrM rfl (fun _ hx => cell_bl hx.2.2.1 (0 + 2)) ?_ | refine t_ld rfl ag_34_TrM rfl (fun _ hx => hx.2.2.2) ?_
      refine t_nilCheck rfl rfl ?_
      refine t_fieldAddr rfl fo_146_0_TrM rfl ?_
      first | refine t_ldb rfl ag_32 rfl (fun _ _ => Ctx.start _ []) (by first | exact at0 | exact at1 | exact at2 | exact at3 | exact at4 | exact at5 | exact at6 | exact at7 | exact at8 | exact at9) rfl ?_ | refine t_ld rfl ag_32 rfl (fun _ hx => cell_bl hx.1 (0 + 0)) ?_ | refine t_ld rfl ag_32 rfl (fun _ hx => cell_bl hx.2.1 (0 + 1)) ?_ | refine t_ld rfl ag_32 rfl (fun _ hx => cell_bl hx.2.2.1 (0 + 0)) ?_ | refine t_ld rfl ag_32 rfl (fun _ hx => cell_bl hx.2.2.1 (0 + 2)) ?_ | refine t_ld rfl ag_32 rfl (fun _ hx => hx.2.2.2) ?_
      refine t_move rfl (.pointer _) rfl ?_
      refine t_nilCheck rfl rfl ?_
      refine t_fieldAddr rfl fo_135_0_TrM rfl ?_
      first | refine t_ldb rfl ag_34_TrM rfl (fun _ _ => Ctx.start _ []) (by first | exact at0 | exact at1 | exact at2 | exact at3 | exact at4 | exact at5 | exact at6 | exact at7 | exact at8 | exact at9) rfl ?_ | refine t_ld rfl ag_34_TrM rfl (fun _ hx => cell_bl hx.1 (0 + 0)) ?_ | refine t_ld rfl ag_34_TrM rfl (fun _ hx => cell_bl hx.2.1 (0 + 1)) ?_ | refine t_ld rfl ag_34_TrM rfl (fun _ hx => cell_bl hx.2.2.1 (0 + 0)) ?_ | refine t_ld rfl ag_34_TrM rfl (fun _ hx => cell_bl hx.2.2.1 (0 + 2)) ?_ | refine t_ld rfl ag_34_TrM rfl (fun _ hx => hx.2.2.2) ?_
      refine t_nilCheck rfl rfl ?_
      refine t_fieldAddr rfl fo_146_2_TrM rfl ?_
      first | refine t_ldb rfl ag_3 rfl (fun _ _ => Ctx.start _ []) (by first | exact at0 | exact at1 | exact at2 | exact at3 | exact at4 | exact at5 | exact at6 | exact at7 | exact at8 | exact at9) rfl ?_ | refine t_ld rfl ag_3 rfl (fun _ hx => cell_bl hx.1 (0 + 0)) ?_ | refine t_ld rfl ag_3 rfl (fun _ hx => cell_bl hx.2.1 (0 + 1)) ?_ | refine t_ld rfl ag_3 rfl (fun _ hx => cell_bl hx.2.2.1 (0 + 0)) ?_ | refine t_ld rfl ag_3 rfl (fun _ hx => cell_bl hx.2.2.1 (0 + 2)) ?_ | refine t_ld rfl ag_3 rfl (fun _ hx => hx.2.2.2) ?_
      refine t_move rfl (.int _ _) rfl ?_
      refine t_add_i64 rfl rfl rfl (by omega) (by omega) ?_
      rw [show (fr : Int) + (takeK c.P : Int) = ((fr + takeK c.P : Nat) : Int) by omega]
      refine t_move rfl (.slice _ _ _) rfl ?_
      refine t_nil ?_
      skip
      refine op_call rfl ca_141_TrM (dwrite_ok ((fr + takeK c.P : Nat) : Int) sa sc _ sm (Xm.1.ext0 (Ext.drew [] w4)) rfl (by omega) (Xm.2.imp id fun h hf => h (hFlt _ hf)) hfew (by omega) T4d.dev) rfl ?_
      rintro v w5 ⟨rfl, hd5, ht5⟩
      obtain ⟨T5, G5⟩ := T4d.devs hd5 ht5 (fun x hx => hx)
      obtain ⟨R5, hs5⟩ := Rd.turnM R4d hs4 (by decide) (fun _ _ => rfl) G5
      replace H := T5.ctx
      have G15 := G1d.trans G5
      refine op_nil (at_seg (⟨T5.ctx.get at2, T5.ctx.get at1, T5.tr, R5.fld hx0 rfl (j := 0) rfl⟩) ?_)
      refine seg_cons rfl rfl ?_
      refine t_nil ?_
      refine op_stb0 rfl sz_120_TrM rfl rfl rfl (by simp [oneCell]) H (by first | exact at0 | exact at1 | exact at2 | exact at3 | exact at4 | exact at5 | exact at6 | exact at7 | exact at8 | exact at9) rfl ?_
      rintro w H
      refine op_nil (at_seg (⟨H.get at2, H.get at1, (T5.own H).1.tr, (Rd.turnM R5 hs5 (by decide) (fun _ _ => rfl) (T5.own H).2).1.fld hx0 rfl (j := 0) rfl⟩) ?_)
      refine seg_cons rfl rfl ?_
      refine t_nil ?_
      refine op_assign rfl (.int _ _) rfl ?_
      refine op_nil (at_seg (⟨H.get at2, H.get at1, (T5.own H).1.tr, (Rd.turnM R5 hs5 (by decide) (fun _ _ => rfl) (T5.own H).2).1.fld hx0 rfl (j := 0) rfl⟩) ?_)
      refine seg_nil ?_
      refine W_ret (leave2b rfl rfl rfl ag_120_TrM sz_120_TrM H (by first | exact at0 | exact at1 | exact at2 | exact at3 | exact at4 | exact at5 | exact at6 | exact at7 | exact at8 | exact at9) rfl (show _ = (.int _ _) from rfl) ?_)
      obtain ⟨T6, G6⟩ := T5.own (H.tail.tail.perm (List.perm_append_comm.cons _))
      have G16 := G15.trans G6
      have hxo := (hok x (List.mem_of_getElem? hx0)).turn (G16.or Z)
      refine ⟨⟨x.ka, x.kc, none, 0, ⟨x.it.key, [], takeK c.P⟩⟩, _, _, by rw [hwr, hmm']; rfl, ?_, G16, ⟨hxo.k, Rdx.nil, hxo.kc, Nat.le_refl _⟩, by dsimp only; omega, fun _ => by rw [hk0]⟩
      rw [hwr]
      rw [hmm'] at T6
      exact ⟨T6, a31, c31, f31, ga, gc, gf, by rw [hl1]; rfl, hO, Og⟩

end Go.Proofs.YtbkadlngijkmmaaGreatDoor

/- A change reads a node, and puts what one has. -/
namespace Go.Proofs.YtbkadlngijkmmaaGreatDoor
open Go.GV
theorem ag_116_TrN : aggB Tryz.prog 116 = some true := by kernel_rfl
theorem ag_34_TrN : aggB Tryz.prog 34 = some false := by kernel_rfl
theorem by_3_TrN : tbytes Tryz.prog 3 = some 8 := by kernel_rfl
theorem ca_66_TrN : callable Tryz.prog 66 = true := by kernel_rfl
theorem fo_135_0_TrN : fieldO Tryz.prog 135 0 = some 0 := by kernel_rfl
theorem fo_135_2_TrN : fieldO Tryz.prog 135 2 = some 2 := by kernel_rfl
theorem sz_116_TrN : tsize Tryz.prog 116 = some 2 := by kernel_rfl
theorem zc_116_TrN : zcells Tryz.prog 116 = some ([.bool false, .slice none 0 0]) := by kernel_rfl
theorem zc_3_TrN : zcells Tryz.prog 3 = some ([.int .i64 0]) := by kernel_rfl
attribute [local irreducible] Wops W Wq Wt

/-- A node is read, which goes if all is well. -/
def rdC (fr : Nat) (c : Ch) (page depth : Nat) : Ch := if (readT c.A fr c.P.length (page : Int) (depth : Int)).1 = 0 then { c with gn := c.gn ++ [page] } else c

set_option maxRecDepth 20000 in
set_option maxHeartbeats 8000000 in
theorem cread_ok {w : World} {bt bd bp ba fr bc : Nat} {c : Ch} {F : Mut} {L : List (Nat × Obj)} (X : Cx w bt bd bp ba fr bc c F L) (hfr : fr ≤ 5000) (hgn : c.gn.length ≤ 100000) (page depth : Nat) (hp : page ≤ 9223372036854775807) {mx : Nat} (hfew : Few c.A mx) (hmx : mx ≤ 1000000000) :
    Ret Tryz.prog 168 #[ptr bc, .int .i64 (page : Int), .int .i64 (depth : Int)] w fun v w' => ∃ (inner : Bool) (a : Option Addr) (n cc : Nat) (L' : List (Nat × Obj)), v = .tuple #[.agg #[.bool inner, .slice a n cc], .int .i64 (readT c.A fr c.P.length (page : Int) (depth : Int)).1] ∧ Cx w' bt bd bp ba fr bc (rdC fr c page depth) F L' ∧ Grown (TM F ba bt bp L) (TM F ba bt bp L') w w' ∧
      ∀ i M, (readT c.A fr c.P.length (page : Int) (depth : Int)).2 = some (i, M) → inner = i ∧ Its w' (MZ (TM F ba bt bp L') (Old w)) a n cc M ∧ ∀ x ∈ M, x.key.length ≤ 505 ∧ x.val.length ≤ 505 ∧ x.page < 4294967296 := by
  obtain ⟨w0, rfl⟩ : ∃ w0, w0 = w := ⟨_, rfl⟩
  obtain ⟨T, ta, tc, tf, ga, gc, gf, rfl, Ot, Og⟩ := X
  have H := T.ctx
  obtain ⟨rt, hrt⟩ : ∃ rt, rt = readT c.A fr c.P.length (page : Int) (depth : Int) := ⟨_, rfl⟩
  have hc2 : rdC fr c page depth = if rt.1 = 0 then { c with gn := c.gn ++ [page] } else c := by rw [hrt]; rfl
  refine ret_of_W (fn := Tryz.f168) Tryz.func168 rfl [.pointer (some ⟨bc, 0, none⟩), .int .i64 (page : Int), .int .i64 (depth : Int)] rfl (by kernel_rfl) ?_
  refine W_rseq ?_
  refine op_alloc rfl zc_116_TrN H ?_
  rintro b6 w - H
  refine op_assign rfl (.int _ _) rfl ?_
  refine op_nil (at_then ?_)
  refine W_rseq ?_
  refine op_move rfl (.pointer _) rfl ?_
  refine op_nilCheck rfl rfl ?_
  refine op_fieldAddr rfl fo_135_0_TrN rfl ?_
  refine op_ldb rfl ag_34_TrN rfl H (by first | exact at0 | exact at1 | exact at2 | exact at3 | exact at4 | exact at5 | exact at6 | exact at7 | exact at8 | exact at9) rfl ?_
  refine op_move rfl (.int _ _) rfl ?_
  refine op_move rfl (.int _ _) rfl ?_
  obtain ⟨T1, G1⟩ := T.own H
  have hml := T1.mlt
  have hsz := H.ext.size
  refine op_call rfl ca_66_TrN (read7_ok T1 hfr (page : Int) (depth : Int) (by omega) hfew hmx) rfl ?_
  rintro v w2 ⟨inner, aa, nn, cc, rfl, hx17, hits⟩
  have T2 := T1.call hx17
  have G12 := G1.trans (.call0 hx17)
  rw [← hrt] at hits
  rw [← hrt]
  replace H := T2.ctx
  refine op_move rfl (.tuple _) rfl ?_
  refine op_extract rfl rfl rfl ?_
  refine op_extract rfl rfl rfl ?_
  refine op_alloc rfl zc_116_TrN H ?_
  rintro b8 w - H
  refine op_stb0 rfl sz_116_TrN rfl rfl rfl (by simp [oneCell]) H (by first | exact at0 | exact at1 | exact at2 | exact at3 | exact at4 | exact at5 | exact at6 | exact at7 | exact at8 | exact at9) rfl ?_
  rintro w H
  refine op_assign rfl (.int _ _) rfl ?_
  refine op_nil (at_then ?_)
  refine W_seq ?_
  refine W_rseq ?_
  refine op_move rfl (.int _ _) rfl ?_
  refine op_eql rfl rfl rfl ?_
  refine op_nil (at_then ?_)
  refine W_cond _ rfl ?_ ?_
  · intro h1
    replace h1 := dec_t h1
    rw [if_pos h1] at hc2
    have hl1 : (c.gn ++ [page]).length = c.gn.length + 1 := by simp
    refine W_region ?_
    refine op_move rfl (.pointer _) rfl ?_
    refine op_move rfl (.pointer _) rfl ?_
    refine op_nilCheck rfl rfl ?_
    refine op_fieldAddr rfl fo_135_2_TrN rfl ?_
    refine op_ldb rfl ag_57 rfl H (by first | exact at0 | exact at1 | exact at2 | exact at3 | exact at4 | exact at5 | exact at6 | exact at7 | exact at8 | exact at9) rfl ?_
    refine op_move rfl (.int _ _) rfl ?_
    refine op_build1 _ (.int _ _) rfl el_57 sz_3 zc_3_TrN rfl (by decide) (by decide) rfl rfl rfl H ?_
    rintro b28 w - H
    refine op_appendb (L := _ :: _ :: _ :: ent ta 3 tf) rfl el_57 el_57 sz_3 by_3_TrN zc_3_TrN rfl (by decide) rfl rfl H Og rfl (by simp [oneCell]) (by omega) ?_
    rintro a29 c29 f29 w H O29
    refine op_nilCheck rfl rfl ?_
    refine op_fieldAddr rfl fo_135_2_TrN rfl ?_
    refine op_stb (.slice _ _ _) rfl sz_57 rfl rfl rfl H (by first | exact at0 | exact at1 | exact at2 | exact at3 | exact at4 | exact at5 | exact at6 | exact at7 | exact at8 | exact at9) (by first | decide | (simp; done) | (simp; omega)) ?_
    rintro w H
    refine op_nil (at_then ?_)
    refine W_rseq ?_
    refine op_ldbN rfl ag_116_TrN sz_116_TrN rfl H (by first | exact at0 | exact at1 | exact at2 | exact at3 | exact at4 | exact at5 | exact at6 | exact at7 | exact at8 | exact at9) rfl ?_
    refine op_move rfl (.int _ _) rfl ?_
    refine op_stb0 rfl sz_116_TrN rfl rfl rfl (by simp [oneCell]) H (by first | exact at0 | exact at1 | exact at2 | exact at3 | exact at4 | exact at5 | exact at6 | exact at7 | exact at8 | exact at9) rfl ?_
    rintro w H
    refine op_assign rfl (.int _ _) rfl ?_
    refine op_nil (at_then ?_)
    refine W_ret (leave2b rfl rfl rfl ag_116_TrN sz_116_TrN H (by first | exact at0 | exact at1 | exact at2 | exact at3 | exact at4 | exact at5 | exact at6 | exact at7 | exact at8 | exact at9) rfl (show _ = (.int _ _) from rfl) ?_)
    have hO : OS a29 (c.gn ++ [page]).length c29 1 f29 ((c.gn ++ [page]).map pv) := by
      rw [hl1, List.map_append]; exact O29
    obtain ⟨T5, G5⟩ := T2.own H.tail.tail
    have G15 := G12.trans G5
    refine ⟨inner, aa, nn, cc, _, rfl, ?_, G15, fun i M h => ?_⟩
    · rw [hc2]
      exact ⟨T5, ta, tc, tf, a29, c29, f29, by rw [hl1]; rfl, Ot, hO⟩
    · obtain ⟨h5, h6, h7⟩ := hits i M h
      exact ⟨h5, (h6.weak (M' := MZ _ (Old w0)) fun x h => h.elim (hml x) fun h => Nat.lt_of_lt_of_le h hsz).turn (G5.or _), h7⟩
  · intro h1
    replace h1 := dec_f h1
    rw [if_neg h1] at hc2
    refine W_skip (at_then ?_)
    refine W_rseq ?_
    refine op_ldbN rfl ag_116_TrN sz_116_TrN rfl H (by first | exact at0 | exact at1 | exact at2 | exact at3 | exact at4 | exact at5 | exact at6 | exact at7 | exact at8 | exact at9) rfl ?_
    refine op_move rfl (.int _ _) rfl ?_
    refine op_stb0 rfl sz_116_TrN rfl rfl rfl (by simp [oneCell]) H (by first | exact at0 | exact at1 | exact at2 | exact at3 | exact at4 | exact at5 | exact at6 | exact at7 | exact at8 | exact at9) rfl ?_
    rintro w H
    refine op_assign rfl (.int _ _) rfl ?_
    refine op_nil (at_then ?_)
    refine W_ret (leave2b rfl rfl rfl ag_116_TrN sz_116_TrN H (by first | exact at0 | exact at1 | exact at2 | exact at3 | exact at4 | exact at5 | exact at6 | exact at7 | exact at8 | exact at9) rfl (show _ = (.int _ _) from rfl) ?_)
    obtain ⟨T5, G5⟩ := T2.own H.tail.tail
    have G15 := G12.trans G5
    refine ⟨inner, aa, nn, cc, _, rfl, ?_, G15, fun i M h => ?_⟩
    · rw [hc2]
      exact ⟨T5, ta, tc, tf, ga, gc, gf, rfl, Ot, Og⟩
    · obtain ⟨h5, h6, h7⟩ := hits i M h
      exact ⟨h5, (h6.weak (M' := MZ _ (Old w0)) fun x h => h.elim (hml x) fun h => Nat.lt_of_lt_of_le h hsz).turn (G5.or _), h7⟩

/-- What nodes have is written, one by one. -/
def putF (fr : Nat) (inner : Bool) : List (List It) → Ch → List It → Int × Ch × List It
  | [], c, acc => (0, c, acc)
  | h :: t, c, acc => if (wrC fr c inner h).1 = 0 then putF fr inner t (wrC fr c inner h).2 (acc ++ [⟨keyOf0 h, [], takeK c.P⟩]) else ((wrC fr c inner h).1, (wrC fr c inner h).2, [])
def putC (fr : Nat) (c : Ch) (inner : Bool) (L : List It) : Int × Ch × List It := if L = [] then (0, c, []) else putF fr inner (halvesN inner L) c []
theorem wrC_few {fr : Nat} {c : Ch} {inner : Bool} {M : List It} {m : Nat} (h : Few c.A m) : Few (wrC fr c inner M).2.A (m + 1) := by
  unfold wrC
  split
  · exact h.mono (by omega)
  · split
    · exact h.mono (by omega)
    · exact write_few h _ _
theorem wrC_tk {fr : Nat} {c : Ch} {inner : Bool} {M : List It} : (wrC fr c inner M).2.tk.length ≤ c.tk.length + 1 := by
  unfold wrC
  split
  · exact Nat.le_succ _
  · split
    · rw [List.length_append]; exact Nat.le_refl _
    · rw [List.length_append]; exact Nat.le_refl _

end Go.Proofs.YtbkadlngijkmmaaGreatDoor

/- A change puts what a node has, in one or two. -/
namespace Go.Proofs.YtbkadlngijkmmaaGreatDoor
open Go.GV
attribute [local irreducible] Wops W Wq Wt

theorem Tx.side {w w' : World} {bt bd bp ba fr : Nat} {A : Dev} {P : List Nat} {F : Mut} {L : List (Nat × Obj)} {S : List Nat} (T : Tx w bt bd bp ba fr A P F L) (hx : Ext S w w') (hS : ∀ x ∈ S, ¬ TM F ba bt bp L x) : Tx w' bt bd bp ba fr A P F L := by
  have hs := hx.size
  refine ⟨?_, T.pg.keep hx (fun h => hS _ h (.inr (.inr (.inr (.inl rfl))))) (fun h => hS _ h (.inr (.inl rfl))), T.dev.keep hx fun x h hf => hS x h (.inl hf), fun x hm => ?_, T.nd, T.off, T.nbt, T.nbp, T.nba, fun x h => by have := T.lt x h; omega⟩
  · rw [hx.block bt (heap_lt T.tr) fun h => hS _ h (.inr (.inr (.inl rfl)))]; exact T.tr
  · rw [hx.block x.1 (heap_lt (T.blk x hm)) fun h => hS _ h (.inr (.inr (.inr (.inr (List.mem_map.2 ⟨x, hm, rfl⟩)))))]; exact T.blk x hm
theorem Cx.side {w w' : World} {bt bd bp ba fr bc : Nat} {c : Ch} {F : Mut} {L : List (Nat × Obj)} {Y : List (Nat × Obj)} (X : Cx w bt bd bp ba fr bc c F L) (O : Fo w (TM F ba bt bp L) Y) (hx : Ext (Y.map (·.1)) w w') : Cx w' bt bd bp ba fr bc c F L :=
  ⟨X.T.side hx fun x h => by obtain ⟨y, hy, rfl⟩ := List.mem_map.1 h; exact O.off y hy, X.ex⟩

end Go.Proofs.YtbkadlngijkmmaaGreatDoor

/- A change puts what a node has, in one or two: the walk. -/
namespace Go.Proofs.YtbkadlngijkmmaaGreatDoor
open Go.GV
attribute [local irreducible] Wops W Wq Wt

theorem halves_mem {inner : Bool} {L h : List It} (hh : h ∈ halvesN inner L) : h.length ≤ L.length ∧ ∀ x ∈ h, x ∈ L := by
  unfold halvesN at hh
  split at hh
  · rw [List.mem_singleton.1 hh]; exact ⟨Nat.le_refl _, fun _ h => h⟩
  · simp only [List.mem_cons, List.not_mem_nil, or_false] at hh
    rcases hh with rfl | rfl
    · exact ⟨by simp; omega, fun x h => List.mem_of_mem_take h⟩
    · exact ⟨by simp, fun x h => List.mem_of_mem_drop h⟩
theorem halves_num (inner : Bool) (L : List It) : (halvesN inner L).length ≤ 2 := by
  unfold halvesN
  split <;> simp
theorem MY.le {M : Mut} {Y : List (Nat × Obj)} : ∀ x, M x → MY M Y x := fun _ h => .inl h
theorem Fo.lt {w : World} {M : Mut} {Y : List (Nat × Obj)} (O : Fo w M Y) (hlt : ∀ x, M x → x < w.heap.size) : ∀ x, MY M Y x → x < w.heap.size := fun x h => by
  rcases h with h | h
  · exact hlt x h
  · obtain ⟨y, hy, rfl⟩ := List.mem_map.1 h
    exact heap_lt (O.blk y hy)

end Go.Proofs.YtbkadlngijkmmaaGreatDoor

/- A change puts what a node has: the walk. -/
namespace Go.Proofs.YtbkadlngijkmmaaGreatDoor
open Go.GV
theorem ag_114_TrQ : aggB Tryz.prog 114 = some false := by kernel_rfl
theorem ag_116_TrQ : aggB Tryz.prog 116 = some true := by kernel_rfl
theorem ag_120_TrQ : aggB Tryz.prog 120 = some true := by kernel_rfl
theorem by_120_TrQ : tbytes Tryz.prog 120 = some 56 := by kernel_rfl
theorem ca_200_TrQ : callable Tryz.prog 200 = true := by kernel_rfl
theorem ca_80_TrQ : callable Tryz.prog 80 = true := by kernel_rfl
theorem el_114_TrQ : elemT Tryz.prog 114 = some 120 := by kernel_rfl
theorem el_137_TrQ : elemT Tryz.prog 137 = some 116 := by kernel_rfl
theorem fo_116_1_TrQ : fieldO Tryz.prog 116 1 = some 1 := by kernel_rfl
theorem sz_116_TrQ : tsize Tryz.prog 116 = some 2 := by kernel_rfl
theorem sz_120_TrQ : tsize Tryz.prog 120 = some 3 := by kernel_rfl
theorem zc_116_TrQ : zcells Tryz.prog 116 = some ([.bool false, .slice none 0 0]) := by kernel_rfl
theorem zc_120_TrQ : zcells Tryz.prog 120 = some ([.slice none 0 0, .slice none 0 0, .int .i64 0]) := by kernel_rfl
attribute [local irreducible] Wops W Wq Wt

/-- Where the walk stands: the slice of what was put, the world's tree, the change. -/
structure PS where
  i : Nat
  a : Option Addr
  c : Nat
  full : List Value
  ms : List Im
  F : Mut
  L : List (Nat × Obj)
  ch : Ch
theorem MYZ {M Z : Mut} {Y : List (Nat × Obj)} : ∀ x, MZ M (MY Z Y) x → MY (MZ M Z) Y x := fun x h => h.elim (fun h => .inl (.inl h)) fun h => h.elim (fun h => .inl (.inr h)) .inr
theorem MYZ' {M Z : Mut} {Y : List (Nat × Obj)} : ∀ x, MY (MZ M Z) Y x → MZ M (MY Z Y) x := fun x h => h.elim (fun h => h.elim .inl fun h => .inr (.inl h)) fun h => .inr (.inr h)
theorem MY.nil {M : Mut} : ∀ x, MY M [] x → M x := fun x h => h.elim id fun h => by cases h
theorem Grown.side {w0 w w' : World} {M M' : Mut} {S : List Nat} (t : Grown M M' w0 w) (hx : Ext S w w') (hy : ∀ y ∈ S, w0.heap.size ≤ y) : Grown M M' w0 w' := by
  obtain ⟨⟨S, hS, h1⟩, g⟩ := t
  exact ⟨⟨S, hS, h1.then hx fun y h => .inr (hy y h)⟩, g⟩
theorem encN_one (inner : Bool) (x : SN) : ∀ v ∈ encN inner x, oneCell v = true := fun v hv => by
  simp only [encN, List.mem_cons, List.not_mem_nil, or_false] at hv
  rcases hv with rfl | rfl <;> rfl
theorem young {w0 w w' : World} {Y Y' : List (Nat × Obj)} (h : ∀ y ∈ Y.map (·.1), w0.heap.size ≤ y) (hle : w0.heap.size ≤ w.heap.size) (H : Ctx w (Y.map (·.1)) w' Y') : ∀ y ∈ Y'.map (·.1), w0.heap.size ≤ y := fun y hy => by
  obtain ⟨z, hz, rfl⟩ := List.mem_map.1 hy
  exact (H.own z hz).elim (h _) fun h5 => by omega
abbrev PY (b3 : Nat) (inner : Bool) (a : Option Addr) (n cc : Nat) (s : PS) : List (Nat × Obj) :=
  (b3, Bl 116 [.bool inner, .slice a n cc]) :: ent s.a 120 s.full

set_option maxRecDepth 20000 in
set_option maxHeartbeats 8000000 in
theorem put7_ok {w : World} {bt bd bp ba fr bc : Nat} {c : Ch} {F : Mut} {L : List (Nat × Obj)} (X : Cx w bt bd bp ba fr bc c F L) (hfr : fr ≤ 5000) (htk : c.tk.length ≤ 99990) (inner : Bool) {a : Option Addr} {n cc : Nat} {M : List It} (Z : Mut) (hZ : ∀ x, Z x → x < w.heap.size) (I : Its w (MZ (TM F ba bt bp L) Z) a n cc M) (hm : n ≤ 1000)
    (hsz : ∀ x ∈ M, x.key.length ≤ 65535 ∧ x.val.length ≤ 65535) (hpg : ∀ x ∈ M, x.page < 9223372036854775808) (hne : M ≠ [] → ∀ h ∈ halvesN inner M, h ≠ []) {mx : Nat} (hfew : Few c.A mx) (hmx : mx ≤ 999999990) :
    Ret Tryz.prog 169 #[ptr bc, .agg #[.bool inner, .slice a n cc]] w fun v w' => ∃ (a' : Option Addr) (n' c' : Nat) (F' : Mut) (L' : List (Nat × Obj)), v = .tuple #[.slice a' n' c', .int .i64 (putC fr c inner M).1] ∧ Cx w' bt bd bp ba fr bc (putC fr c inner M).2.1 F' L' ∧ Grown (TM F ba bt bp L) (TM F' ba bt bp L') w w' ∧ Its w' (MZ (TM F' ba bt bp L') Z) a' n' c' (putC fr c inner M).2.2 := by
  obtain ⟨w0, rfl⟩ : ∃ w0, w0 = w := ⟨_, rfl⟩
  have hnum := I.num
  have hlt0 : ∀ x, MZ (TM F ba bt bp L) Z x → x < w0.heap.size := fun x h => h.elim (X.T.mlt x) (hZ x)
  obtain ⟨pc, hpc⟩ : ∃ pc, pc = putC fr c inner M := ⟨_, rfl⟩
  rw [← hpc]
  unfold putC at hpc
  have H := Ctx.start w0 []
  refine ret_of_W (fn := Tryz.f169) Tryz.func169 rfl [.pointer (some ⟨bc, 0, none⟩), .agg #[.bool inner, .slice a n cc]] rfl (by kernel_rfl) ?_
  refine W_rseq ?_
  refine op_box rfl [.bool inner, .slice a n cc] (.agg _) rfl rfl H ?_
  rintro b3 w - H
  refine op_assign rfl (.slice _ _ _) rfl ?_
  refine op_assign rfl (.int _ _) rfl ?_
  refine op_nil (at_then ?_)
  refine W_seq ?_
  refine W_rseq ?_
  refine op_fieldAddr rfl fo_116_1_TrQ rfl ?_
  refine op_ldb rfl ag_114_TrQ rfl H (by first | exact at0 | exact at1 | exact at2 | exact at3 | exact at4 | exact at5 | exact at6 | exact at7 | exact at8 | exact at9) rfl ?_
  refine op_len rfl el_114_TrQ rfl ?_
  refine op_eql rfl rfl rfl ?_
  refine op_nil (at_then ?_)
  refine W_cond _ rfl ?_ ?_
  · intro h1
    replace h1 := dec_t h1
    have hM0 : M = [] := List.eq_nil_of_length_eq_zero (by omega)
    rw [if_pos hM0] at hpc
    refine W_rseq ?_
    refine op_assign rfl (.slice _ _ _) rfl ?_
    refine op_assign rfl (.int _ _) rfl ?_
    refine op_nil (at_then ?_)
    refine W_ret (ret_then (leave2 (v1 := (.slice _ _ _)) (v2 := (.int _ _)) rfl rfl rfl rfl ?_))
    have hx0 := H.ext
    obtain ⟨O1, G1⟩ := Fo.nil.own hlt0 H
    exact ⟨none, 0, 0, F, L, by rw [hpc], by rw [hpc]; exact X.side Fo.nil H.ext, .call0 H.ext, by rw [hpc]; exact Its.nil⟩
  · intro h1
    replace h1 := dec_f h1
    have hM0 : M ≠ [] := fun h => h1 (by have h5 := congrArg List.length h; rw [List.length_nil] at h5; omega)
    rw [if_neg hM0] at hpc
    replace hne := hne hM0
    refine W_skip (at_then ?_)
    refine W_seq ?_
    refine W_rseq ?_
    refine op_ldbN rfl ag_116_TrQ sz_116_TrQ rfl H (by first | exact at0 | exact at1 | exact at2 | exact at3 | exact at4 | exact at5 | exact at6 | exact at7 | exact at8 | exact at9) rfl ?_
    obtain ⟨O1, G1⟩ := Fo.nil.own hlt0 H
    have X1 := X.side Fo.nil H.ext
    have hyo2 := young (w0 := w0) (Y := []) (fun y h => by cases h) (Nat.le_refl _) H
    have hsz1 := H.ext.size
    have GT1 : Grown (TM F ba bt bp L) (TM F ba bt bp L) w0 w := .call0 H.ext
    refine op_call rfl ca_200_TrQ (halves_ok (O1.lt fun x h => h.elim (X1.T.mlt x) fun h => Nat.lt_of_lt_of_le (hZ x h) hsz1) inner ((I.weak MY.nil).turn G1) (by omega) hsz) rfl ?_
    rintro v w2 ⟨an, nn, cn, rfl, N, hx2⟩
    obtain ⟨ms, R, hs, hl, hok⟩ := N.ex
    have hnn := N.num
    have h2 := halves_num inner M
    have hml : ms.length = nn := by rw [hnn, ← hl, List.length_map]
    obtain ⟨O2, G2⟩ := O1.call (.call0 hx2)
    have X2 := X1.side Fo.nil hx2
    have hsz2 := Nat.le_trans hsz1 hx2.size
    replace H := O2.ctx
    refine op_len rfl el_137_TrQ rfl ?_
    refine op_move rfl (.int _ _) rfl ?_
    refine op_nil (at_then ?_)
    refine W_block ?_
    refine W_loop 34359608240 (α := PS) (fun s => [(17, .int .i64 (s.i : Int)), (4, .slice s.a s.ms.length s.c)]) (fun s w' => s.i ≤ nn ∧ Cx w' bt bd bp ba fr bc s.ch s.F s.L ∧ Fo w' (MZ (TM s.F ba bt bp s.L) Z) (PY b3 inner a n cc s) ∧ Nds w' (MY (MZ (TM s.F ba bt bp s.L) Z) (PY b3 inner a n cc s)) inner an nn cn (halvesN inner M) ∧ OS s.a s.ms.length s.c 3 s.full (s.ms.flatMap Im.enc) ∧ (∀ m ∈ s.ms, m.Ok w' (MY (MZ (TM s.F ba bt bp s.L) Z) (PY b3 inner a n cc s))) ∧ Grown (TM F ba bt bp L) (TM s.F ba bt bp s.L) w0 w' ∧ pc = putF fr inner ((halvesN inner M).drop s.i) s.ch (s.ms.map (·.it)) ∧ Few s.ch.A (mx + s.i) ∧ s.ch.tk.length ≤ c.tk.length + s.i ∧ s.ms.length = s.i ∧ (∀ y ∈ (PY b3 inner a n cc s).map (·.1), w0.heap.size ≤ y) ∧ w0.heap.size ≤ w'.heap.size) (fun s => nn - s.i) ⟨0, none, 0, [], [], F, L, c⟩ rfl ?_ ?_ ?_
    · exact ⟨rfl, rfl, trivial⟩
    · exact ⟨Nat.zero_le _, X2, O2, N, OS.nil, (fun m h => by cases h), GT1.trans (.call0 hx2), hpc, hfew, Nat.le_refl _, rfl, hyo2, hsz2⟩
    · rintro ⟨i, a4, c4, f4, qs, F1, L1, c1⟩ j w ⟨hi, X3, O3, N3, OA, hqo, GT3, hpc3, hfew3, htk3, hqi, hyo, hsz3⟩; dsimp only at hi X3 O3 N3 OA hqo GT3 hpc3 hfew3 htk3 hqi hyo hsz3; dsimp only
      obtain ⟨ns, R3, hs3, hl3, hok3⟩ := N3.ex
      have hnl : ns.length = nn := by rw [hnn, ← hl3, List.length_map]
      have H := O3.ctx
      refine W_rseq ?_
      refine op_lss rfl rfl rfl ?_
      refine op_nil (at_then ?_)
      refine W_seq ?_
      refine W_cond _ rfl ?_ ?_
      · intro h3
        replace h3 := dec_t h3
        obtain ⟨x, hx1⟩ := get_some (l := ns) (i := i) (by omega)
        have hxL : (halvesN inner M)[i]? = some x.2.1 := by rw [← hl3, List.getElem?_map, hx1]; rfl
        have hxm := List.mem_of_getElem? hxL
        obtain ⟨hx2, hx3⟩ := halves_mem hxm
        have Ix := hok3 x (List.mem_of_getElem? hx1)
        rw [drop_cons hxL, putF] at hpc3
        refine W_skip (at_then ?_)
        refine W_seq ?_
        refine W_block ?_
        refine W_rseq ?_
        first | refine op_indexRd R rfl el_137_TrQ sz_116_TrQ rfl rfl (by omega) (by omega) (by first | rfl | omega) ?_ | refine op_indexAddr rfl el_137_TrQ sz_116_TrQ rfl rfl (by omega) (by omega) ?_
        refine op_ldN (encN inner x) rfl ag_116_TrQ sz_116_TrQ rfl rfl (R3.row hx1 rfl) ?_
        refine op_alloc rfl zc_116_TrQ H ?_
        rintro b7 w - H
        refine op_stb0 rfl sz_116_TrQ rfl rfl rfl (by first | exact (by first | exact encN_one _ _ | exact Im.oneE _) | simp [oneCell]) H (by first | exact at0 | exact at1 | exact at2 | exact at3 | exact at4 | exact at5 | exact at6 | exact at7 | exact at8 | exact at9) rfl ?_
        rintro w H
        refine op_nil (at_then ?_)
        refine W_rseq ?_
        refine op_move rfl (.pointer _) rfl ?_
        refine op_ldbN rfl ag_116_TrQ sz_116_TrQ rfl H (by first | exact at0 | exact at1 | exact at2 | exact at3 | exact at4 | exact at5 | exact at6 | exact at7 | exact at8 | exact at9) rfl ?_
        obtain ⟨O4, G4⟩ := O3.own (fun x h => h.elim (X3.T.mlt x) fun h => Nat.lt_of_lt_of_le (hZ x h) hsz3) H
        have X4 := X3.side (O3.weak fun _ h => .inl h) H.ext
        have GT4 := GT3.side H.ext hyo
        have hyo4 := young hyo hsz3 H
        have Iy := Ix.turn G4
        refine op_call rfl ca_80_TrQ (write7_ok X4 hfr (by omega) inner (MY Z _) (Iy.weak MYZ) (hne _ hxm) (by omega) (fun y hy => hsz y (hx3 y hy)) (fun y hy => hpg y (hx3 y hy)) hfew3 (by omega)) rfl ?_
        rintro v w5 ⟨m, F5, L5, rfl, X5, G5, hmo, hmp, hmi⟩
        have hmo := hmo.weak MYZ'
        obtain ⟨O5, GY5⟩ := O4.call (G5.or Z)
        have GT5 := GT4.trans G5
        have GY := G4.trans GY5
        replace H := O5.ctx
        refine op_move rfl (.tuple _) rfl ?_
        refine op_extract rfl rfl rfl ?_
        refine op_extract rfl rfl rfl ?_
        refine op_alloc rfl zc_120_TrQ H ?_
        rintro b8 w - H
        refine op_stb0 rfl sz_120_TrQ rfl rfl rfl (by first | exact (by first | exact encN_one _ _ | exact Im.oneE _) | simp [oneCell]) H (by first | exact at0 | exact at1 | exact at2 | exact at3 | exact at4 | exact at5 | exact at6 | exact at7 | exact at8 | exact at9) rfl ?_
        rintro w H
        refine op_assign rfl (.int _ _) rfl ?_
        refine op_nil (at_then ?_)
        refine W_seq ?_
        refine W_rseq ?_
        refine op_move rfl (.int _ _) rfl ?_
        refine op_neq rfl rfl rfl ?_
        refine op_nil (at_then ?_)
        refine W_cond _ rfl ?_ ?_
        · intro h4
          replace h4 := ndec_t h4
          rw [if_neg (show ¬ (wrC fr c1 inner x.2.1).1 = 0 from h4)] at hpc3
          refine W_rseq ?_
          refine op_move rfl (.int _ _) rfl ?_
          refine op_assign rfl (.slice _ _ _) rfl ?_
          refine op_assign rfl (.int _ _) rfl ?_
          refine op_nil (at_then ?_)
          refine W_ret (ret_then (ret_block (ret_then (ret_then (ret_block (ret_then (leave2 (v1 := (.slice _ _ _)) (v2 := (.int _ _)) rfl rfl rfl rfl ?_)))))))
          exact ⟨none, 0, 0, F5, L5, by rw [hpc3], by rw [hpc3]; exact X5.side (O5.weak fun _ h => .inl h) H.ext, GT5.side H.ext hyo4, by rw [hpc3]; exact Its.nil⟩
        · intro h4
          replace h4 := ndec_f h4
          have h5 : (wrC fr c1 inner x.2.1).1 = 0 := by simpa using h4
          rw [if_pos h5] at hpc3
          have hmi' := hmi h5
          refine W_skip (at_then ?_)
          refine W_region ?_
          refine op_move rfl (.slice _ _ _) rfl ?_
          refine op_ldbN rfl ag_120_TrQ sz_120_TrQ rfl H (by first | exact at0 | exact at1 | exact at2 | exact at3 | exact at4 | exact at5 | exact at6 | exact at7 | exact at8 | exact at9) rfl ?_
          refine op_build1 _ (.agg _) rfl el_114_TrQ sz_120_TrQ zc_120_TrQ rfl (by decide) (by decide) rfl rfl rfl H ?_
          rintro b32 w - H
          refine op_appendb (L := [_, _, _]) rfl el_114_TrQ el_114_TrQ sz_120_TrQ by_120_TrQ zc_120_TrQ rfl (by decide) rfl rfl H OA rfl (Im.oneE m) (by omega) ?_
          rintro a33 c33 f33 w H OB
          refine op_assign rfl (.slice _ _ _) rfl ?_
          refine op_nil (at_block (at_then ?_))
          refine W_region ?_
          refine op_add_i64 rfl rfl rfl (by omega) (by omega) ?_
          refine op_move rfl (.int _ _) rfl ?_
          refine op_nil (at_then ?_)
          have H6 := H.tail.tail
          have hsz5 : w0.heap.size ≤ w5.heap.size := GT5.1.choose_spec.2.size
          obtain ⟨O6, G6⟩ := O5.own (fun x h => h.elim (X5.T.mlt x) fun h => Nat.lt_of_lt_of_le (hZ x h) hsz5) H6
          have GG := GY.trans G6
          have hql : (qs ++ [m]).length = qs.length + 1 := by simp
          refine ⟨⟨i + 1, a33, c33, f33, qs ++ [m], F5, L5, (wrC fr c1 inner x.2.1).2⟩, rfl, ⟨rfl, by rw [hql]; rfl, trivial⟩, ⟨by dsimp only; omega, X5.side (O5.weak fun _ h => .inl h) H6.ext, O6, N3.turn GG, by dsimp only; rw [hql, List.flatMap_append]; simpa using OB, fun q hq => ?_, GT5.side H6.ext hyo4, ?_, by dsimp only; exact (wrC_few hfew3).mono (by omega), by dsimp only; have := wrC_tk (fr := fr) (c := c1) (inner := inner) (M := x.2.1); omega, by dsimp only; rw [hql, hqi], young hyo4 hsz5 H6, Nat.le_trans hsz5 H6.ext.size⟩, by dsimp only; omega⟩
          · dsimp only at hq ⊢
            rcases List.mem_append.1 hq with hq | hq
            · exact (hqo q hq).turn GG
            · rw [List.mem_singleton.1 hq]
              exact hmo.turn G6
          · dsimp only
            rw [hpc3, List.map_append, ← hmi']; rfl
      · intro h3
        replace h3 := dec_f h3
        have hii : i = nn := by omega
        rw [List.drop_of_length_le (by omega), putF] at hpc3
        have Rm := OS.rd OA (fun y hy => O3.blk y (List.mem_cons_of_mem _ hy)) (fun _ _ => rfl) (by decide)
        refine W_exit (exit_then (exit_then (exit_here (at_then ?_))))
        refine W_rseq ?_
        refine op_move rfl (.slice _ _ _) rfl ?_
        refine op_assign rfl (.slice _ _ _) rfl ?_
        refine op_assign rfl (.int _ _) rfl ?_
        refine op_nil (at_then ?_)
        refine W_ret (leave2 (v1 := (.slice _ _ _)) (v2 := (.int _ _)) rfl rfl rfl rfl ?_)
        refine ⟨a4, qs.length, c4, F1, L1, by rw [hpc3], by rw [hpc3]; exact X3, GT3, ?_⟩
        rw [hpc3]
        refine ⟨⟨qs, Rm, ?_, rfl, fun m hm => (hqo m hm).weak MY.le⟩, by simp, OA.le⟩
        cases ha4 : a4 with
        | none => exact .inl (List.eq_nil_of_length_eq_zero (by have h8 := OA.le; have h9 := OA.none' ha4; omega))
        | some q =>
          subst ha4
          exact .inr fun h => O3.off (q.block, _) (List.mem_cons_of_mem _ (List.mem_singleton.2 rfl)) h

end Go.Proofs.YtbkadlngijkmmaaGreatDoor
