/- Part 5 of the proof. -/
import Derived.Test.YtbkadlngijkmmaaGreatDoorPart3
import Derived.Test.YtbkadlngijkmmaaGreatDoorPart4
/- Items of nodes in memory. -/
namespace Go.Proofs.YtbkadlngijkmmaaGreatDoor
open Go.GV
theorem ag_120_TrC : aggB Tryz.prog 120 = some true := by kernel_rfl
theorem ca_125_TrC : callable Tryz.prog 125 = true := by kernel_rfl
theorem ca_126_TrC : callable Tryz.prog 126 = true := by kernel_rfl
theorem ca_71_TrC : callable Tryz.prog 71 = true := by kernel_rfl
theorem el_114_TrC : elemT Tryz.prog 114 = some 120 := by kernel_rfl
theorem fo_116_0_TrC : fieldO Tryz.prog 116 0 = some 0 := by kernel_rfl
theorem fo_120_0_TrC : fieldO Tryz.prog 120 0 = some 0 := by kernel_rfl
theorem fo_120_1_TrC : fieldO Tryz.prog 120 1 = some 1 := by kernel_rfl
theorem sz_120_TrC : tsize Tryz.prog 120 = some 3 := by kernel_rfl
theorem un_100_TrC : Tryz.prog.underlying 100 = some (.int .u64) := by kernel_rfl
attribute [local irreducible] Wops W Wq Wt

abbrev Mut := Nat → Prop
/-- What was there before. -/
def Old (w : World) : Mut := fun x => x < w.heap.size
theorem rd_ltN {w : World} {α : Type} {a : Option Addr} {s : Nat} {enc : α → List Value} {l : List α} (R : Rd w a s enc l) (hs : 0 < s) (he : ∀ x ∈ l, (enc x).length = s) : l = [] ∨ (adr a).block < w.heap.size := by
  cases l with
  | nil => exact .inl rfl
  | cons x l =>
    have h1 := he x (List.mem_cons_self ..)
    obtain ⟨v, hv⟩ := get_some (l := enc x) (i := 0) (by omega)
    exact .inr (World.block_lt_of_cell? w ⟨(adr a).block, _, none⟩ (R.cell 0 x rfl 0 v hv (by omega)))
theorem adr_cutN (a : Option Addr) (c i s : Nat) : (adr (cutA a c i s)).block = (adr a).block := by
  unfold cutA; split
  · rfl
  · cases a with
    | none => rfl
    | some p =>
      obtain ⟨b, o, sp⟩ := p
      show (adr (some (Addr.add ⟨b, o, sp⟩ (i * s)))).block = b
      unfold Addr.add
      by_cases h : i * s = 0 <;> simp [h, adr]
section
variable {w w' w0 : World} {M M' : Mut} {a : Option Addr} {l : Byt}
theorem Rdx.fresh (R : Rd w' a 1 B8 l) (h : l = [] ∨ w.heap.size ≤ (adr a).block) : Rdx w' (Old w) a l := ⟨R, h.imp id fun h h2 => by unfold Old at h2; omega⟩
theorem Rdx.weak (h : Rdx w M a l) (hM : ∀ x, M' x → M x) : Rdx w M' a l := ⟨h.1, h.2.imp id fun h h2 => h (hM _ h2)⟩
theorem Rdx.past {w1 w2 : World} {S : List Nat} (X : Rdx w (Old w1) a l) (he : Ext S w w2) (hS : ∀ x ∈ S, x < w1.heap.size) : Rdx w2 (Old w1) a l := by
  obtain ⟨R, hn⟩ := X
  rcases hn with rfl | hn
  · exact ⟨Rd.nil, .inl rfl⟩
  · exact ⟨R.ext he fun h => hn (hS _ h), .inr hn⟩
theorem Rdx.nil : Rdx w M none [] := ⟨Rd.nil, .inl rfl⟩
end

structure Im where
  ka : Option Addr
  kc : Nat
  va : Option Addr
  vc : Nat
  it : It
def Im.enc (m : Im) : List Value := [.slice m.ka m.it.key.length m.kc, .slice m.va m.it.val.length m.vc, .int .i64 (m.it.page : Int)]
theorem Im.oneE (m : Im) : ∀ v ∈ m.enc, oneCell v = true := fun v hv => by
  simp only [Im.enc, List.mem_cons, List.not_mem_nil, or_false] at hv
  rcases hv with rfl | rfl | rfl <;> rfl
structure Im.Ok (w : World) (M : Mut) (m : Im) : Prop where
  k : Rdx w M m.ka m.it.key
  v : Rdx w M m.va m.it.val
  kc : m.it.key.length ≤ m.kc
  vc : m.it.val.length ≤ m.vc
/-- A slice of items, in blocks that do not turn. -/
structure Its (w : World) (M : Mut) (a : Option Addr) (n c : Nat) (L : List It) : Prop where
  ex : ∃ ms : List Im, Rd w a 3 Im.enc ms ∧ (ms = [] ∨ ¬ M (adr a).block) ∧ ms.map (·.it) = L ∧ ∀ m ∈ ms, m.Ok w M
  num : n = L.length
  le : n ≤ c
section
variable {w w' w0 : World} {M M' : Mut} {a : Option Addr} {n c : Nat} {L : List It} {m : Im}
theorem Im.Ok.turn (h : m.Ok w M) (t : Grown M M' w w') : m.Ok w' M' := ⟨h.k.turn t, h.v.turn t, h.kc, h.vc⟩
theorem Im.Ok.call (h : m.Ok w M) (hx : Ext [] w w') : m.Ok w' M := ⟨h.k.call hx, h.v.call hx, h.kc, h.vc⟩
theorem Im.Ok.weak (h : m.Ok w M) (hM : ∀ x, M' x → M x) : m.Ok w M' := ⟨h.k.weak hM, h.v.weak hM, h.kc, h.vc⟩
theorem Its.nil : Its w M none 0 0 [] := ⟨⟨[], Rd.nil, .inl rfl, rfl, fun m h => by cases h⟩, rfl, Nat.le_refl _⟩
theorem Its.turn (h : Its w M a n c L) (t : Grown M M' w w') : Its w' M' a n c L := by
  obtain ⟨ms, R, hs, hl, hm⟩ := h.ex
  refine ⟨⟨ms, ?_, ?_, hl, fun m hx => (hm m hx).turn t⟩, h.num, h.le⟩
  · rcases hs with rfl | hs
    · exact Rd.nil
    · obtain ⟨⟨S, hS, hx⟩, _⟩ := t
      exact R.ext hx fun h => hs (hS _ h)
  · rcases hs with rfl | hs
    · exact .inl rfl
    · rcases rd_ltN R (by decide) (fun x _ => rfl) with h0 | h0
      · exact .inl h0
      · exact .inr fun h5 => (t.2 _ h5).elim hs fun h6 => by omega
theorem Its.call (h : Its w M a n c L) (hx : Ext [] w w') : Its w' M a n c L := by
  obtain ⟨ms, R, hs, hl, hm⟩ := h.ex
  exact ⟨⟨ms, R.ext0 hx, hs, hl, fun m hm' => (hm m hm').call hx⟩, h.num, h.le⟩
theorem Its.weak (h : Its w M a n c L) (hM : ∀ x, M' x → M x) : Its w M' a n c L := by
  obtain ⟨ms, R, hs, hl, hm⟩ := h.ex
  exact ⟨⟨ms, R, hs.imp id fun h h2 => h (hM _ h2), hl, fun m hm' => (hm m hm').weak hM⟩, h.num, h.le⟩
theorem Its.take (h : Its w M a n c L) {k : Nat} (hk : k ≤ n) : Its w M a k c (L.take k) := by
  obtain ⟨ms, R, hs, hl, hm⟩ := h.ex
  have hn := h.num; have hc := h.le
  refine ⟨⟨ms.take k, R.take k, hs.imp (fun h => by rw [h, List.take_nil]) id, by rw [List.map_take, hl], fun m hx => hm m (List.mem_of_mem_take hx)⟩, ?_, by omega⟩
  rw [List.length_take]; omega
theorem Its.drop (h : Its w M a n c L) {k : Nat} (hk : k ≤ n) : Its w M (cutA a c k 3) (n - k) (c - k) (L.drop k) := by
  obtain ⟨ms, R, hs, hl, hm⟩ := h.ex
  have hn := h.num; have hc := h.le
  have hml : ms.length = n := by rw [hn, ← hl, List.length_map]
  refine ⟨⟨ms.drop k, R.cut k c (by omega), ?_, by rw [List.map_drop, hl], fun m hx => hm m (List.mem_of_mem_drop hx)⟩, ?_, by omega⟩
  · rw [adr_cutN]; exact hs.imp (fun h => by rw [h, List.drop_nil]) id
  · rw [List.length_drop]; omega
end

/-! ### The order -/
theorem compare_ok {w : World} (a b : Option Addr) (c d n m : Nat) (x y : Byt) (Rx : Rd w a 1 B8 x) (Ry : Rd w b 1 B8 y) (hn : x.length = n) (hm : y.length = m) :
    Ret Tryz.prog 71 #[.slice a n c, .slice b m d] w fun v w' => v = .int .i64 (cmpB x y) ∧ w = w' := by
  subst hn hm
  refine ret_of_W (fn := Tryz.f71) Tryz.func71 rfl [.slice a x.length c, .slice b y.length d] rfl (by kernel_rfl) ?_
  refine W_rseq ?_
  refine op_assign rfl (.int _ _) rfl ?_
  refine op_nil (at_then ?_)
  refine W_rseq ?_
  refine op_move rfl (.slice _ _ _) rfl ?_
  refine op_move rfl (.slice _ _ _) rfl ?_
  refine op_extern (l := [.slice a x.length c, .slice b y.length d]) (v := .int .i64 (cmpB x y)) rfl (by rw [run_callFunc_extern Tryz.func129 (by kernel_rfl) (by kernel_rfl) (by kernel_rfl) (e := Extern.BytealgCompare.compare) (by kernel_rfl), run_cmpBytes Rx Ry]; rfl) rfl ?_
  refine op_assign rfl (.int _ _) rfl ?_
  refine op_nil (at_then ?_)
  refine W_ret (leave1 (v := (.int _ _)) rfl rfl rfl ?_)
  exact ⟨rfl, rfl⟩

/-- How many of the items behind the first one have no greater key. -/
def belowN (L : List It) (key : Byt) : Nat := (L.tail.takeWhile fun x => decide (cmpB x.key key ≤ 0)).length
theorem takeWhile_len {α : Type} {p : α → Bool} : ∀ {l : List α} {i : Nat}, (∀ j x, j < i → l[j]? = some x → p x = true) → i ≤ l.length → (∀ x, l[i]? = some x → p x = false) → (l.takeWhile p).length = i
  | [], i, _, hi, _ => by simp at hi; subst hi; rfl
  | x :: l, 0, _, _, h => by rw [List.takeWhile_cons, h x rfl]; rfl
  | x :: l, i + 1, h, hi, h2 => by
    rw [List.takeWhile_cons, h 0 x (by omega) rfl]
    simp only [if_true, List.length_cons]
    rw [takeWhile_len (l := l) (i := i) (fun j y hj hy => h (j + 1) y (by omega) hy) (by simpa using hi) fun y hy => h2 y hy]
theorem Im.at {ms : List Im} {L : List It} (hl : ms.map (·.it) = L) {i : Nat} {x : Im} (h : ms[i]? = some x) : L[i]? = some x.it := by rw [← hl, List.getElem?_map, h]; rfl

set_option maxRecDepth 20000 in
set_option maxHeartbeats 1000000 in
theorem below_ok {w : World} {M : Mut} {a : Option Addr} {n c : Nat} {L : List It} (I : Its w M a n c L) (ka : Option Addr) (kc kn : Nat) (key : Byt) (Rk : Rd w ka 1 B8 key) (hk : key.length = kn) (hm : n ≤ 1000000) :
    Ret Tryz.prog 67 #[.slice a n c, .slice ka kn kc] w fun v w' => v = .int .i64 (belowN L key : Int) ∧ w = w' := by
  subst hk
  obtain ⟨w0, rfl⟩ : ∃ w0, w0 = w := ⟨_, rfl⟩
  obtain ⟨ms, R, -, hl, hok⟩ := I.ex
  have hnum := I.num
  have hml : ms.length = n := by rw [hnum, ← hl, List.length_map]
  refine ret_of_W (fn := Tryz.f67) Tryz.func67 rfl [.slice a n c, .slice ka key.length kc] rfl (by kernel_rfl) ?_
  refine W_rseq ?_
  refine op_assign rfl (.int _ _) rfl ?_
  refine op_nil (at_then ?_)
  refine W_rseq ?_
  refine op_assign rfl (.int _ _) rfl ?_
  refine op_nil (at_then ?_)
  refine W_seq ?_
  refine W_block ?_
  refine W_loop 16777184 (α := Nat) (fun i => [(5, .int .i64 (i : Int))]) (fun i w' => w0 = w' ∧ (i = 0 ∨ i + 1 ≤ n) ∧ ∀ j x, j < i → L.tail[j]? = some x → cmpB x.key key ≤ 0) (fun i => n - i) 0 rfl ?_ ?_ ?_
  · exact ⟨rfl, trivial⟩
  · exact ⟨rfl, .inl rfl, fun j x h => absurd h (Nat.not_lt_zero _)⟩
  · rintro i j w ⟨rfl, hi, hb⟩
    refine W_seq ?_
    refine W_rseq ?_
    refine op_move rfl (.int _ _) rfl ?_
    refine op_add_i64 rfl rfl rfl (by omega) (by omega) ?_
    refine op_move rfl (.slice _ _ _) rfl ?_
    refine op_len rfl el_114_TrC rfl ?_
    refine op_lss rfl rfl rfl ?_
    refine op_move rfl (.bool _) rfl ?_
    refine Wops_split 11 rfl ?_ ?_
    · intro h1
      replace h1 := dec_t h1
      obtain ⟨x, hx⟩ := get_some (l := ms) (i := i + 1) (by omega)
      have hxL := Im.at hl hx
      have hxo := hok x (List.mem_of_getElem? hx)
      have hti : L.tail[i]? = some x.it := by rw [List.getElem?_tail]; exact hxL
      refine op_move rfl (.slice _ _ _) rfl ?_
      refine op_move rfl (.int _ _) rfl ?_
      refine op_add_i64 rfl rfl rfl (by omega) (by omega) ?_
      first | refine op_indexRd R rfl el_114_TrC sz_120_TrC rfl rfl (by omega) (by omega) (by first | rfl | omega) ?_ | refine op_indexAddr rfl el_114_TrC sz_120_TrC rfl rfl (by omega) (by omega) ?_
      refine op_fieldAddr rfl fo_120_0_TrC rfl ?_
      first | refine op_ldb rfl ag_23 rfl H (by first | exact at0 | exact at1 | exact at2 | exact at3 | exact at4 | exact at5 | exact at6 | exact at7 | exact at8 | exact at9) rfl ?_ | refine op_ld rfl ag_23 rfl (R.fld hx rfl (j := 0) rfl) ?_
      refine op_move rfl (.slice _ _ _) rfl ?_
      refine op_call rfl ca_71_TrC (compare_ok x.ka ka x.kc kc _ _ x.it.key key hxo.k.1 Rk rfl rfl) rfl ?_
      rintro v w ⟨rfl, rfl⟩
      refine op_leq rfl rfl rfl ?_
      refine op_pick1 rfl rfl (.bool _) rfl ?_
      refine op_nil (at_then ?_)
      refine W_cond _ rfl ?_ ?_
      · intro h2
        replace h2 := dec_t h2
        refine W_skip (at_then ?_)
        refine W_block ?_
        refine W_region ?_
        refine op_move rfl (.int _ _) rfl ?_
        refine op_add_i64 rfl rfl rfl (by omega) (by omega) ?_
        refine op_assign rfl (.int _ _) rfl ?_
        refine op_nil (at_block (at_then ?_))
        refine ⟨i + 1, rfl, ⟨rfl, trivial⟩, ⟨rfl, .inr (by omega), fun j y hj hy => ?_⟩, by omega⟩
        rcases Nat.lt_or_ge j i with h3 | h3
        · exact hb j y h3 hy
        · obtain rfl : j = i := by omega
          rw [hti] at hy
          cases hy
          exact h2
      · intro h2
        replace h2 := dec_f h2
        refine W_exit (exit_then (exit_then (exit_here (at_then ?_))))
        refine W_rseq ?_
        refine op_move rfl (.int _ _) rfl ?_
        refine op_assign rfl (.int _ _) rfl ?_
        refine op_nil (at_then ?_)
        refine W_ret (leave1 (v := (.int _ _)) rfl rfl rfl ?_)
        refine ⟨?_, rfl⟩
        rw [belowN, takeWhile_len (i := i) (fun j y hj hy => decide_eq_true (hb j y hj hy)) (by rw [List.length_tail]; omega) fun y hy => ?_]
        rw [hti] at hy
        cases hy
        exact decide_eq_false (by omega)
    · intro h1
      replace h1 := dec_f h1
      refine op_skip rfl ?_
      refine op_skip rfl ?_
      refine op_skip rfl ?_
      refine op_skip rfl ?_
      refine op_skip rfl ?_
      refine op_skip rfl ?_
      refine op_skip rfl ?_
      refine op_skip rfl ?_
      refine op_skip rfl ?_
      refine op_pick0 rfl rfl (.bool _) rfl ?_
      refine op_nil (at_then ?_)
      refine W_cond0 rfl ?_
      refine W_exit (exit_then (exit_then (exit_here (at_then ?_))))
      refine W_rseq ?_
      refine op_move rfl (.int _ _) rfl ?_
      refine op_assign rfl (.int _ _) rfl ?_
      refine op_nil (at_then ?_)
      refine W_ret (leave1 (v := (.int _ _)) rfl rfl rfl ?_)
      refine ⟨?_, rfl⟩
      rw [belowN, takeWhile_len (i := i) (fun j y hj hy => decide_eq_true (hb j y hj hy)) (by rw [List.length_tail]; omega) fun y hy => ?_]
      have := (List.getElem?_eq_some_iff.1 hy).1
      rw [List.length_tail] at this
      omega

/-- Where a leaf has a key, or would have it. -/
def bsN (L : List It) (key : Byt) (i j : Nat) : Nat :=
  if h : i < j then (if cmpB ((L[(i + j) / 2]?.map (·.key)).getD []) key < 0 then bsN L key ((i + j) / 2 + 1) j else bsN L key i ((i + j) / 2)) else i
termination_by j - i
def placeN (L : List It) (key : Byt) : Nat := bsN L key 0 L.length
def placeB (L : List It) (key : Byt) : Bool := match L[placeN L key]? with | some x => decide (cmpB x.key key = 0) | none => false
theorem bsN_lt {L : List It} {key : Byt} {i j : Nat} (h : i < j) : bsN L key i j = if cmpB ((L[(i + j) / 2]?.map (·.key)).getD []) key < 0 then bsN L key ((i + j) / 2 + 1) j else bsN L key i ((i + j) / 2) := by
  rw [bsN, dif_pos h]
theorem bsN_end {L : List It} {key : Byt} {i j : Nat} (h : j ≤ i) : bsN L key i j = i := by
  rw [bsN, dif_neg (by omega)]

theorem placeC_ok {w : World} {M : Mut} {x : Im} (hx : x.Ok w M) (ka : Option Addr) (kc kn : Nat) (key : Byt) (Rk : Rd w ka 1 B8 key) (hk : key.length = kn) :
    Ret Tryz.prog 126 #[.agg x.enc.toArray, .slice ka kn kc] w fun v w' => v = .int .i64 (cmpB x.it.key key) ∧ Ext [] w w' := by
  subst hk
  obtain ⟨w0, rfl⟩ : ∃ w0, w0 = w := ⟨_, rfl⟩
  have H := Ctx.start w0 []
  refine ret_of_W (fn := Tryz.f126) Tryz.func126 rfl [.agg x.enc.toArray, .slice ka key.length kc] rfl (by kernel_rfl) ?_
  refine W_rseq ?_
  refine op_box rfl x.enc (.agg _) rfl rfl H ?_
  rintro b2 w - H
  refine op_assign rfl (.int _ _) rfl ?_
  refine op_nil (at_then ?_)
  refine W_rseq ?_
  refine op_fieldAddr rfl fo_120_0_TrC rfl ?_
  refine op_ldb rfl ag_23 rfl H (by first | exact at0 | exact at1 | exact at2 | exact at3 | exact at4 | exact at5 | exact at6 | exact at7 | exact at8 | exact at9) rfl ?_
  refine op_move rfl (.slice _ _ _) rfl ?_
  refine op_call rfl ca_71_TrC (compare_ok x.ka ka x.kc kc _ _ x.it.key key (hx.k.1.ext0 H.ext) (Rk.ext0 H.ext) rfl rfl) rfl ?_
  rintro v w ⟨rfl, rfl⟩
  refine op_assign rfl (.int _ _) rfl ?_
  refine op_nil (at_then ?_)
  refine W_ret (leave1 (v := (.int _ _)) rfl rfl rfl ?_)
  exact ⟨rfl, H.ext⟩

set_option maxRecDepth 20000 in
set_option maxHeartbeats 1000000 in
theorem search_ok {w : World} {M : Mut} {a : Option Addr} {n c : Nat} {L : List It} (I : Its w M a n c L) (ka : Option Addr) (kc kn : Nat) (key : Byt) (Rk : Rd w ka 1 B8 key) (hk : key.length = kn) (hm : n ≤ 1000000) :
    Ret Tryz.prog 125 #[.slice a n c, .slice ka kn kc, .func (.func 126) #[] #[]] w fun v w' => v = .tuple #[.int .i64 (placeN L key : Int), .bool (placeB L key)] ∧ Ext [] w w' := by
  subst hk
  obtain ⟨w0, rfl⟩ : ∃ w0, w0 = w := ⟨_, rfl⟩
  obtain ⟨ms, R, -, hl, hok⟩ := I.ex
  have hnum := I.num
  have hml : ms.length = n := by rw [hnum, ← hl, List.length_map]
  refine ret_of_W (fn := Tryz.f125) Tryz.func125 rfl [.slice a n c, .slice ka key.length kc, .func (.func 126) #[] #[]] rfl (by kernel_rfl) ?_
  refine W_rseq ?_
  refine op_assign rfl (.int _ _) rfl ?_
  refine op_assign rfl (.bool _) rfl ?_
  refine op_nil (at_then ?_)
  refine W_rseq ?_
  refine op_move rfl (.slice _ _ _) rfl ?_
  refine op_len rfl el_114_TrC rfl ?_
  refine op_assign rfl (.int _ _) rfl ?_
  refine op_nil (at_then ?_)
  refine W_rseq ?_
  refine op_move rfl (.int _ _) rfl ?_
  refine op_assign rfl (.int _ _) rfl ?_
  refine op_assign rfl (.int _ _) rfl ?_
  refine op_nil (at_then ?_)
  refine W_seq ?_
  refine W_block ?_
  refine W_loop 34359709184 (α := Nat × Nat) (fun s => [(9, .int .i64 (s.1 : Int)), (10, .int .i64 (s.2 : Int))]) (fun s w' => Ext [] w0 w' ∧ s.1 ≤ s.2 ∧ s.2 ≤ n ∧ bsN L key s.1 s.2 = placeN L key) (fun s => s.2 - s.1) (0, n) rfl ?_ ?_ ?_
  · exact ⟨rfl, rfl, trivial⟩
  · exact ⟨.refl _ _, Nat.zero_le _, Nat.le_refl _, by rw [placeN, ← hnum]⟩
  · rintro ⟨i, k⟩ j w ⟨hx, hik, hk, hbs⟩; dsimp only at hx hik hk hbs; dsimp only
    refine W_seq ?_
    refine W_rseq ?_
    refine op_move rfl (.int _ _) rfl ?_
    refine op_move rfl (.int _ _) rfl ?_
    refine op_lss rfl rfl rfl ?_
    refine op_nil (at_then ?_)
    refine W_cond _ rfl ?_ ?_
    · intro h1
      replace h1 := dec_t h1
      obtain ⟨h, hh⟩ : ∃ h, h = (i + k) / 2 ^ 1 := ⟨_, rfl⟩
      have hh2 : h = (i + k) / 2 := hh
      obtain ⟨x, hx5⟩ := get_some (l := ms) (i := h) (by omega)
      have hxL := Im.at hl hx5
      have hxo := hok x (List.mem_of_getElem? hx5)
      rw [bsN_lt (by omega), ← hh2, hxL] at hbs
      simp only [Option.map_some, Option.getD_some] at hbs
      refine W_skip (at_then ?_)
      refine W_block ?_
      refine W_rseq ?_
      refine op_move rfl (.int _ _) rfl ?_
      refine op_move rfl (.int _ _) rfl ?_
      refine op_add_i64 rfl rfl rfl (by omega) (by omega) ?_
      refine op_conv_u64 rfl rfl un_3 un_100_TrC (by omega) (by omega) ?_
      refine op_shr_u64 (n := 1) rfl rfl rfl (by omega) ?_
      refine op_conv_i64 rfl rfl un_100_TrC un_3 (by omega) (by omega) ?_
      refine op_assign rfl (.int _ _) rfl ?_
      refine op_nil (at_then ?_)
      rw [← hh]
      refine W_rseq ?_
      refine op_move rfl (.func _ _ _) rfl ?_
      refine op_move rfl (.slice _ _ _) rfl ?_
      refine op_move rfl (.int _ _) rfl ?_
      first | refine op_indexRd R rfl el_114_TrC sz_120_TrC rfl rfl (by omega) (by omega) (by first | rfl | omega) ?_ | refine op_indexAddr rfl el_114_TrC sz_120_TrC rfl rfl (by omega) (by omega) ?_
      first | refine op_ldN _ rfl ag_120_TrC sz_120_TrC rfl rfl ((R.ext0 hx).row hx5 rfl) ?_ | refine op_ldbN rfl ag_120_TrC sz_120_TrC rfl H (by first | exact at0 | exact at1 | exact at2 | exact at3 | exact at4 | exact at5 | exact at6 | exact at7 | exact at8 | exact at9) rfl ?_
      refine op_move rfl (.slice _ _ _) rfl ?_
      refine op_calld rfl rfl ca_126_TrC (placeC_ok (hxo.call hx) ka kc _ key (Rk.ext0 hx) rfl) rfl ?_
      rintro v w2 ⟨rfl, hx30⟩
      refine op_lss rfl rfl rfl ?_
      refine op_nil (at_then ?_)
      refine W_cond _ rfl ?_ ?_
      · intro h2
        replace h2 := dec_t h2
        rw [if_pos h2] at hbs
        refine W_region ?_
        refine op_move rfl (.int _ _) rfl ?_
        refine op_add_i64 rfl rfl rfl (by omega) (by omega) ?_
        refine op_assign rfl (.int _ _) rfl ?_
        refine op_nil (at_block (at_then ?_))
        exact ⟨(h + 1, k), rfl, ⟨rfl, rfl, trivial⟩, ⟨hx.trans hx30, by dsimp only; omega, hk, hbs⟩, by dsimp only; omega⟩
      · intro h2
        replace h2 := dec_f h2
        rw [if_neg (by omega)] at hbs
        refine W_region ?_
        refine op_move rfl (.int _ _) rfl ?_
        refine op_assign rfl (.int _ _) rfl ?_
        refine op_nil (at_block (at_then ?_))
        exact ⟨(i, h), rfl, ⟨rfl, rfl, trivial⟩, ⟨hx.trans hx30, by dsimp only; omega, by dsimp only; omega, hbs⟩, by dsimp only; omega⟩
    · intro h1
      replace h1 := dec_f h1
      rw [bsN_end (by omega)] at hbs
      refine W_exit (exit_then (exit_then (exit_here (at_then ?_))))
      refine W_rseq ?_
      refine op_move rfl (.int _ _) rfl ?_
      refine op_move rfl (.int _ _) rfl ?_
      refine op_move rfl (.int _ _) rfl ?_
      refine op_lss rfl rfl rfl ?_
      refine op_move rfl (.bool _) rfl ?_
      refine Wops_split 39 rfl ?_ ?_
      · intro h2
        replace h2 := dec_t h2
        obtain ⟨x, hx5⟩ := get_some (l := ms) (i := i) (by omega)
        have hxL := Im.at hl hx5
        have hxo := hok x (List.mem_of_getElem? hx5)
        refine op_move rfl (.func _ _ _) rfl ?_
        refine op_move rfl (.slice _ _ _) rfl ?_
        refine op_move rfl (.int _ _) rfl ?_
        first | refine op_indexRd R rfl el_114_TrC sz_120_TrC rfl rfl (by omega) (by omega) (by first | rfl | omega) ?_ | refine op_indexAddr rfl el_114_TrC sz_120_TrC rfl rfl (by omega) (by omega) ?_
        first | refine op_ldN _ rfl ag_120_TrC sz_120_TrC rfl rfl ((R.ext0 hx).row hx5 rfl) ?_ | refine op_ldN _ rfl ag_120_TrC sz_120_TrC rfl rfl ((R.ext0 hx).row hx5 rfl) ?_ | refine op_ldbN rfl ag_120_TrC sz_120_TrC rfl H (by first | exact at0 | exact at1 | exact at2 | exact at3 | exact at4 | exact at5 | exact at6 | exact at7 | exact at8 | exact at9) rfl ?_
        refine op_move rfl (.slice _ _ _) rfl ?_
        refine op_calld rfl rfl ca_126_TrC (placeC_ok (hxo.call hx) ka kc _ key (Rk.ext0 hx) rfl) rfl ?_
        rintro v w2 ⟨rfl, hx46⟩
        refine op_eql rfl rfl rfl ?_
        refine op_pick1 rfl rfl (.bool _) rfl ?_
        refine op_assign rfl (.int _ _) rfl ?_
        refine op_assign rfl (.bool _) rfl ?_
        refine op_nil (at_then ?_)
        refine W_ret (leave2 (v1 := (.int _ _)) (v2 := (.bool _)) rfl rfl rfl rfl ?_)
        refine ⟨?_, hx.trans hx46⟩
        rw [placeB, ← hbs, hxL]
      · intro h2
        replace h2 := dec_f h2
        refine op_skip rfl ?_
        refine op_skip rfl ?_
        refine op_skip rfl ?_
        refine op_skip rfl ?_
        refine op_skip rfl ?_
        refine op_skip rfl ?_
        refine op_skip rfl ?_
        refine op_skip rfl ?_
        refine op_pick0 rfl rfl (.bool _) rfl ?_
        refine op_assign rfl (.int _ _) rfl ?_
        refine op_assign rfl (.bool _) rfl ?_
        refine op_nil (at_then ?_)
        refine W_ret (leave2 (v1 := (.int _ _)) (v2 := (.bool _)) rfl rfl rfl rfl ?_)
        refine ⟨?_, hx⟩
        have hnone : L[i]? = none := List.getElem?_eq_none (by omega)
        rw [placeB, ← hbs, hnone]

theorem place_ok {w : World} {M : Mut} {a : Option Addr} {n c : Nat} {L : List It} (I : Its w M a n c L) (ka : Option Addr) (kc kn : Nat) (key : Byt) (Rk : Rd w ka 1 B8 key) (hk : key.length = kn) (hm : n ≤ 1000000) :
    Ret Tryz.prog 68 #[.slice a n c, .slice ka kn kc] w fun v w' => v = .tuple #[.int .i64 (placeN L key : Int), .bool (placeB L key)] ∧ Ext [] w w' := by
  subst hk
  refine ret_of_W (fn := Tryz.f68) Tryz.func68 rfl [.slice a n c, .slice ka key.length kc] rfl (by kernel_rfl) ?_
  refine W_rseq ?_
  refine op_assign rfl (.int _ _) rfl ?_
  refine op_assign rfl (.bool _) rfl ?_
  refine op_nil (at_then ?_)
  refine W_rseq ?_
  refine op_move rfl (.slice _ _ _) rfl ?_
  refine op_move rfl (.slice _ _ _) rfl ?_
  refine op_call rfl ca_125_TrC (search_ok I ka kc _ key Rk rfl hm) rfl ?_
  rintro v w2 ⟨rfl, hx8⟩
  refine op_extract rfl rfl rfl ?_
  refine op_extract rfl rfl rfl ?_
  refine op_assign rfl (.int _ _) rfl ?_
  refine op_assign rfl (.bool _) rfl ?_
  refine op_nil (at_then ?_)
  refine W_ret (leave2 (v1 := (.int _ _)) (v2 := (.bool _)) rfl rfl rfl rfl ?_)
  exact ⟨rfl, hx8⟩

/-! ### How great -/
theorem size_ok7 {w : World} {M : Mut} (inner : Bool) (a : Option Addr) (n c : Nat) {x : Im} (hx : x.Ok w M) (hk : x.it.key.length ≤ 1000000) (hv : x.it.val.length ≤ 1000000) :
    Ret Tryz.prog 138 #[.agg #[.bool inner, .slice a n c], .agg x.enc.toArray] w fun v w' => v = .int .i64 (sizeI inner x.it : Int) ∧ Ext [] w w' := by
  obtain ⟨w0, rfl⟩ : ∃ w0, w0 = w := ⟨_, rfl⟩
  have H := Ctx.start w0 []
  refine ret_of_W (fn := Tryz.f138) Tryz.func138 rfl [.agg #[.bool inner, .slice a n c], .agg x.enc.toArray] rfl (by kernel_rfl) ?_
  refine W_rseq ?_
  refine op_box rfl [.bool inner, .slice a n c] (.agg _) rfl rfl H ?_
  rintro b2 w - H
  refine op_box rfl x.enc (.agg _) rfl rfl H ?_
  rintro b3 w - H
  refine op_assign rfl (.int _ _) rfl ?_
  refine op_nil (at_then ?_)
  refine W_seq ?_
  refine W_rseq ?_
  refine op_fieldAddr rfl fo_116_0_TrC rfl ?_
  refine op_ldb rfl ag_4 rfl H (by first | exact at0 | exact at1 | exact at2 | exact at3 | exact at4 | exact at5 | exact at6 | exact at7 | exact at8 | exact at9) rfl ?_
  refine op_nil (at_then ?_)
  refine W_cond _ rfl ?_ ?_
  · intro h1
    subst h1
    refine W_rseq ?_
    refine op_fieldAddr rfl fo_120_0_TrC rfl ?_
    refine op_ldb rfl ag_23 rfl H (by first | exact at0 | exact at1 | exact at2 | exact at3 | exact at4 | exact at5 | exact at6 | exact at7 | exact at8 | exact at9) rfl ?_
    refine op_len rfl el_23 rfl ?_
    refine op_add_i64 rfl rfl rfl (by omega) (by omega) ?_
    refine op_assign rfl (.int _ _) rfl ?_
    refine op_nil (at_then ?_)
    refine W_ret (ret_then (leave1 (v := (.int _ _)) rfl rfl rfl ?_))
    exact ⟨rfl, H.ext⟩
  · intro h1
    subst h1
    refine W_skip (at_then ?_)
    refine W_rseq ?_
    refine op_fieldAddr rfl fo_120_0_TrC rfl ?_
    refine op_ldb rfl ag_23 rfl H (by first | exact at0 | exact at1 | exact at2 | exact at3 | exact at4 | exact at5 | exact at6 | exact at7 | exact at8 | exact at9) rfl ?_
    refine op_len rfl el_23 rfl ?_
    refine op_add_i64 rfl rfl rfl (by omega) (by omega) ?_
    refine op_fieldAddr rfl fo_120_1_TrC rfl ?_
    refine op_ldb rfl ag_23 rfl H (by first | exact at0 | exact at1 | exact at2 | exact at3 | exact at4 | exact at5 | exact at6 | exact at7 | exact at8 | exact at9) rfl ?_
    refine op_len rfl el_23 rfl ?_
    refine op_add_i64 rfl rfl rfl (by omega) (by omega) ?_
    refine op_assign rfl (.int _ _) rfl ?_
    refine op_nil (at_then ?_)
    refine W_ret (leave1 (v := (.int _ _)) rfl rfl rfl ?_)
    exact ⟨rfl, H.ext⟩

end Go.Proofs.YtbkadlngijkmmaaGreatDoor

/- Slices of byte strings. -/
namespace Go.Proofs.YtbkadlngijkmmaaGreatDoor
open Go.GV

/-- A slice of byte strings. -/
abbrev SB := Option Addr × Byt × Nat
def encS (x : SB) : List Value := [.slice x.1 x.2.1.length x.2.2]
def RdS (w : World) (x : SB) : Prop := Rd w x.1 1 B8 x.2.1 ∧ x.2.1.length ≤ x.2.2
theorem RdS.ext0 {w w' : World} {x : SB} (h : RdS w x) (hx : Ext [] w w') : RdS w' x := ⟨h.1.ext0 hx, h.2⟩

def kindOf (b : Byt) : UInt8 := bif decide (openE b = 0) then kindB b else 0
def bodyOf (b : Byt) : Byt := bif decide (openE b = 0) then bodyB b else []
theorem bodyOf_le (b : Byt) : (bodyOf b).length ≤ 505 := by
  unfold bodyOf
  cases decide (openE b = 0)
  · exact Nat.zero_le _
  · show (bodyB b).length ≤ 505
    unfold bodyB restB
    rw [List.length_take, List.length_take]; omega

end Go.Proofs.YtbkadlngijkmmaaGreatDoor

/- Slices that are put together; byte strings behind bytes. -/
namespace Go.Proofs.YtbkadlngijkmmaaGreatDoor
open Go.GV
theorem ag_114_TrD : aggB Tryz.prog 114 = some false := by kernel_rfl
theorem by_120_TrD : tbytes Tryz.prog 120 = some 56 := by kernel_rfl
theorem ca_133_TrD : callable Tryz.prog 133 = true := by kernel_rfl
theorem ca_209_TrD : callable Tryz.prog 209 = true := by kernel_rfl
theorem el_114_TrD : elemT Tryz.prog 114 = some 120 := by kernel_rfl
theorem el_196_TrD : elemT Tryz.prog 196 = some 114 := by kernel_rfl
theorem sz_114_TrD : tsize Tryz.prog 114 = some 1 := by kernel_rfl
theorem sz_120_TrD : tsize Tryz.prog 120 = some 3 := by kernel_rfl
theorem zc_120_TrD : zcells Tryz.prog 120 = some ([.slice none 0 0, .slice none 0 0, .int .i64 0]) := by kernel_rfl
attribute [local irreducible] Wops W Wq Wt

theorem growB_ok (k : Nat) (hk : k ≤ 100000000000) (w : World) : Ret Tryz.prog 209 #[.slice none 0 0, .int .i64 (k : Int)] w fun v w' => ∃ a c full, v = .slice a 0 c ∧ Ctx w [] w' (ent a 5 full) ∧ OS a 0 c 1 full [] := by
  obtain ⟨w0, rfl⟩ : ∃ w0, w0 = w := ⟨_, rfl⟩
  have H := Ctx.start w0 []
  refine ret_of_W (fn := Tryz.f209) Tryz.func209 rfl [.slice none 0 0, .int .i64 (k : Int)] rfl (by kernel_rfl) ?_
  refine W_rseq ?_
  refine op_assign rfl (.slice _ _ _) rfl ?_
  refine op_nil (at_then ?_)
  refine W_seq ?_
  refine W_rseq ?_
  refine op_move rfl (.int _ _) rfl ?_
  refine op_lss rfl rfl rfl ?_
  rw [decide_eq_false (show ¬ (k : Int) < 0 by omega)]
  refine op_nil (at_then ?_)
  refine W_cond0 rfl ?_
  refine W_skip (at_then ?_)
  refine W_seq ?_
  refine W_rseq ?_
  refine op_move rfl (.int _ _) rfl ?_
  refine op_move rfl (.slice _ _ _) rfl ?_
  refine op_cap rfl el_23 rfl ?_
  refine op_move rfl (.slice _ _ _) rfl ?_
  refine op_len rfl el_23 rfl ?_
  refine op_sub_i64 rfl rfl rfl (by omega) (by omega) ?_
  refine op_sub_i64 rfl rfl rfl (by omega) (by omega) ?_
  rw [show (k : Int) - (((0 : Nat) : Int) - ((0 : Nat) : Int)) = (k : Int) by omega]
  refine op_assign rfl (.int _ _) rfl ?_
  refine op_nil (at_then ?_)
  refine W_rseq ?_
  refine op_move rfl (.int _ _) rfl ?_
  refine op_gtr rfl rfl rfl ?_
  refine op_nil (at_then ?_)
  refine W_cond _ rfl ?_ ?_
  · intro h1
    replace h1 := dec_t h1
    refine W_region ?_
    refine op_move rfl (.slice _ _ _) rfl ?_
    refine op_move rfl (.slice _ _ _) rfl ?_
    refine op_cap rfl el_23 rfl ?_
    refine op_slice_hi rfl el_23 sz_5 rfl rfl (by omega) (by omega) ?_
    refine op_move rfl (.int _ _) rfl ?_
    refine op_growz rfl el_23 un_3 sz_5 by_5 zc_5 rfl (by decide) rfl rfl (by omega) (by omega) (by omega) H ?_
    rintro b c full w H O hkc
    refine op_move rfl (.slice _ _ _) rfl ?_
    refine op_len rfl el_23 rfl ?_
    refine op_slice_hi rfl el_23 sz_5 rfl rfl (by omega) (by omega) ?_
    refine op_assign rfl (.slice _ _ _) rfl ?_
    refine op_nil (at_then ?_)
    refine W_rseq ?_
    refine op_move rfl (.slice _ _ _) rfl ?_
    refine op_assign rfl (.slice _ _ _) rfl ?_
    refine op_nil (at_then ?_)
    refine W_ret (leave1 (v := (.slice _ _ _)) rfl rfl rfl ?_)
    exact ⟨some ⟨b, 0, none⟩, c, full, rfl, H, O⟩
  · intro h1
    replace h1 := dec_f h1
    refine W_skip (at_then ?_)
    refine W_rseq ?_
    refine op_move rfl (.slice _ _ _) rfl ?_
    refine op_assign rfl (.slice _ _ _) rfl ?_
    refine op_nil (at_then ?_)
    refine W_ret (leave1 (v := (.slice _ _ _)) rfl rfl rfl ?_)
    exact ⟨none, 0, [], rfl, H, OS.nil⟩

theorem flat_snoc {α β : Type} {l : List α} {i : Nat} {x : α} (f : α → List β) (h : l[i]? = some x) : (l.take (i + 1)).flatMap f = (l.take i).flatMap f ++ f x := by
  rw [take_snoc h, List.flatMap_append, List.flatMap_singleton]
theorem sum_snoc {α : Type} {l : List α} {i : Nat} {x : α} (f : α → Nat) (h : l[i]? = some x) : ((l.take (i + 1)).map f).sum = ((l.take i).map f).sum + f x := by
  rw [take_snoc h, List.map_append, List.sum_append]; simp
theorem sum_take {α : Type} (l : List α) (i : Nat) (f : α → Nat) : ((l.take i).map f).sum ≤ (l.map f).sum := by
  have h : (l.map f).sum = ((l.take i).map f).sum + ((l.drop i).map f).sum := by rw [← List.sum_append, ← List.map_append, List.take_append_drop]
  omega
theorem flat_map_len {α β : Type} (l : List α) (f : α → List β) : (l.flatMap f).length = (l.map fun x => (f x).length).sum := by
  rw [List.length_flatMap]

set_option maxRecDepth 20000 in
set_option maxHeartbeats 2000000 in
theorem concatB_ok {w : World} {a : Option Addr} {n c : Nat} (xs : List SB) (R : Rd w a 1 encS xs) (hx : ∀ x ∈ xs, RdS w x) (hn : n = xs.length) (hm : n ≤ 1000000) (hs : (xs.map fun x => x.2.1.length).sum ≤ 10000000000) :
    Ret Tryz.prog 192 #[.slice a n c] w fun v w' => Fresh w w' 5 1 v ((xs.flatMap fun x => x.2.1).map bv) := by
  subst hn
  obtain ⟨w0, rfl⟩ : ∃ w0, w0 = w := ⟨_, rfl⟩
  have H := Ctx.start w0 []
  refine ret_of_W (fn := Tryz.f192) Tryz.func192 rfl [.slice a xs.length c] rfl (by kernel_rfl) ?_
  refine W_rseq ?_
  refine op_assign rfl (.slice _ _ _) rfl ?_
  refine op_nil (at_then ?_)
  refine W_rseq ?_
  refine op_assign rfl (.int _ _) rfl ?_
  refine op_nil (at_then ?_)
  refine W_seq ?_
  refine W_rseq ?_
  refine op_move rfl (.slice _ _ _) rfl ?_
  refine op_len rfl el_141 rfl ?_
  refine op_move rfl (.int _ _) rfl ?_
  refine op_nil (at_then ?_)
  refine W_block ?_
  refine W_loop 8386600 (α := Nat) (fun i => [(11, .int .i64 (i : Int)), (3, .int .i64 ((((xs.take i).map fun x => x.2.1.length).sum : Nat) : Int))]) (fun i w' => w0 = w' ∧ i ≤ xs.length) (fun i => xs.length - i) 0 rfl ?_ ?_ ?_
  · exact ⟨rfl, rfl, trivial⟩
  · exact ⟨rfl, Nat.zero_le _⟩
  · rintro i j w ⟨rfl, hi⟩
    refine W_rseq ?_
    refine op_lss rfl rfl rfl ?_
    refine op_nil (at_then ?_)
    refine W_seq ?_
    refine W_cond _ rfl ?_ ?_
    · intro h1
      replace h1 := dec_t h1
      obtain ⟨x, hx1⟩ := get_some (l := xs) (i := i) (by omega)
      have hsn := sum_snoc (fun x : SB => x.2.1.length) hx1
      have hst := sum_take xs (i + 1) (fun x : SB => x.2.1.length)
      refine W_skip (at_then ?_)
      refine W_seq ?_
      refine W_block ?_
      refine W_rseq ?_
      first | refine op_indexRd R rfl el_141 sz_23 rfl rfl (by omega) (by omega) (by first | rfl | omega) ?_ | refine op_indexAddr rfl el_141 sz_23 rfl rfl (by omega) (by omega) ?_
      first | refine op_ldb rfl ag_23 rfl H (by first | exact at0 | exact at1 | exact at2 | exact at3 | exact at4 | exact at5 | exact at6 | exact at7 | exact at8 | exact at9) rfl ?_ | refine op_ld rfl ag_23 rfl (R.fld hx1 rfl (j := 0) rfl) ?_
      refine op_assign rfl (.slice _ _ _) rfl ?_
      refine op_nil (at_then ?_)
      refine W_rseq ?_
      refine op_move rfl (.int _ _) rfl ?_
      refine op_move rfl (.slice _ _ _) rfl ?_
      refine op_len rfl el_23 rfl ?_
      refine op_add_i64 rfl rfl rfl (by omega) (by omega) ?_
      refine op_assign rfl (.int _ _) rfl ?_
      refine op_nil (at_then ?_)
      refine W_rseq ?_
      refine op_move rfl (.int _ _) rfl ?_
      refine op_lss rfl rfl rfl ?_
      rw [decide_eq_false (show ¬ (_ : Int) < 0 by omega)]
      refine op_nil (at_then ?_)
      refine W_cond0 rfl ?_
      refine W_skip (at_block (at_then ?_))
      refine W_region ?_
      refine op_add_i64 rfl rfl rfl (by omega) (by omega) ?_
      refine op_move rfl (.int _ _) rfl ?_
      refine op_nil (at_then ?_)
      exact ⟨i + 1, rfl, ⟨rfl, congrArg (Value.int .i64) (by rw [hsn]; rfl), trivial⟩, ⟨rfl, by omega⟩, by omega⟩
    · intro h1
      replace h1 := dec_f h1
      have hii : i = xs.length := by omega
      subst hii
      rw [List.take_length]
      refine W_exit (exit_then (exit_then (exit_here (at_then ?_))))
      refine W_rseq ?_
      refine op_move rfl (.int _ _) rfl ?_
      refine op_call rfl ca_209_TrD (growB_ok _ (by omega) _) rfl ?_
      rintro v w ⟨a24, c24, full24, rfl, H, O⟩
      refine op_assign rfl (.slice _ _ _) rfl ?_
      refine op_nil (at_then ?_)
      refine W_seq ?_
      refine W_rseq ?_
      refine op_move rfl (.slice _ _ _) rfl ?_
      refine op_len rfl el_141 rfl ?_
      refine op_move rfl (.int _ _) rfl ?_
      refine op_nil (at_then ?_)
      refine W_block ?_
      refine W_loop 34225520960 (α := Nat × Option Addr × Nat × List Value) (fun s => [(27, .int .i64 (s.1 : Int)), (6, .slice s.2.1 ((xs.take s.1).flatMap fun x => x.2.1).length s.2.2.1)]) (fun s w' => s.1 ≤ xs.length ∧ Ctx w0 [] w' (ent s.2.1 5 s.2.2.2) ∧ OS s.2.1 ((xs.take s.1).flatMap fun x => x.2.1).length s.2.2.1 1 s.2.2.2 (((xs.take s.1).flatMap fun x => x.2.1).map bv)) (fun s => xs.length - s.1) (0, a24, c24, full24) rfl ?_ ?_ ?_
      · exact ⟨rfl, rfl, trivial⟩
      · exact ⟨Nat.zero_le _, H, O⟩
      · rintro ⟨i, a6, c6, full6⟩ j w ⟨hi, H, O⟩; dsimp only at hi H O; dsimp only
        refine W_rseq ?_
        refine op_lss rfl rfl rfl ?_
        refine op_nil (at_then ?_)
        refine W_seq ?_
        refine W_cond _ rfl ?_ ?_
        · intro h2
          replace h2 := dec_t h2
          obtain ⟨x, hx1⟩ := get_some (l := xs) (i := i) (by omega)
          have hxs := hx x (List.mem_of_getElem? hx1)
          have hsn := sum_snoc (fun x : SB => x.2.1.length) hx1
          have hst := sum_take xs (i + 1) (fun x : SB => x.2.1.length)
          have hfl := flat_map_len (xs.take i) (fun x : SB => x.2.1)
          have hfs := flat_snoc (fun x : SB => x.2.1) hx1
          refine W_skip (at_then ?_)
          refine W_seq ?_
          refine W_block ?_
          refine W_rseq ?_
          first | refine op_indexRd R rfl el_141 sz_23 rfl rfl (by omega) (by omega) (by first | rfl | omega) ?_ | refine op_indexAddr rfl el_141 sz_23 rfl rfl (by omega) (by omega) ?_
          first | refine op_ldb rfl ag_23 rfl H (by first | exact at0 | exact at1 | exact at2 | exact at3 | exact at4 | exact at5 | exact at6 | exact at7 | exact at8 | exact at9) rfl ?_ | refine op_ld rfl ag_23 rfl ((R.ext0 H.ext).fld hx1 rfl (j := 0) rfl) ?_
          refine op_assign rfl (.slice _ _ _) rfl ?_
          refine op_nil (at_then ?_)
          refine W_region ?_
          refine op_move rfl (.slice _ _ _) rfl ?_
          refine op_move rfl (.slice _ _ _) rfl ?_
          refine op_append (L := []) rfl el_23 el_23 sz_5 by_5 zc_5 rfl (by decide) (x.2.1.map bv) rfl rfl H O (by simp) (bv_one _) (Rd.appB (hxs.1.ext0 H.ext)) (by omega) ?_
          rintro a7 c7 full7 w H O
          rw [← List.map_append, ← hfs] at O
          rw [← List.length_append, ← hfs] at O
          rw [← List.length_append, ← hfs]
          refine op_assign rfl (.slice _ _ _) rfl ?_
          refine op_nil (at_block (at_then ?_))
          refine W_region ?_
          refine op_add_i64 rfl rfl rfl (by omega) (by omega) ?_
          refine op_move rfl (.int _ _) rfl ?_
          refine op_nil (at_then ?_)
          exact ⟨(i + 1, a7, c7, full7), rfl, ⟨rfl, rfl, trivial⟩, ⟨by dsimp only; omega, H, O⟩, by dsimp only; omega⟩
        · intro h2
          replace h2 := dec_f h2
          have hii : i = xs.length := by omega
          subst hii
          rw [List.take_length] at O
          rw [List.take_length]
          refine W_exit (exit_then (exit_then (exit_here (at_then ?_))))
          refine W_rseq ?_
          refine op_move rfl (.slice _ _ _) rfl ?_
          refine op_assign rfl (.slice _ _ _) rfl ?_
          refine op_nil (at_then ?_)
          refine W_ret (leave1 (v := (.slice _ _ _)) rfl rfl rfl ?_)
          exact Ctx.fresh (L := []) H O

theorem growI_ok (k : Nat) (hk : k ≤ 100000000000) (w : World) : Ret Tryz.prog 133 #[.slice none 0 0, .int .i64 (k : Int)] w fun v w' => ∃ a c full, v = .slice a 0 c ∧ Ctx w [] w' (ent a 120 full) ∧ OS a 0 c 3 full [] := by
  obtain ⟨w0, rfl⟩ : ∃ w0, w0 = w := ⟨_, rfl⟩
  have H := Ctx.start w0 []
  refine ret_of_W (fn := Tryz.f133) Tryz.func133 rfl [.slice none 0 0, .int .i64 (k : Int)] rfl (by kernel_rfl) ?_
  refine W_rseq ?_
  refine op_assign rfl (.slice _ _ _) rfl ?_
  refine op_nil (at_then ?_)
  refine W_seq ?_
  refine W_rseq ?_
  refine op_move rfl (.int _ _) rfl ?_
  refine op_lss rfl rfl rfl ?_
  rw [decide_eq_false (show ¬ (k : Int) < 0 by omega)]
  refine op_nil (at_then ?_)
  refine W_cond0 rfl ?_
  refine W_skip (at_then ?_)
  refine W_seq ?_
  refine W_rseq ?_
  refine op_move rfl (.int _ _) rfl ?_
  refine op_move rfl (.slice _ _ _) rfl ?_
  refine op_cap rfl el_114_TrD rfl ?_
  refine op_move rfl (.slice _ _ _) rfl ?_
  refine op_len rfl el_114_TrD rfl ?_
  refine op_sub_i64 rfl rfl rfl (by omega) (by omega) ?_
  refine op_sub_i64 rfl rfl rfl (by omega) (by omega) ?_
  rw [show (k : Int) - (((0 : Nat) : Int) - ((0 : Nat) : Int)) = (k : Int) by omega]
  refine op_assign rfl (.int _ _) rfl ?_
  refine op_nil (at_then ?_)
  refine W_rseq ?_
  refine op_move rfl (.int _ _) rfl ?_
  refine op_gtr rfl rfl rfl ?_
  refine op_nil (at_then ?_)
  refine W_cond _ rfl ?_ ?_
  · intro h1
    replace h1 := dec_t h1
    refine W_region ?_
    refine op_move rfl (.slice _ _ _) rfl ?_
    refine op_move rfl (.slice _ _ _) rfl ?_
    refine op_cap rfl el_114_TrD rfl ?_
    refine op_slice_hi rfl el_114_TrD sz_120_TrD rfl rfl (by omega) (by omega) ?_
    refine op_move rfl (.int _ _) rfl ?_
    refine op_growz rfl el_114_TrD un_3 sz_120_TrD by_120_TrD zc_120_TrD rfl (by decide) rfl rfl (by omega) (by omega) (by omega) H ?_
    rintro b c full w H O hkc
    refine op_move rfl (.slice _ _ _) rfl ?_
    refine op_len rfl el_114_TrD rfl ?_
    refine op_slice_hi rfl el_114_TrD sz_120_TrD rfl rfl (by omega) (by omega) ?_
    refine op_assign rfl (.slice _ _ _) rfl ?_
    refine op_nil (at_then ?_)
    refine W_rseq ?_
    refine op_move rfl (.slice _ _ _) rfl ?_
    refine op_assign rfl (.slice _ _ _) rfl ?_
    refine op_nil (at_then ?_)
    refine W_ret (leave1 (v := (.slice _ _ _)) rfl rfl rfl ?_)
    exact ⟨some ⟨b, 0, none⟩, c, full, rfl, H, O⟩
  · intro h1
    replace h1 := dec_f h1
    refine W_skip (at_then ?_)
    refine W_rseq ?_
    refine op_move rfl (.slice _ _ _) rfl ?_
    refine op_assign rfl (.slice _ _ _) rfl ?_
    refine op_nil (at_then ?_)
    refine W_ret (leave1 (v := (.slice _ _ _)) rfl rfl rfl ?_)
    exact ⟨none, 0, [], rfl, H, OS.nil⟩

/-- Slices of items. -/
abbrev SI := Option Addr × List It × Nat
def encT (x : SI) : List Value := [.slice x.1 x.2.1.length x.2.2]
theorem Im.one (ms : List Im) : ∀ v ∈ ms.flatMap Im.enc, oneCell v = true := fun v hv => by
  obtain ⟨m, _, hv⟩ := List.mem_flatMap.1 hv
  simp only [Im.enc, List.mem_cons, List.not_mem_nil, or_false] at hv
  rcases hv with rfl | rfl | rfl <;> rfl
theorem Im.flat_len (ms : List Im) : (ms.flatMap Im.enc).length = ms.length * 3 := by
  rw [List.length_flatMap]
  induction ms with
  | nil => rfl
  | cons m ms ih => rw [List.map_cons, List.sum_cons, ih, List.length_cons]; show 3 + _ = _; omega

set_option maxRecDepth 20000 in
set_option maxHeartbeats 4000000 in
theorem concatI_ok {w : World} {M : Mut} (hM : ∀ x, M x → x < w.heap.size) {a : Option Addr} {n c : Nat} (xs : List SI) (R : Rd w a 1 encT xs) (hx : ∀ x ∈ xs, Its w M x.1 x.2.1.length x.2.2 x.2.1) (hn : n = xs.length) (hm : n ≤ 1000000) (hs : (xs.map fun x => x.2.1.length).sum ≤ 100000000) :
    Ret Tryz.prog 74 #[.slice a n c] w fun v w' => ∃ a' c', v = .slice a' (xs.flatMap fun x => x.2.1).length c' ∧ Its w' M a' (xs.flatMap fun x => x.2.1).length c' (xs.flatMap fun x => x.2.1) ∧ Ext [] w w' := by
  subst hn
  obtain ⟨w0, rfl⟩ : ∃ w0, w0 = w := ⟨_, rfl⟩
  have H := Ctx.start w0 []
  refine ret_of_W (fn := Tryz.f74) Tryz.func74 rfl [.slice a xs.length c] rfl (by kernel_rfl) ?_
  refine W_rseq ?_
  refine op_assign rfl (.slice _ _ _) rfl ?_
  refine op_nil (at_then ?_)
  refine W_rseq ?_
  refine op_assign rfl (.int _ _) rfl ?_
  refine op_nil (at_then ?_)
  refine W_seq ?_
  refine W_rseq ?_
  refine op_move rfl (.slice _ _ _) rfl ?_
  refine op_len rfl el_196_TrD rfl ?_
  refine op_move rfl (.int _ _) rfl ?_
  refine op_nil (at_then ?_)
  refine W_block ?_
  refine W_loop 8386600 (α := Nat) (fun i => [(11, .int .i64 (i : Int)), (3, .int .i64 ((((xs.take i).map fun x => x.2.1.length).sum : Nat) : Int))]) (fun i w' => w0 = w' ∧ i ≤ xs.length) (fun i => xs.length - i) 0 rfl ?_ ?_ ?_
  · exact ⟨rfl, rfl, trivial⟩
  · exact ⟨rfl, Nat.zero_le _⟩
  · rintro i j w ⟨rfl, hi⟩
    refine W_rseq ?_
    refine op_lss rfl rfl rfl ?_
    refine op_nil (at_then ?_)
    refine W_seq ?_
    refine W_cond _ rfl ?_ ?_
    · intro h1
      replace h1 := dec_t h1
      obtain ⟨x, hx1⟩ := get_some (l := xs) (i := i) (by omega)
      have hsn := sum_snoc (fun x : SI => x.2.1.length) hx1
      have hst := sum_take xs (i + 1) (fun x : SI => x.2.1.length)
      refine W_skip (at_then ?_)
      refine W_seq ?_
      refine W_block ?_
      refine W_rseq ?_
      first | refine op_indexRd R rfl el_196_TrD sz_114_TrD rfl rfl (by omega) (by omega) (by first | rfl | omega) ?_ | refine op_indexAddr rfl el_196_TrD sz_114_TrD rfl rfl (by omega) (by omega) ?_
      first | refine op_ldb rfl ag_114_TrD rfl H (by first | exact at0 | exact at1 | exact at2 | exact at3 | exact at4 | exact at5 | exact at6 | exact at7 | exact at8 | exact at9) rfl ?_ | refine op_ld rfl ag_114_TrD rfl (R.fld hx1 rfl (j := 0) rfl) ?_
      refine op_assign rfl (.slice _ _ _) rfl ?_
      refine op_nil (at_then ?_)
      refine W_rseq ?_
      refine op_move rfl (.int _ _) rfl ?_
      refine op_move rfl (.slice _ _ _) rfl ?_
      refine op_len rfl el_114_TrD rfl ?_
      refine op_add_i64 rfl rfl rfl (by omega) (by omega) ?_
      refine op_assign rfl (.int _ _) rfl ?_
      refine op_nil (at_then ?_)
      refine W_rseq ?_
      refine op_move rfl (.int _ _) rfl ?_
      refine op_lss rfl rfl rfl ?_
      rw [decide_eq_false (show ¬ (_ : Int) < 0 by omega)]
      refine op_nil (at_then ?_)
      refine W_cond0 rfl ?_
      refine W_skip (at_block (at_then ?_))
      refine W_region ?_
      refine op_add_i64 rfl rfl rfl (by omega) (by omega) ?_
      refine op_move rfl (.int _ _) rfl ?_
      refine op_nil (at_then ?_)
      exact ⟨i + 1, rfl, ⟨rfl, congrArg (Value.int .i64) (by rw [hsn]; rfl), trivial⟩, ⟨rfl, by omega⟩, by omega⟩
    · intro h1
      replace h1 := dec_f h1
      have hii : i = xs.length := by omega
      subst hii
      rw [List.take_length]
      refine W_exit (exit_then (exit_then (exit_here (at_then ?_))))
      refine W_rseq ?_
      refine op_move rfl (.int _ _) rfl ?_
      refine op_call rfl ca_133_TrD (growI_ok _ (by omega) _) rfl ?_
      rintro v w ⟨a24, c24, full24, rfl, H, O⟩
      refine op_assign rfl (.slice _ _ _) rfl ?_
      refine op_nil (at_then ?_)
      refine W_seq ?_
      refine W_rseq ?_
      refine op_move rfl (.slice _ _ _) rfl ?_
      refine op_len rfl el_196_TrD rfl ?_
      refine op_move rfl (.int _ _) rfl ?_
      refine op_nil (at_then ?_)
      refine W_block ?_
      refine W_loop 34225520960 (α := Nat × Option Addr × Nat × List Value × List Im) (fun s => [(27, .int .i64 (s.1 : Int)), (6, .slice s.2.1 s.2.2.2.2.length s.2.2.1)]) (fun s w' => s.1 ≤ xs.length ∧ Ctx w0 [] w' (ent s.2.1 120 s.2.2.2.1) ∧ OS s.2.1 s.2.2.2.2.length s.2.2.1 3 s.2.2.2.1 (s.2.2.2.2.flatMap Im.enc) ∧ s.2.2.2.2.map (·.it) = (xs.take s.1).flatMap (fun x => x.2.1) ∧ ∀ m ∈ s.2.2.2.2, m.Ok w0 M) (fun s => xs.length - s.1) (0, a24, c24, full24, []) rfl ?_ ?_ ?_
      · exact ⟨rfl, rfl, trivial⟩
      · exact ⟨Nat.zero_le _, H, O, rfl, fun m hm => by cases hm⟩
      · rintro ⟨i, a6, c6, full6, ms⟩ j w ⟨hi, H, O, hms, hmo⟩; dsimp only at hi H O hms hmo; dsimp only
        refine W_rseq ?_
        refine op_lss rfl rfl rfl ?_
        refine op_nil (at_then ?_)
        refine W_seq ?_
        refine W_cond _ rfl ?_ ?_
        · intro h2
          replace h2 := dec_t h2
          obtain ⟨x, hx1⟩ := get_some (l := xs) (i := i) (by omega)
          obtain ⟨ns, Rn, -, hnl, hno⟩ := (hx x (List.mem_of_getElem? hx1)).ex
          have hnn : ns.length = x.2.1.length := by rw [← hnl, List.length_map]
          have hsn := sum_snoc (fun x : SI => x.2.1.length) hx1
          have hst := sum_take xs (i + 1) (fun x : SI => x.2.1.length)
          have hfl := flat_map_len (xs.take i) (fun x : SI => x.2.1)
          have hml : ms.length = ((xs.take i).flatMap fun x => x.2.1).length := by rw [← hms, List.length_map]
          have hfs := flat_snoc (fun x : SI => x.2.1) hx1
          refine W_skip (at_then ?_)
          refine W_seq ?_
          refine W_block ?_
          refine W_rseq ?_
          first | refine op_indexRd R rfl el_196_TrD sz_114_TrD rfl rfl (by omega) (by omega) (by first | rfl | omega) ?_ | refine op_indexAddr rfl el_196_TrD sz_114_TrD rfl rfl (by omega) (by omega) ?_
          first | refine op_ldb rfl ag_114_TrD rfl H (by first | exact at0 | exact at1 | exact at2 | exact at3 | exact at4 | exact at5 | exact at6 | exact at7 | exact at8 | exact at9) rfl ?_ | refine op_ld rfl ag_114_TrD rfl ((R.ext0 H.ext).fld hx1 rfl (j := 0) rfl) ?_
          refine op_assign rfl (.slice _ _ _) rfl ?_
          refine op_nil (at_then ?_)
          refine W_region ?_
          refine op_move rfl (.slice _ _ _) rfl ?_
          refine op_move rfl (.slice _ _ _) rfl ?_
          refine op_append (L := []) rfl el_114_TrD el_114_TrD sz_120_TrD by_120_TrD zc_120_TrD rfl (by decide) (ns.flatMap Im.enc) rfl rfl H O (by rw [Im.flat_len, hnn]) (Im.one _) ((Rn.ext0 H.ext).app (fun _ _ => rfl) (by decide)) (by omega) ?_
          rintro a7 c7 full7 w H O
          rw [← List.flatMap_append, ← hnn, ← List.length_append] at O
          rw [← hnn, ← List.length_append]
          refine op_assign rfl (.slice _ _ _) rfl ?_
          refine op_nil (at_block (at_then ?_))
          refine W_region ?_
          refine op_add_i64 rfl rfl rfl (by omega) (by omega) ?_
          refine op_move rfl (.int _ _) rfl ?_
          refine op_nil (at_then ?_)
          refine ⟨(i + 1, a7, c7, full7, ms ++ ns), rfl, ⟨rfl, rfl, trivial⟩, ⟨by dsimp only; omega, H, O, by dsimp only; rw [List.map_append, hms, hnl, hfs], fun m hm => ?_⟩, by dsimp only; omega⟩
          rcases List.mem_append.1 hm with hm | hm
          · exact hmo m hm
          · exact hno m hm
        · intro h2
          replace h2 := dec_f h2
          have hii : i = xs.length := by omega
          subst hii
          rw [List.take_length] at hms
          have hml : ms.length = (xs.flatMap fun x => x.2.1).length := by rw [← hms, List.length_map]
          have Rm := OS.rd O (fun x hx => H.blk x hx) (fun _ _ => rfl) (by decide)
          refine W_exit (exit_then (exit_then (exit_here (at_then ?_))))
          refine W_rseq ?_
          refine op_move rfl (.slice _ _ _) rfl ?_
          refine op_assign rfl (.slice _ _ _) rfl ?_
          refine op_nil (at_then ?_)
          refine W_ret (leave1 (v := (.slice _ _ _)) rfl rfl rfl ?_)
          refine ⟨a6, c6, by rw [hml], ⟨⟨ms, Rm, ?_, hms, fun m hm => (hmo m hm).call H.ext⟩, rfl, by rw [← hml]; exact O.le⟩, H.ext⟩
          have hq : ∀ q : Addr, a6 = some q → w0.heap.size ≤ q.block := fun q hq => by
            subst hq
            exact (H.own (q.block, _) (List.mem_singleton.2 rfl)).elim (fun h => by cases h) id
          cases ha6 : a6 with
          | none => exact .inl (List.eq_nil_of_length_eq_zero (by have h8 := O.le; have h9 := O.none' ha6; omega))
          | some q => exact .inr fun hqM => absurd (hM _ hqM) (Nat.not_lt.2 (hq q ha6))

end Go.Proofs.YtbkadlngijkmmaaGreatDoor

/- Nodes as bytes: what the program does. -/
namespace Go.Proofs.YtbkadlngijkmmaaGreatDoor
open Go.GV
theorem ag_114_TrE : aggB Tryz.prog 114 = some false := by kernel_rfl
theorem ag_116_TrE : aggB Tryz.prog 116 = some true := by kernel_rfl
theorem ag_120_TrE : aggB Tryz.prog 120 = some true := by kernel_rfl
theorem ca_138_TrE : callable Tryz.prog 138 = true := by kernel_rfl
theorem ca_192_TrE : callable Tryz.prog 192 = true := by kernel_rfl
theorem el_114_TrE : elemT Tryz.prog 114 = some 120 := by kernel_rfl
theorem fo_116_1_TrE : fieldO Tryz.prog 116 1 = some 1 := by kernel_rfl
theorem sz_116_TrE : tsize Tryz.prog 116 = some 2 := by kernel_rfl
theorem sz_120_TrE : tsize Tryz.prog 120 = some 3 := by kernel_rfl
theorem zc_120_TrE : zcells Tryz.prog 120 = some ([.slice none 0 0, .slice none 0 0, .int .i64 0]) := by kernel_rfl
attribute [local irreducible] Wops W Wq Wt

theorem total_le {inner : Bool} {L : List It} (h : ∀ x ∈ L, x.key.length ≤ 65535 ∧ x.val.length ≤ 65535) : totalI inner L ≤ 131076 * L.length := by
  induction L with
  | nil => exact Nat.zero_le _
  | cons x L ih =>
    have h1 := h x (List.mem_cons_self ..)
    have h2 := ih fun y hy => h y (List.mem_cons_of_mem _ hy)
    have h3 : sizeI inner x ≤ 131076 := by
      cases inner
      · simp only [sizeI, cond_false]; omega
      · simp only [sizeI, cond_true]; omega
    rw [totalI_cons, List.length_cons]; omega
theorem total_snoc {inner : Bool} {L : List It} {i : Nat} {x : It} (h : L[i]? = some x) : totalI inner (L.take (i + 1)) = totalI inner (L.take i) + sizeI inner x := by
  rw [take_snoc h, totalI_append, totalI_cons]; rfl
def NB (inner : Bool) (a : Option Addr) (n c : Nat) : List Value := [.bool inner, .slice a n c]

set_option maxRecDepth 20000 in
set_option maxHeartbeats 1000000 in
theorem total_ok {w : World} {M : Mut} (inner : Bool) {a : Option Addr} {n c : Nat} {L : List It} (I : Its w M a n c L) (hm : n ≤ 1000000) (hsz : ∀ x ∈ L, x.key.length ≤ 65535 ∧ x.val.length ≤ 65535) :
    Ret Tryz.prog 137 #[.agg #[.bool inner, .slice a n c]] w fun v w' => v = .int .i64 (totalI inner L : Int) ∧ Ext [] w w' := by
  obtain ⟨w0, rfl⟩ : ∃ w0, w0 = w := ⟨_, rfl⟩
  have H := Ctx.start w0 []
  obtain ⟨ms, R, -, hl, hok⟩ := I.ex
  have hnum := I.num
  have hml : ms.length = n := by rw [hnum, ← hl, List.length_map]
  refine ret_of_W (fn := Tryz.f137) Tryz.func137 rfl [.agg #[.bool inner, .slice a n c]] rfl (by kernel_rfl) ?_
  refine W_rseq ?_
  refine op_box rfl (NB inner a n c) (.agg _) rfl rfl H ?_
  rintro b1 w - H
  refine op_assign rfl (.int _ _) rfl ?_
  refine op_nil (at_then ?_)
  refine W_seq ?_
  refine W_rseq ?_
  refine op_fieldAddr rfl fo_116_1_TrE rfl ?_
  refine op_ldb rfl ag_114_TrE rfl H (by first | exact at0 | exact at1 | exact at2 | exact at3 | exact at4 | exact at5 | exact at6 | exact at7 | exact at8 | exact at9) rfl ?_
  refine op_len rfl el_114_TrE rfl ?_
  refine op_move rfl (.int _ _) rfl ?_
  refine op_nil (at_then ?_)
  refine W_block ?_
  obtain ⟨wb, rfl⟩ : ∃ wb, wb = w := ⟨_, rfl⟩
  have hb1 := H.get at0
  have hxb := H.ext
  have hnode : ∀ {z : World}, Ext [] wb z → z.heap[b1]? = some (Bl 116 (NB inner a n c)) := fun {z} h => by rw [h.block b1 (heap_lt hb1) (by simp)]; exact hb1
  refine W_loop 261908 (α := Nat) (fun i => [(8, .int .i64 (i : Int)), (2, .int .i64 (totalI inner (L.take i) : Int))]) (fun i w' => i ≤ n ∧ Ext [] wb w') (fun i => n - i) 0 rfl ?_ ?_ ?_
  · exact ⟨rfl, rfl, trivial⟩
  · exact ⟨Nat.zero_le _, .refl _ _⟩
  · rintro i j w ⟨hi, hx⟩
    have H := Ctx.start w []
    refine W_rseq ?_
    refine op_lss rfl rfl rfl ?_
    refine op_nil (at_then ?_)
    refine W_seq ?_
    refine W_cond _ rfl ?_ ?_
    · intro h1
      replace h1 := dec_t h1
      obtain ⟨x, hx1⟩ := get_some (l := ms) (i := i) (by omega)
      have hxL := Im.at hl hx1
      have hxo := hok x (List.mem_of_getElem? hx1)
      have hxs := hsz x.it (List.mem_of_getElem? hxL)
      have hts := total_snoc (inner := inner) hxL
      have htl := total_le (inner := inner) (L := L.take i) fun y hy => hsz y (List.mem_of_mem_take hy)
      have hlt := List.length_take (i := i) (l := L)
      have hsx : sizeI inner x.it ≤ 131076 := by
        cases inner
        · simp only [sizeI, cond_false]; omega
        · simp only [sizeI, cond_true]; omega
      refine W_skip (at_then ?_)
      refine W_seq ?_
      refine W_block ?_
      refine W_rseq ?_
      first | refine op_indexRd R rfl el_114_TrE sz_120_TrE rfl rfl (by omega) (by omega) (by first | rfl | omega) ?_ | refine op_indexAddr rfl el_114_TrE sz_120_TrE rfl rfl (by omega) (by omega) ?_
      refine op_ldN x.enc rfl ag_120_TrE sz_120_TrE rfl rfl ((R.ext0 (hxb.trans hx)).row hx1 rfl) ?_
      refine op_alloc rfl zc_120_TrE H ?_
      rintro b4 w - H
      refine op_stb0 rfl sz_120_TrE rfl rfl rfl (by first | exact Im.oneE _ | simp [oneCell]) H (by first | exact at0 | exact at1 | exact at2 | exact at3 | exact at4 | exact at5 | exact at6 | exact at7 | exact at8 | exact at9) rfl ?_
      rintro w H
      refine op_nil (at_then ?_)
      refine W_region ?_
      refine op_move rfl (.int _ _) rfl ?_
      refine op_ldN (NB inner a n c) rfl ag_116_TrE sz_116_TrE rfl rfl (fun j v hv => by rw [cell_bl (hnode (hx.trans H.ext)), Nat.zero_add]; exact hv) ?_
      refine op_ldbN rfl ag_120_TrE sz_120_TrE rfl H (by first | exact at0 | exact at1 | exact at2 | exact at3 | exact at4 | exact at5 | exact at6 | exact at7 | exact at8 | exact at9) rfl ?_
      refine op_call rfl ca_138_TrE (size_ok7 inner a n c (hxo.call ((hxb.trans hx).trans H.ext)) (by omega) (by omega)) rfl ?_
      rintro v w ⟨rfl, hx15⟩
      replace H := H.call hx15
      refine op_add_i64 rfl rfl rfl (by omega) (by omega) ?_
      refine op_assign rfl (.int _ _) rfl ?_
      refine op_nil (at_block (at_then ?_))
      refine W_region ?_
      refine op_add_i64 rfl rfl rfl (by omega) (by omega) ?_
      refine op_move rfl (.int _ _) rfl ?_
      refine op_nil (at_then ?_)
      exact ⟨i + 1, rfl, ⟨rfl, congrArg (Value.int .i64) (by rw [hts]; rfl), trivial⟩, ⟨by omega, hx.trans H.ext⟩, by omega⟩
    · intro h1
      replace h1 := dec_f h1
      have hii : i = n := by omega
      subst hii
      rw [hnum, List.take_length]
      refine W_exit (exit_then (exit_then (exit_here (at_then ?_))))
      refine W_rseq ?_
      refine op_move rfl (.int _ _) rfl ?_
      refine op_assign rfl (.int _ _) rfl ?_
      refine op_nil (at_then ?_)
      refine W_ret (leave1 (v := (.int _ _)) rfl rfl rfl ?_)
      exact ⟨rfl, hxb.trans hx⟩

/-! ### Byte strings -/
theorem putB2 (l : Byt) (n : Nat) : putB l n 2 = l ++ putN n 2 := by rw [putB, show sizeB 2 = true by decide]; rfl
set_option maxRecDepth 20000 in
theorem putBytes_ok (a : Option Addr) (c m : Nat) (b : Byt) (sa : Option Addr) (sc sn : Nat) (s : Byt) (w : World) (R : Rd w a 1 B8 b) (hb : b.length = m) (hm : m ≤ 1000000000) (Rs : Rd w sa 1 B8 s) (hs : s.length = sn) (hn : sn ≤ 65535) (hc : sn ≤ sc) :
    Ret Tryz.prog 154 #[.slice a m c, .slice sa sn sc] w fun v w' => ∃ x, v = .tuple #[x, .int .i64 0] ∧ Fresh w w' 5 1 x ((b ++ (putN s.length 2 ++ s)).map bv) := by
  subst hb hs
  obtain ⟨w0, rfl⟩ : ∃ w0, w0 = w := ⟨_, rfl⟩
  refine ret_of_W (fn := Tryz.f154) Tryz.func154 rfl [.slice a b.length c, .slice sa s.length sc] rfl (by kernel_rfl) ?_
  refine W_rseq ?_
  refine op_assign rfl (.slice _ _ _) rfl ?_
  refine op_assign rfl (.int _ _) rfl ?_
  refine op_nil (at_then ?_)
  refine W_seq ?_
  refine W_rseq ?_
  refine op_move rfl (.slice _ _ _) rfl ?_
  refine op_len rfl el_23 rfl ?_
  refine op_gtr rfl rfl rfl ?_
  rw [decide_eq_false (show ¬ (65535 : Int) < (s.length : Int) by omega)]
  refine op_nil (at_then ?_)
  refine W_cond0 rfl ?_
  refine W_skip (at_then ?_)
  refine W_rseq ?_
  refine op_move rfl (.slice _ _ _) rfl ?_
  refine op_move rfl (.slice _ _ _) rfl ?_
  refine op_len rfl el_23 rfl ?_
  refine op_conv_u64 rfl rfl un_3 un_152 (by omega) (by omega) ?_
  refine op_call rfl ca_152 (put_ok a c _ b s.length 2 _ R rfl (by omega) (by omega)) rfl ?_
  rintro v w F13
  rw [putB2] at F13
  obtain ⟨a13, c13, rfl, R13, hc13⟩ := Fresh.rdB F13
  have H := Ctx.start w []
  refine op_move rfl (.slice _ _ _) rfl ?_
  refine op_buildL (L := []) [.slice a13 (b ++ putN s.length 2).length c13, .slice sa s.length sc] rfl el_141 sz_23 zc_23 (by decide) (by decide) (by kernel_rfl) H ?_
  rintro b15 w2 - H
  have hl2 : (([(a13, b ++ putN s.length 2, c13), (sa, s, sc)] : List SB).map fun x => x.2.1.length).sum = b.length + 2 + s.length := (by simp [putN_len]; try omega)
  refine op_call rfl ca_192_TrE (concatB_ok [(a13, b ++ putN s.length 2, c13), (sa, s, sc)] (Rd.of_bl (r := []) (H.get at0) rfl (fun _ _ => rfl)) (fun x hx => ?_) rfl (by simp) (by omega)) rfl ?_
  rotate_left
  rintro v w3 F16
  obtain ⟨a16, c16, rfl, R16, hc16⟩ := Fresh.rdB F16
  refine op_assign rfl (.slice _ _ _) rfl ?_
  refine op_assign rfl (.int _ _) rfl ?_
  refine op_nil (at_then ?_)
  refine W_ret (leave2 (v1 := (.slice _ _ _)) (v2 := (.int _ _)) rfl rfl rfl rfl ?_)
  · refine ⟨_, rfl, ?_⟩
    have F := Fresh.since F16 (F13.ext.trans H.ext)
    simpa using F
  · rcases List.mem_cons.1 hx with rfl | hx
    · exact ⟨R13.ext0 H.ext, hc13⟩
    · rw [List.mem_singleton.1 hx]
      exact ⟨(Rs.ext0 F13.ext).ext0 H.ext, hc⟩

theorem take_uniN (b : Byt) (at' k : Nat) : ∃ (g nx : Nat), takeV b (at' : Int) (k : Int) = .tuple #[.int .u64 (g : Int), .int .i64 (nx : Int), .int .i64 (takeE b (at' : Int) (k : Int))] ∧ g < 256 ^ k ∧ nx ≤ at' + k ∧ (takeE b (at' : Int) (k : Int) = 0 → g = numN ((b.drop at').take k) ∧ nx = at' + k) := by
  by_cases h : takeE b (at' : Int) (k : Int) = 0
  · refine ⟨numN ((b.drop at').take k), at' + k, ?_, ?_, Nat.le_refl _, fun _ => ⟨rfl, rfl⟩⟩
    · rw [takeV, h]; rfl
    · have h1 := numN_lt ((b.drop at').take k)
      have h2 : ((b.drop at').take k).length ≤ k := by rw [List.length_take]; omega
      exact Nat.lt_of_lt_of_le h1 (Nat.pow_le_pow_right (by omega) h2)
  · refine ⟨0, 0, ?_, Nat.pow_pos (by omega), by omega, fun h' => absurd h' h⟩
    rw [takeV, decide_eq_false h]; rfl

theorem take_uni2 (b : Byt) (at' : Nat) : ∃ (g nx : Nat), takeV b (at' : Int) 2 = .tuple #[.int .u64 (g : Int), .int .i64 (nx : Int), .int .i64 (takeE b (at' : Int) 2)] ∧ g < 65536 ∧ nx ≤ at' + 2 ∧ (takeE b (at' : Int) 2 = 0 → g = numN ((b.drop at').take 2) ∧ nx = at' + 2) := take_uniN b at' 2
theorem take_uni4 (b : Byt) (at' : Nat) : ∃ (g nx : Nat), takeV b (at' : Int) 4 = .tuple #[.int .u64 (g : Int), .int .i64 (nx : Int), .int .i64 (takeE b (at' : Int) 4)] ∧ g < 4294967296 ∧ nx ≤ at' + 4 ∧ (takeE b (at' : Int) 4 = 0 → g = numN ((b.drop at').take 4) ∧ nx = at' + 4) := take_uniN b at' 4

set_option maxRecDepth 20000 in
set_option maxHeartbeats 1000000 in
theorem takeBytes_ok (a : Option Addr) (c m : Nat) (b : Byt) (at' : Nat) (w : World) (R : Rd w a 1 B8 b) (hb : b.length = m) (hm : m ≤ 1000000000) (hc : m ≤ c) (ha : at' ≤ 1000000000) :
    Ret Tryz.prog 161 #[.slice a m c, .int .i64 (at' : Int)] w fun v w' => ∃ sa s sc nx e, v = .tuple #[.slice sa (List.length s) sc, .int .i64 ((nx : Nat) : Int), .int .i64 e] ∧ Ext [] w w' ∧ Rdx w' (Old w) sa s ∧ s.length ≤ sc ∧ s.length ≤ b.length ∧ nx ≤ b.length ∧ (e = 0 → tbO b at' = some (s, nx)) ∧ (e ≠ 0 → tbO b at' = none ∧ s = []) := by
  subst hb
  obtain ⟨w0, rfl⟩ : ∃ w0, w0 = w := ⟨_, rfl⟩
  obtain ⟨g, nx, htv, hg, hnx, h0⟩ := take_uni2 b at'
  refine ret_of_W (fn := Tryz.f161) Tryz.func161 rfl [.slice a b.length c, .int .i64 (at' : Int)] rfl (by kernel_rfl) ?_
  refine W_rseq ?_
  refine op_assign rfl (.slice _ _ _) rfl ?_
  refine op_assign rfl (.int _ _) rfl ?_
  refine op_assign rfl (.int _ _) rfl ?_
  refine op_nil (at_then ?_)
  refine W_rseq ?_
  refine op_move rfl (.slice _ _ _) rfl ?_
  refine op_move rfl (.int _ _) rfl ?_
  refine op_call rfl ca_146 (otake_ok a c _ b (at' : Int) 2 _ R rfl (by omega) hc) rfl ?_
  rintro v w ⟨rfl, hx12⟩
  rw [htv]
  refine op_move rfl (.tuple _) rfl ?_
  refine op_extract rfl rfl rfl ?_
  refine op_extract rfl rfl rfl ?_
  refine op_extract rfl rfl rfl ?_
  refine op_assign rfl (.int _ _) rfl ?_
  refine op_assign rfl (.int _ _) rfl ?_
  refine op_assign rfl (.int _ _) rfl ?_
  refine op_nil (at_then ?_)
  refine W_seq ?_
  refine W_rseq ?_
  refine op_move rfl (.int _ _) rfl ?_
  refine op_neq rfl rfl rfl ?_
  refine op_nil (at_then ?_)
  refine W_cond _ rfl ?_ ?_
  · intro h1
    replace h1 := ndec_t h1
    have hn : tbO b at' = none := by unfold tbO; rw [if_neg h1]
    refine W_rseq ?_
    refine op_move rfl (.int _ _) rfl ?_
    refine op_assign rfl (.slice _ _ _) rfl ?_
    refine op_assign rfl (.int _ _) rfl ?_
    refine op_assign rfl (.int _ _) rfl ?_
    refine op_nil (at_then ?_)
    refine W_ret (ret_then (leave3 (v1 := (.slice _ _ _)) (v2 := (.int _ _)) (v3 := (.int _ _)) rfl rfl rfl rfl rfl ?_))
    exact ⟨none, [], 0, 0, _, rfl, hx12, Rdx.nil, Nat.le_refl _, Nat.zero_le _, Nat.zero_le _, fun h => absurd h h1, fun _ => ⟨hn, rfl⟩⟩
  · intro h1
    replace h1 := ndec_f h1
    obtain ⟨hg2, hnx2⟩ := h0 h1
    subst hnx2
    have ht : tbO b at' = if at' + 2 + g ≤ b.length then some ((b.drop (at' + 2)).take g, at' + 2 + g) else none := by unfold tbO; rw [if_pos h1, ← hg2]
    refine W_skip (at_then ?_)
    refine W_seq ?_
    refine W_rseq ?_
    refine op_move rfl (.int _ _) rfl ?_
    refine op_move rfl (.int _ _) rfl ?_
    refine op_conv_i64 rfl rfl un_152 un_3 (by omega) (by omega) ?_
    refine op_add_i64 rfl rfl rfl (by omega) (by omega) ?_
    rw [show ((at' + 2 : Nat) : Int) + (g : Int) = ((at' + 2 + g : Nat) : Int) by omega]
    refine op_assign rfl (.int _ _) rfl ?_
    refine op_nil (at_then ?_)
    refine W_rseq ?_
    refine op_move rfl (.int _ _) rfl ?_
    refine op_move rfl (.slice _ _ _) rfl ?_
    refine op_len rfl el_23 rfl ?_
    refine op_gtr rfl rfl rfl ?_
    refine op_nil (at_then ?_)
    refine W_cond _ rfl ?_ ?_
    · intro h2
      replace h2 := dec_t h2
      rw [if_neg (by omega)] at ht
      refine W_rseq ?_
      refine op_assign rfl (.slice _ _ _) rfl ?_
      refine op_assign rfl (.int _ _) rfl ?_
      refine op_assign rfl (.int _ _) rfl ?_
      refine op_nil (at_then ?_)
      refine W_ret (ret_then (leave3 (v1 := (.slice _ _ _)) (v2 := (.int _ _)) (v3 := (.int _ _)) rfl rfl rfl rfl rfl ?_))
      exact ⟨none, [], 0, 0, 5, rfl, hx12, Rdx.nil, Nat.le_refl _, Nat.zero_le _, Nat.zero_le _, fun h => absurd h (by decide), fun _ => ⟨ht, rfl⟩⟩
    · intro h2
      replace h2 := dec_f h2
      rw [if_pos (by omega)] at ht
      have R2 : Rd w (cutA a c (at' + 2) 1) 1 B8 ((b.drop (at' + 2)).take g) := ((R.ext0 hx12).cut (at' + 2) c hc).take g
      have hl2 : ((b.drop (at' + 2)).take g).length = g := by rw [List.length_take, List.length_drop]; omega
      refine W_skip (at_then ?_)
      refine W_rseq ?_
      refine op_move rfl (.slice _ _ _) rfl ?_
      refine op_move rfl (.int _ _) rfl ?_
      refine op_move rfl (.int _ _) rfl ?_
      refine op_slice_lohi rfl el_23 sz_5 rfl rfl rfl (by omega) (by omega) (by omega) ?_
      rw [Int.toNat_natCast, Int.toNat_natCast, show at' + 2 + g - (at' + 2) = g by omega]
      refine op_call rfl ca_119 (clone_ok _ _ g _ _ R2 hl2 (by omega)) rfl ?_
      rintro v w3 ⟨F31, -⟩
      obtain ⟨a31, c31, rfl, R31, hc31, hn31⟩ := Fresh.newB F31
      refine op_move rfl (.int _ _) rfl ?_
      refine op_assign rfl (.slice _ _ _) rfl ?_
      refine op_assign rfl (.int _ _) rfl ?_
      refine op_assign rfl (.int _ _) rfl ?_
      refine op_nil (at_then ?_)
      refine W_ret (leave3 (v1 := (.slice _ _ _)) (v2 := (.int _ _)) (v3 := (.int _ _)) rfl rfl rfl rfl rfl ?_)
      have hsz := hx12.size
      exact ⟨a31, _, c31, at' + 2 + g, 0, rfl, hx12.trans F31.ext, ⟨R31, hn31.imp id fun h h2 => by unfold Old at h2; omega⟩, hc31, by rw [hl2]; omega, by omega, fun _ => ht, fun h => absurd rfl h⟩

end Go.Proofs.YtbkadlngijkmmaaGreatDoor

/- Nodes as bytes, taken off and put on. -/
namespace Go.Proofs.YtbkadlngijkmmaaGreatDoor
open Go.GV
theorem ag_120_TrF : aggB Tryz.prog 120 = some true := by kernel_rfl
theorem ca_161_TrF : callable Tryz.prog 161 = true := by kernel_rfl
theorem fo_120_0_TrF : fieldO Tryz.prog 120 0 = some 0 := by kernel_rfl
theorem fo_120_1_TrF : fieldO Tryz.prog 120 1 = some 1 := by kernel_rfl
theorem fo_120_2_TrF : fieldO Tryz.prog 120 2 = some 2 := by kernel_rfl
theorem sz_120_TrF : tsize Tryz.prog 120 = some 3 := by kernel_rfl
theorem zc_120_TrF : zcells Tryz.prog 120 = some ([.slice none 0 0, .slice none 0 0, .int .i64 0]) := by kernel_rfl
attribute [local irreducible] Wops W Wq Wt

theorem Old.mono {w w' : World} {S : List Nat} (hx : Ext S w w') : ∀ x, Old w x → Old w' x := fun _ h => Nat.lt_of_lt_of_le h hx.size
set_option maxRecDepth 20000 in
set_option maxHeartbeats 2000000 in
theorem one_ok (inner : Bool) (a : Option Addr) (c m : Nat) (b : Byt) (at' : Nat) (w : World) (R : Rd w a 1 B8 b) (hb : b.length = m) (hm : m ≤ 100000000) (hc : m ≤ c) (ha : at' ≤ 100000000) :
    Ret Tryz.prog 167 #[.bool inner, .slice a m c, .int .i64 (at' : Int)] w fun v w' => ∃ (x : Im) (nx : Nat) (e : Int), v = .tuple #[.agg x.enc.toArray, .int .i64 (nx : Int), .int .i64 e] ∧ Ext [] w w' ∧ x.Ok w' (Old w) ∧ nx ≤ b.length ∧ x.it.key.length ≤ b.length ∧ x.it.val.length ≤ b.length ∧ x.it.page < 4294967296 ∧ (e = 0 → oneO inner b at' = some (x.it, nx)) ∧ (e ≠ 0 → oneO inner b at' = none) := by
  subst hb
  obtain ⟨w0, rfl⟩ : ∃ w0, w0 = w := ⟨_, rfl⟩
  have H := Ctx.start w0 []
  refine ret_of_W (fn := Tryz.f167) Tryz.func167 rfl [.bool inner, .slice a b.length c, .int .i64 (at' : Int)] rfl (by kernel_rfl) ?_
  refine W_rseq ?_
  refine op_alloc rfl zc_120_TrF H ?_
  rintro b6 w - H
  refine op_assign rfl (.int _ _) rfl ?_
  refine op_assign rfl (.int _ _) rfl ?_
  refine op_nil (at_then ?_)
  refine W_seq ?_
  refine W_rseq ?_
  refine op_move rfl (.bool _) rfl ?_
  refine op_nil (at_then ?_)
  refine W_cond _ rfl ?_ ?_
  · intro hi
    subst hi
    obtain ⟨g, nx, htv, hg, hnx, h0⟩ := take_uni4 b at'
    refine W_rseq ?_
    refine op_move rfl (.slice _ _ _) rfl ?_
    refine op_move rfl (.int _ _) rfl ?_
    refine op_call rfl ca_146 (otake_ok a c _ b (at' : Int) 4 _ (R.ext0 H.ext) rfl (by omega) hc) rfl ?_
    rintro v w ⟨rfl, hx16⟩
    rw [htv]
    replace H := H.call hx16
    refine op_move rfl (.tuple _) rfl ?_
    refine op_extract rfl rfl rfl ?_
    refine op_extract rfl rfl rfl ?_
    refine op_extract rfl rfl rfl ?_
    refine op_assign rfl (.int _ _) rfl ?_
    refine op_assign rfl (.int _ _) rfl ?_
    refine op_assign rfl (.int _ _) rfl ?_
    refine op_nil (at_then ?_)
    refine W_seq ?_
    refine W_rseq ?_
    refine op_move rfl (.int _ _) rfl ?_
    refine op_neq rfl rfl rfl ?_
    refine op_nil (at_then ?_)
    refine W_cond _ rfl ?_ ?_
    · intro h1
      replace h1 := ndec_t h1
      refine W_rseq ?_
      refine op_ldbN rfl ag_120_TrF sz_120_TrF rfl H (by first | exact at0 | exact at1 | exact at2 | exact at3 | exact at4 | exact at5 | exact at6 | exact at7 | exact at8 | exact at9) rfl ?_
      refine op_move rfl (.int _ _) rfl ?_
      refine op_stb0 rfl sz_120_TrF rfl rfl rfl (by simp [oneCell]) H (by first | exact at0 | exact at1 | exact at2 | exact at3 | exact at4 | exact at5 | exact at6 | exact at7 | exact at8 | exact at9) rfl ?_
      rintro w H
      refine op_assign rfl (.int _ _) rfl ?_
      refine op_assign rfl (.int _ _) rfl ?_
      refine op_nil (at_then ?_)
      refine W_ret (ret_then (ret_then (leave3b rfl rfl rfl ag_120_TrF sz_120_TrF H (by first | exact at0 | exact at1 | exact at2 | exact at3 | exact at4 | exact at5 | exact at6 | exact at7 | exact at8 | exact at9) rfl (show _ = (.int _ _) from rfl) (show _ = (.int _ _) from rfl) ?_)))
      refine ⟨⟨none, 0, none, 0, ⟨[], [], 0⟩⟩, 0, _, rfl, H.ext, ⟨Rdx.nil, Rdx.nil, Nat.le_refl _, Nat.le_refl _⟩, Nat.zero_le _, Nat.zero_le _, Nat.zero_le _, by decide, fun h => absurd h h1, fun _ => ?_⟩
      unfold oneO
      rw [if_pos rfl, if_neg h1]
    · intro h1
      replace h1 := ndec_f h1
      obtain ⟨hg2, hnx2⟩ := h0 h1
      subst hnx2
      refine W_skip (at_then ?_)
      refine W_region ?_
      refine op_move rfl (.int _ _) rfl ?_
      refine op_conv_i64 rfl rfl un_152 un_3 (by omega) (by omega) ?_
      refine op_move rfl (.int _ _) rfl ?_
      refine op_fieldAddr rfl fo_120_2_TrF rfl ?_
      refine op_stb (.int _ _) rfl sz_3 rfl rfl rfl H (by first | exact at0 | exact at1 | exact at2 | exact at3 | exact at4 | exact at5 | exact at6 | exact at7 | exact at8 | exact at9) (by first | decide | (simp; done) | (simp; omega)) ?_
      rintro w H
      refine op_assign rfl (.int _ _) rfl ?_
      refine op_nil (at_then ?_)
      refine W_rseq ?_
      refine op_move rfl (.slice _ _ _) rfl ?_
      refine op_move rfl (.int _ _) rfl ?_
      refine op_call rfl ca_161_TrF (takeBytes_ok a c _ b (at' + 4) _ (R.ext0 H.ext) rfl (by omega) hc (by omega)) rfl ?_
      have hxw := H.ext
      have hb6 := H.lt (k := 0) rfl
      rintro v w3 ⟨sa, s, sc, ny, e, rfl, hx31, X31, hsc, hsl, hny, he0, he1⟩
      have Hold := H.call hx31
      replace H := Ctx.startL (fun x hx => Hold.blk x hx) Hold.nd
      have hge := (Hold.own _ (List.mem_cons_self ..)).elim (fun h => by cases h) id
      refine op_move rfl (.tuple _) rfl ?_
      refine op_extract rfl rfl rfl ?_
      refine op_extract rfl rfl rfl ?_
      refine op_extract rfl rfl rfl ?_
      refine op_fieldAddr rfl fo_120_0_TrF rfl ?_
      refine op_stb (.slice _ _ _) rfl sz_23 rfl rfl rfl H (by first | exact at0 | exact at1 | exact at2 | exact at3 | exact at4 | exact at5 | exact at6 | exact at7 | exact at8 | exact at9) (by first | decide | (simp; done) | (simp; omega)) ?_
      rintro w H
      refine op_assign rfl (.int _ _) rfl ?_
      refine op_assign rfl (.int _ _) rfl ?_
      refine op_nil (at_then ?_)
      refine W_seq ?_
      refine W_rseq ?_
      refine op_move rfl (.int _ _) rfl ?_
      refine op_eql rfl rfl rfl ?_
      refine op_move rfl (.bool _) rfl ?_
      refine Wops_split 38 rfl ?_ ?_
      · intro h2
        replace h2 := dec_t h2
        refine op_move rfl (.bool _) rfl ?_
        refine op_not rfl rfl ?_
        refine op_pick1 rfl rfl (.bool _) rfl ?_
        refine op_nil (at_then ?_)
        refine W_cond0 rfl ?_
        refine W_skip (at_then ?_)
        refine W_rseq ?_
        refine op_ldbN rfl ag_120_TrF sz_120_TrF rfl H (by first | exact at0 | exact at1 | exact at2 | exact at3 | exact at4 | exact at5 | exact at6 | exact at7 | exact at8 | exact at9) rfl ?_
        refine op_move rfl (.int _ _) rfl ?_
        refine op_move rfl (.int _ _) rfl ?_
        refine op_stb0 rfl sz_120_TrF rfl rfl rfl (by simp [oneCell]) H (by first | exact at0 | exact at1 | exact at2 | exact at3 | exact at4 | exact at5 | exact at6 | exact at7 | exact at8 | exact at9) rfl ?_
        rintro w H
        refine op_assign rfl (.int _ _) rfl ?_
        refine op_assign rfl (.int _ _) rfl ?_
        refine op_nil (at_then ?_)
        refine W_ret (leave3b rfl rfl rfl ag_120_TrF sz_120_TrF H (by first | exact at0 | exact at1 | exact at2 | exact at3 | exact at4 | exact at5 | exact at6 | exact at7 | exact at8 | exact at9) rfl (show _ = (.int _ _) from rfl) (show _ = (.int _ _) from rfl) ?_)
        have X := (X31.past H.ext (fun x hx => by rw [List.mem_singleton.1 hx]; exact hb6)).weak (Old.mono hxw)
        refine ⟨⟨sa, sc, none, 0, ⟨s, [], g⟩⟩, ny, e, rfl, Hold.ext.then H.ext (fun x hx => .inr (by rw [List.mem_singleton.1 hx]; exact hge)), ⟨X, Rdx.nil, hsc, Nat.le_refl _⟩, hny, hsl, Nat.zero_le _, hg, fun h => ?_, fun h => absurd h2 h⟩
        unfold oneO
        rw [if_pos rfl, if_pos h1, he0 h, ← hg2]
      · intro h2
        replace h2 := dec_f h2
        refine op_skip rfl ?_
        refine op_skip rfl ?_
        refine op_pick0 rfl rfl (.bool _) rfl ?_
        refine op_nil (at_then ?_)
        refine W_cond0 rfl ?_
        refine W_skip (at_then ?_)
        refine W_rseq ?_
        refine op_ldbN rfl ag_120_TrF sz_120_TrF rfl H (by first | exact at0 | exact at1 | exact at2 | exact at3 | exact at4 | exact at5 | exact at6 | exact at7 | exact at8 | exact at9) rfl ?_
        refine op_move rfl (.int _ _) rfl ?_
        refine op_move rfl (.int _ _) rfl ?_
        refine op_stb0 rfl sz_120_TrF rfl rfl rfl (by simp [oneCell]) H (by first | exact at0 | exact at1 | exact at2 | exact at3 | exact at4 | exact at5 | exact at6 | exact at7 | exact at8 | exact at9) rfl ?_
        rintro w H
        refine op_assign rfl (.int _ _) rfl ?_
        refine op_assign rfl (.int _ _) rfl ?_
        refine op_nil (at_then ?_)
        refine W_ret (leave3b rfl rfl rfl ag_120_TrF sz_120_TrF H (by first | exact at0 | exact at1 | exact at2 | exact at3 | exact at4 | exact at5 | exact at6 | exact at7 | exact at8 | exact at9) rfl (show _ = (.int _ _) from rfl) (show _ = (.int _ _) from rfl) ?_)
        have X := (X31.past H.ext (fun x hx => by rw [List.mem_singleton.1 hx]; exact hb6)).weak (Old.mono hxw)
        refine ⟨⟨sa, sc, none, 0, ⟨s, [], g⟩⟩, ny, e, rfl, Hold.ext.then H.ext (fun x hx => .inr (by rw [List.mem_singleton.1 hx]; exact hge)), ⟨X, Rdx.nil, hsc, Nat.le_refl _⟩, hny, hsl, Nat.zero_le _, hg, fun h => absurd h h2, fun _ => ?_⟩
        unfold oneO
        rw [if_pos rfl, if_pos h1, (he1 h2).1]
  · intro hi
    subst hi
    refine W_skip (at_then ?_)
    refine W_rseq ?_
    refine op_move rfl (.slice _ _ _) rfl ?_
    refine op_move rfl (.int _ _) rfl ?_
    refine op_call rfl ca_161_TrF (takeBytes_ok a c _ b at' _ (R.ext0 H.ext) rfl (by omega) hc (by omega)) rfl ?_
    have hxw := H.ext
    have hb6 := H.lt (k := 0) rfl
    rintro v w3 ⟨sa, s, sc, ny, e, rfl, hx31, X31, hsc, hsl, hny, he0, he1⟩
    have Hold := H.call hx31
    replace H := Ctx.startL (fun x hx => Hold.blk x hx) Hold.nd
    have hge := (Hold.own _ (List.mem_cons_self ..)).elim (fun h => by cases h) id
    refine op_move rfl (.tuple _) rfl ?_
    refine op_extract rfl rfl rfl ?_
    refine op_extract rfl rfl rfl ?_
    refine op_extract rfl rfl rfl ?_
    refine op_fieldAddr rfl fo_120_0_TrF rfl ?_
    refine op_stb (.slice _ _ _) rfl sz_23 rfl rfl rfl H (by first | exact at0 | exact at1 | exact at2 | exact at3 | exact at4 | exact at5 | exact at6 | exact at7 | exact at8 | exact at9) (by first | decide | (simp; done) | (simp; omega)) ?_
    rintro w H
    refine op_assign rfl (.int _ _) rfl ?_
    refine op_assign rfl (.int _ _) rfl ?_
    refine op_nil (at_then ?_)
    refine W_seq ?_
    refine W_rseq ?_
    refine op_move rfl (.int _ _) rfl ?_
    refine op_eql rfl rfl rfl ?_
    refine op_move rfl (.bool _) rfl ?_
    refine Wops_split 38 rfl ?_ ?_
    · intro h2
      replace h2 := dec_t h2
      have hx3 := Hold.ext
      refine op_move rfl (.bool _) rfl ?_
      refine op_not rfl rfl ?_
      refine op_pick1 rfl rfl (.bool _) rfl ?_
      refine op_nil (at_then ?_)
      refine W_cond1 rfl ?_
      refine W_region ?_
      refine op_move rfl (.slice _ _ _) rfl ?_
      refine op_move rfl (.int _ _) rfl ?_
      have hE0 : Ext [] w0 _ := Hold.ext.then H.ext (fun x hx => .inr (by rw [List.mem_singleton.1 hx]; exact hge))
      refine op_call rfl ca_161_TrF (takeBytes_ok a c _ b ny _ (R.ext0 hE0) rfl (by omega) hc (by omega)) rfl ?_
      have hb6b := H.lt (k := 0) rfl
      rintro v w5 ⟨va, t, vc, nz, e2, rfl, hx45, X45, hvc, hvl, hnz, hf0, hf1⟩
      have Hold2 := H.call hx45
      replace H := Ctx.startL (fun x hx => Hold2.blk x hx) Hold2.nd
      refine op_move rfl (.tuple _) rfl ?_
      refine op_extract rfl rfl rfl ?_
      refine op_extract rfl rfl rfl ?_
      refine op_extract rfl rfl rfl ?_
      refine op_fieldAddr rfl fo_120_1_TrF rfl ?_
      refine op_stb (.slice _ _ _) rfl sz_23 rfl rfl rfl H (by first | exact at0 | exact at1 | exact at2 | exact at3 | exact at4 | exact at5 | exact at6 | exact at7 | exact at8 | exact at9) (by first | decide | (simp; done) | (simp; omega)) ?_
      rintro w H
      refine op_assign rfl (.int _ _) rfl ?_
      refine op_assign rfl (.int _ _) rfl ?_
      refine op_nil (at_then ?_)
      refine W_rseq ?_
      refine op_ldbN rfl ag_120_TrF sz_120_TrF rfl H (by first | exact at0 | exact at1 | exact at2 | exact at3 | exact at4 | exact at5 | exact at6 | exact at7 | exact at8 | exact at9) rfl ?_
      refine op_move rfl (.int _ _) rfl ?_
      refine op_move rfl (.int _ _) rfl ?_
      refine op_stb0 rfl sz_120_TrF rfl rfl rfl (by simp [oneCell]) H (by first | exact at0 | exact at1 | exact at2 | exact at3 | exact at4 | exact at5 | exact at6 | exact at7 | exact at8 | exact at9) rfl ?_
      rintro w H
      refine op_assign rfl (.int _ _) rfl ?_
      refine op_assign rfl (.int _ _) rfl ?_
      refine op_nil (at_then ?_)
      refine W_ret (leave3b rfl rfl rfl ag_120_TrF sz_120_TrF H (by first | exact at0 | exact at1 | exact at2 | exact at3 | exact at4 | exact at5 | exact at6 | exact at7 | exact at8 | exact at9) rfl (show _ = (.int _ _) from rfl) (show _ = (.int _ _) from rfl) ?_)
      have X1 := ((X31.past Hold2.ext (fun x hx => by rw [List.mem_singleton.1 hx]; exact hb6)).past H.ext (fun x hx => by rw [List.mem_singleton.1 hx]; exact hb6)).weak (Old.mono hxw)
      have X2 := (X45.past H.ext (fun x hx => by rw [List.mem_singleton.1 hx]; exact hb6b)).weak (Old.mono hE0)
      refine ⟨⟨sa, sc, va, vc, ⟨s, t, 0⟩⟩, nz, e2, rfl, (Hold.ext.then Hold2.ext (fun x hx => .inr (by rw [List.mem_singleton.1 hx]; exact hge))).then H.ext (fun x hx => .inr (by rw [List.mem_singleton.1 hx]; exact hge)), ⟨X1, X2, hsc, hvc⟩, hnz, hsl, hvl, (by show 0 < 4294967296; decide), fun h => ?_, fun h => ?_⟩
      · unfold oneO
        rw [if_neg (by simp), he0 h2]
        simp only [hf0 h]
      · unfold oneO
        rw [if_neg (by simp), he0 h2]
        simp only [(hf1 h).1]
    · intro h2
      replace h2 := dec_f h2
      refine op_skip rfl ?_
      refine op_skip rfl ?_
      refine op_pick0 rfl rfl (.bool _) rfl ?_
      refine op_nil (at_then ?_)
      refine W_cond0 rfl ?_
      refine W_skip (at_then ?_)
      refine W_rseq ?_
      refine op_ldbN rfl ag_120_TrF sz_120_TrF rfl H (by first | exact at0 | exact at1 | exact at2 | exact at3 | exact at4 | exact at5 | exact at6 | exact at7 | exact at8 | exact at9) rfl ?_
      refine op_move rfl (.int _ _) rfl ?_
      refine op_move rfl (.int _ _) rfl ?_
      refine op_stb0 rfl sz_120_TrF rfl rfl rfl (by simp [oneCell]) H (by first | exact at0 | exact at1 | exact at2 | exact at3 | exact at4 | exact at5 | exact at6 | exact at7 | exact at8 | exact at9) rfl ?_
      rintro w H
      refine op_assign rfl (.int _ _) rfl ?_
      refine op_assign rfl (.int _ _) rfl ?_
      refine op_nil (at_then ?_)
      refine W_ret (leave3b rfl rfl rfl ag_120_TrF sz_120_TrF H (by first | exact at0 | exact at1 | exact at2 | exact at3 | exact at4 | exact at5 | exact at6 | exact at7 | exact at8 | exact at9) rfl (show _ = (.int _ _) from rfl) (show _ = (.int _ _) from rfl) ?_)
      have X := (X31.past H.ext (fun x hx => by rw [List.mem_singleton.1 hx]; exact hb6)).weak (Old.mono hxw)
      refine ⟨⟨sa, sc, none, 0, ⟨s, [], 0⟩⟩, ny, e, rfl, Hold.ext.then H.ext (fun x hx => .inr (by rw [List.mem_singleton.1 hx]; exact hge)), ⟨X, Rdx.nil, hsc, Nat.le_refl _⟩, hny, hsl, Nat.zero_le _, (by show 0 < 4294967296; decide), fun h => absurd h h2, fun _ => ?_⟩
      unfold oneO
      rw [if_neg (by simp), (he1 h2).1]

end Go.Proofs.YtbkadlngijkmmaaGreatDoor

/- Nodes as blocks: what the program does. -/
namespace Go.Proofs.YtbkadlngijkmmaaGreatDoor
open Go.GV
theorem ag_114_TrG : aggB Tryz.prog 114 = some false := by kernel_rfl
theorem ag_120_TrG : aggB Tryz.prog 120 = some true := by kernel_rfl
theorem ca_151_TrG : callable Tryz.prog 151 = true := by kernel_rfl
theorem ca_154_TrG : callable Tryz.prog 154 = true := by kernel_rfl
theorem el_114_TrG : elemT Tryz.prog 114 = some 120 := by kernel_rfl
theorem fo_116_0_TrG : fieldO Tryz.prog 116 0 = some 0 := by kernel_rfl
theorem fo_116_1_TrG : fieldO Tryz.prog 116 1 = some 1 := by kernel_rfl
theorem fo_120_0_TrG : fieldO Tryz.prog 120 0 = some 0 := by kernel_rfl
theorem fo_120_1_TrG : fieldO Tryz.prog 120 1 = some 1 := by kernel_rfl
theorem fo_120_2_TrG : fieldO Tryz.prog 120 2 = some 2 := by kernel_rfl
theorem sz_120_TrG : tsize Tryz.prog 120 = some 3 := by kernel_rfl
theorem zc_120_TrG : zcells Tryz.prog 120 = some ([.slice none 0 0, .slice none 0 0, .int .i64 0]) := by kernel_rfl
attribute [local irreducible] Wops W Wq Wt

theorem putB4N (l : Byt) (n : Nat) : putB l n 4 = l ++ putN n 4 := by rw [putB, show sizeB 4 = true by decide]; rfl
theorem kind_val (inner : Bool) (L : List It) (i : Nat) (hi : i = L.length) : Value.int .u8 (if inner = true ∧ 0 < i then 3 else 2) = bv (kindI inner L) := by
  subst hi
  unfold kindI bv
  cases inner with
  | false => rfl
  | true =>
    cases L with
    | nil => rfl
    | cons x L => simp

set_option maxRecDepth 20000 in
set_option maxHeartbeats 2000000 in
theorem bytes_ok {w : World} {M : Mut} (inner : Bool) {a : Option Addr} {n c : Nat} {L : List It} (I : Its w M a n c L) (hm : n ≤ 1000) (hsz : ∀ x ∈ L, x.key.length ≤ 65535 ∧ x.val.length ≤ 65535) (hpgs : ∀ x ∈ L, x.page < 9223372036854775808) :
    Ret Tryz.prog 140 #[.agg #[.bool inner, .slice a n c]] w fun v w' => SealPost (kindI inner L) (bodyI inner L) w v w' := by
  obtain ⟨w0, rfl⟩ : ∃ w0, w0 = w := ⟨_, rfl⟩
  have H := Ctx.start w0 []
  obtain ⟨ms, R, -, hl, hok⟩ := I.ex
  have hnum := I.num
  have hml : ms.length = n := by rw [hnum, ← hl, List.length_map]
  refine ret_of_W (fn := Tryz.f140) Tryz.func140 rfl [.agg #[.bool inner, .slice a n c]] rfl (by kernel_rfl) ?_
  refine W_rseq ?_
  refine op_box rfl (NB inner a n c) (.agg _) rfl rfl H ?_
  rintro b1 w - H
  refine op_assign rfl (.slice _ _ _) rfl ?_
  refine op_assign rfl (.int _ _) rfl ?_
  refine op_nil (at_then ?_)
  refine W_rseq ?_
  refine op_fieldAddr rfl fo_116_1_TrG rfl ?_
  refine op_ldb rfl ag_114_TrG rfl H (by first | exact at0 | exact at1 | exact at2 | exact at3 | exact at4 | exact at5 | exact at6 | exact at7 | exact at8 | exact at9) rfl ?_
  refine op_len rfl el_114_TrG rfl ?_
  refine op_conv_u64 rfl rfl un_3 un_152 (by omega) (by omega) ?_
  refine op_call rfl ca_152 (put_ok none 0 0 [] n 2 _ Rd.nil rfl (by decide) (by omega)) rfl ?_
  rintro v w F12
  rw [putB2, List.nil_append] at F12
  obtain ⟨a12, c12, rfl, R12, hc12⟩ := Fresh.rdB F12
  replace H := H.call F12.ext
  refine op_assign rfl (.slice _ _ _) rfl ?_
  refine op_assign rfl (.int _ _) rfl ?_
  refine op_nil (at_then ?_)
  refine W_seq ?_
  refine W_rseq ?_
  refine op_fieldAddr rfl fo_116_1_TrG rfl ?_
  refine op_ldb rfl ag_114_TrG rfl H (by first | exact at0 | exact at1 | exact at2 | exact at3 | exact at4 | exact at5 | exact at6 | exact at7 | exact at8 | exact at9) rfl ?_
  refine op_len rfl el_114_TrG rfl ?_
  refine op_move rfl (.int _ _) rfl ?_
  refine op_nil (at_then ?_)
  refine W_block ?_
  obtain ⟨wb, rfl⟩ : ∃ wb, wb = w := ⟨_, rfl⟩
  have hb1 := H.get at0
  have hxb := H.ext
  have hnode : ∀ {z : World}, Ext [] wb z → z.heap[b1]? = some (Bl 116 (NB inner a n c)) := fun {z} h => by rw [h.block b1 (heap_lt hb1) (by simp)]; exact hb1
  have hlen0 : (putN n 2).length = 2 := putN_len ..
  refine W_loop 35184372023472 (α := Nat × Option Addr × Nat) (fun s => [(16, .int .i64 (s.1 : Int)), (4, .slice s.2.1 (putN n 2 ++ (L.take s.1).flatMap (itemB inner)).length s.2.2), (5, .int .u8 (if inner = true ∧ 0 < s.1 then 3 else 2))]) (fun s w' => s.1 ≤ n ∧ Ext [] wb w' ∧ Rd w' s.2.1 1 B8 (putN n 2 ++ (L.take s.1).flatMap (itemB inner))) (fun s => n - s.1) (0, a12, c12) rfl ?_ ?_ ?_
  · exact ⟨rfl, congrArg (fun k => Value.slice a12 k c12) (show (putN n 2).length = _ by simp), congrArg (Value.int .u8) (show (2 : Int) = _ by simp), trivial⟩
  · exact ⟨Nat.zero_le _, .refl _ _, by simpa using R12⟩
  · rintro ⟨i, a4, c4⟩ j w ⟨hi, hx, R4⟩; dsimp only at hi hx R4; dsimp only
    have H := Ctx.start w []
    refine W_rseq ?_
    refine op_lss rfl rfl rfl ?_
    refine op_nil (at_then ?_)
    refine W_seq ?_
    refine W_cond _ rfl ?_ ?_
    · intro h1
      replace h1 := dec_t h1
      obtain ⟨x, hx1⟩ := get_some (l := ms) (i := i) (by omega)
      have hxL := Im.at hl hx1
      have hxo := hok x (List.mem_of_getElem? hx1)
      have hxs := hsz x.it (List.mem_of_getElem? hxL)
      have hfs : (L.take (i + 1)).flatMap (itemB inner) = (L.take i).flatMap (itemB inner) ++ itemB inner x.it := flat_snoc _ hxL
      have htl := total_le (inner := inner) (L := L.take i) fun y hy => hsz y (List.mem_of_mem_take hy)
      have hlt := List.length_take (i := i) (l := L)
      have hal : (putN n 2 ++ (L.take i).flatMap (itemB inner)).length = 2 + totalI inner (L.take i) := by rw [List.length_append, putN_len, flat_len]
      obtain ⟨acc, hacc⟩ : ∃ acc, acc = putN n 2 ++ (L.take i).flatMap (itemB inner) := ⟨_, rfl⟩
      rw [← hacc] at R4 hal ⊢
      have hpg : x.it.page < 9223372036854775808 := hpgs x.it (List.mem_of_getElem? hxL)
      refine W_skip (at_then ?_)
      refine W_seq ?_
      refine W_block ?_
      refine W_rseq ?_
      first | refine op_indexRd R rfl el_114_TrG sz_120_TrG rfl rfl (by omega) (by omega) (by first | rfl | omega) ?_ | refine op_indexAddr rfl el_114_TrG sz_120_TrG rfl rfl (by omega) (by omega) ?_
      refine op_ldN x.enc rfl ag_120_TrG sz_120_TrG rfl rfl ((R.ext0 (hxb.trans hx)).row hx1 rfl) ?_
      refine op_alloc rfl zc_120_TrG H ?_
      rintro b7 w - H
      refine op_stb0 rfl sz_120_TrG rfl rfl rfl (by first | exact Im.oneE _ | simp [oneCell]) H (by first | exact at0 | exact at1 | exact at2 | exact at3 | exact at4 | exact at5 | exact at6 | exact at7 | exact at8 | exact at9) rfl ?_
      rintro w H
      refine op_nil (at_then ?_)
      refine W_seq ?_
      refine W_rseq ?_
      refine op_fieldAddr rfl fo_116_0_TrG rfl ?_
      first | refine op_ldb rfl ag_4 rfl H (by first | exact at0 | exact at1 | exact at2 | exact at3 | exact at4 | exact at5 | exact at6 | exact at7 | exact at8 | exact at9) rfl ?_ | refine op_ld rfl ag_4 rfl (cell_bl (hnode (hx.trans H.ext)) (0 + 0)) ?_
      refine op_nil (at_then ?_)
      refine W_cond _ rfl ?_ ?_
      · intro h2
        refine W_rseq ?_
        refine op_assign rfl (.int _ _) rfl ?_
        refine op_nil (at_then ?_)
        refine W_region ?_
        refine op_move rfl (.slice _ _ _) rfl ?_
        refine op_fieldAddr rfl fo_120_2_TrG rfl ?_
        first | refine op_ldb rfl ag_3 rfl H (by first | exact at0 | exact at1 | exact at2 | exact at3 | exact at4 | exact at5 | exact at6 | exact at7 | exact at8 | exact at9) rfl ?_ | refine op_ld rfl ag_3 rfl (cell_bl (hnode (hx.trans H.ext)) (0 + 0)) ?_
        refine op_conv_u64 rfl rfl un_3 un_152 (by omega) (by omega) ?_
        refine op_call rfl ca_152 (put_ok a4 c4 _ acc x.it.page 4 _ (R4.ext0 H.ext) rfl (by omega) (by omega)) rfl ?_
        rintro v w F26
        rw [putB4N] at F26
        obtain ⟨a26, c26, rfl, R26, hc26⟩ := Fresh.rdB F26
        replace H := H.call F26.ext
        refine op_assign rfl (.slice _ _ _) rfl ?_
        refine op_nil (at_then ?_)
        refine W_rseq ?_
        refine op_move rfl (.slice _ _ _) rfl ?_
        refine op_fieldAddr rfl fo_120_0_TrG rfl ?_
        first | refine op_ldb rfl ag_23 rfl H (by first | exact at0 | exact at1 | exact at2 | exact at3 | exact at4 | exact at5 | exact at6 | exact at7 | exact at8 | exact at9) rfl ?_ | refine op_ld rfl ag_23 rfl (cell_bl (hnode (hx.trans H.ext)) (0 + 0)) ?_
        refine op_call rfl ca_154_TrG (putBytes_ok a26 c26 _ (acc ++ putN x.it.page 4) x.ka x.kc _ x.it.key _ R26 rfl (by rw [List.length_append, putN_len]; omega) (hxo.k.1.ext0 ((hxb.trans hx).trans H.ext)) rfl (by omega) hxo.kc) rfl ?_
        rintro v w ⟨y, rfl, F31⟩
        obtain ⟨a31, c31, rfl, R31, hc31⟩ := Fresh.rdB F31
        replace H := H.call F31.ext
        refine op_move rfl (.tuple _) rfl ?_
        refine op_extract rfl rfl rfl ?_
        refine op_extract rfl rfl rfl ?_
        refine op_assign rfl (.slice _ _ _) rfl ?_
        refine op_nil (at_then ?_)
        refine W_rseq ?_
        refine op_fieldAddr rfl fo_116_0_TrG rfl ?_
        first | refine op_ldb rfl ag_4 rfl H (by first | exact at0 | exact at1 | exact at2 | exact at3 | exact at4 | exact at5 | exact at6 | exact at7 | exact at8 | exact at9) rfl ?_ | refine op_ld rfl ag_4 rfl (cell_bl (hnode (hx.trans H.ext)) (0 + 0)) ?_
        refine op_not rfl rfl ?_
        rw [h2]
        refine op_nil (at_then ?_)
        refine W_cond0 rfl ?_
        refine W_skip (at_block (at_then ?_))
        refine W_region ?_
        refine op_add_i64 rfl rfl rfl (by omega) (by omega) ?_
        refine op_move rfl (.int _ _) rfl ?_
        refine op_nil (at_then ?_)
        have he : acc ++ putN x.it.page 4 ++ (putN x.it.key.length 2 ++ x.it.key) = putN n 2 ++ (L.take (i + 1)).flatMap (itemB true) := by
          rw [← h2, hfs, hacc, h2]; simp [itemB]
        rw [he] at R31
        refine ⟨(i + 1, a31, c31), rfl, ⟨rfl, congrArg (fun k => Value.slice a31 k c31) (congrArg List.length he), congrArg (Value.int .u8) (show (3 : Int) = _ by simp), trivial⟩, ⟨by dsimp only; omega, hx.trans H.ext, R31⟩, by dsimp only; omega⟩
      · intro h2
        refine W_skip (at_then ?_)
        refine W_rseq ?_
        refine op_move rfl (.slice _ _ _) rfl ?_
        refine op_fieldAddr rfl fo_120_0_TrG rfl ?_
        first | refine op_ldb rfl ag_23 rfl H (by first | exact at0 | exact at1 | exact at2 | exact at3 | exact at4 | exact at5 | exact at6 | exact at7 | exact at8 | exact at9) rfl ?_ | refine op_ld rfl ag_23 rfl (cell_bl (hnode (hx.trans H.ext)) (0 + 0)) ?_
        refine op_call rfl ca_154_TrG (putBytes_ok a4 c4 _ acc x.ka x.kc _ x.it.key _ (R4.ext0 H.ext) rfl (by omega) (hxo.k.1.ext0 ((hxb.trans hx).trans H.ext)) rfl (by omega) hxo.kc) rfl ?_
        rintro v w ⟨y, rfl, F31⟩
        obtain ⟨a31, c31, rfl, R31, hc31⟩ := Fresh.rdB F31
        replace H := H.call F31.ext
        refine op_move rfl (.tuple _) rfl ?_
        refine op_extract rfl rfl rfl ?_
        refine op_extract rfl rfl rfl ?_
        refine op_assign rfl (.slice _ _ _) rfl ?_
        refine op_nil (at_then ?_)
        refine W_rseq ?_
        refine op_fieldAddr rfl fo_116_0_TrG rfl ?_
        first | refine op_ldb rfl ag_4 rfl H (by first | exact at0 | exact at1 | exact at2 | exact at3 | exact at4 | exact at5 | exact at6 | exact at7 | exact at8 | exact at9) rfl ?_ | refine op_ld rfl ag_4 rfl (cell_bl (hnode (hx.trans H.ext)) (0 + 0)) ?_
        refine op_not rfl rfl ?_
        rw [h2]
        refine op_nil (at_then ?_)
        refine W_cond1 rfl ?_
        refine W_region ?_
        refine op_move rfl (.slice _ _ _) rfl ?_
        refine op_fieldAddr rfl fo_120_1_TrG rfl ?_
        first | refine op_ldb rfl ag_23 rfl H (by first | exact at0 | exact at1 | exact at2 | exact at3 | exact at4 | exact at5 | exact at6 | exact at7 | exact at8 | exact at9) rfl ?_ | refine op_ld rfl ag_23 rfl (cell_bl (hnode (hx.trans H.ext)) (0 + 0)) ?_
        have hl5 : (acc ++ (putN x.it.key.length 2 ++ x.it.key)).length = acc.length + (2 + x.it.key.length) := (by rw [List.length_append, List.length_append, putN_len])
        refine op_call rfl ca_154_TrG (putBytes_ok a31 c31 _ (acc ++ (putN x.it.key.length 2 ++ x.it.key)) x.va x.vc _ x.it.val _ R31 rfl (by omega) (hxo.v.1.ext0 ((hxb.trans hx).trans H.ext)) rfl (by omega) hxo.vc) rfl ?_
        rintro v w ⟨y, rfl, F41⟩
        obtain ⟨a41, c41, rfl, R41, hc41⟩ := Fresh.rdB F41
        replace H := H.call F41.ext
        refine op_move rfl (.tuple _) rfl ?_
        refine op_extract rfl rfl rfl ?_
        refine op_extract rfl rfl rfl ?_
        refine op_assign rfl (.slice _ _ _) rfl ?_
        refine op_nil (at_block (at_then ?_))
        refine W_region ?_
        refine op_add_i64 rfl rfl rfl (by omega) (by omega) ?_
        refine op_move rfl (.int _ _) rfl ?_
        refine op_nil (at_then ?_)
        have he : acc ++ (putN x.it.key.length 2 ++ x.it.key) ++ (putN x.it.val.length 2 ++ x.it.val) = putN n 2 ++ (L.take (i + 1)).flatMap (itemB false) := by
          rw [← h2, hfs, hacc, h2]; simp [itemB]
        rw [he] at R41
        refine ⟨(i + 1, a41, c41), rfl, ⟨rfl, congrArg (fun k => Value.slice a41 k c41) (congrArg List.length he), congrArg (Value.int .u8) (show (if false = true ∧ 0 < i then (3 : Int) else 2) = (if false = true ∧ 0 < i + 1 then (3 : Int) else 2) by simp), trivial⟩, ⟨by dsimp only; omega, hx.trans H.ext, R41⟩, by dsimp only; omega⟩
    · intro h1
      replace h1 := dec_f h1
      have hii : i = n := by omega
      subst hii
      have hLi : L.take i = L := by rw [hnum, List.take_length]
      have hbody : putN i 2 ++ (L.take i).flatMap (itemB inner) = bodyI inner L := by rw [hLi, bodyI, ← hnum]
      have hbl := bodyI_len inner L
      have htl := total_le (inner := inner) hsz
      rw [hbody] at R4 ⊢
      rw [kind_val inner L i hnum]
      refine W_exit (exit_then (exit_then (exit_here (at_then ?_))))
      refine W_rseq ?_
      refine op_move rfl (.int _ _) rfl ?_
      refine op_move rfl (.slice _ _ _) rfl ?_
      refine op_call rfl ca_151_TrG (seal_ok (kindI inner L) a4 c4 _ (bodyI inner L) _ R4 rfl (by omega)) rfl ?_
      rintro v w3 SP
      obtain ⟨sa, sn, sc, e, rfl⟩ : ∃ sa sn sc e, v = .tuple #[.slice sa sn sc, .int .i64 e] := by (rcases SP with ⟨_, rfl, _⟩ | ⟨_, s, rfl, B⟩; exact ⟨_, _, _, _, rfl⟩; obtain ⟨a9, c9, rfl, -⟩ := B.ex; exact ⟨_, _, _, _, rfl⟩)
      refine op_extract rfl rfl rfl ?_
      refine op_extract rfl rfl rfl ?_
      refine op_assign rfl (.slice _ _ _) rfl ?_
      refine op_assign rfl (.int _ _) rfl ?_
      refine op_nil (at_then ?_)
      refine W_ret (leave2 (v1 := (.slice _ _ _)) (v2 := (.int _ _)) rfl rfl rfl rfl ?_)
      have hxx := hxb.trans hx
      have hsz := hxx.size
      rcases SP with ⟨h1, h2, h3⟩ | ⟨h1, s, h2, B⟩
      · exact .inl ⟨h1, h2, hxx.trans h3⟩
      · obtain ⟨a9, c9, h5, R9, h6, h7⟩ := B.ex
        exact .inr ⟨h1, s, h2, ⟨⟨a9, c9, h5, R9, h6, Nat.le_trans hsz h7⟩, hxx.trans B.ext⟩⟩

end Go.Proofs.YtbkadlngijkmmaaGreatDoor
