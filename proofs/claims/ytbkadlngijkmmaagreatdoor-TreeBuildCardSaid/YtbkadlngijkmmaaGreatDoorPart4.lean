/- Part 4 of the proof. -/
import Derived.Test.YtbkadlngijkmmaaGreatDoorPart3
import Derived.Shelf.SlIterI.Nil
import Derived.Shelf.SortM.Plain
import Derived.Shelf.SortM.SortNone
import Derived.Ground.GgzProg
import Derived.Ground.SlgmProg
import Derived.Test.YtbkadlngijkmmaaGreatDoorPart2
import Derived.RangeFuncLeaves
import Derived.Lib.Bytealg
import Derived.Laws.Externs
import Derived.Lib.AppendZerosOnto
/- Devices: what they hold, and how they lie. -/
namespace Go.Proofs.YtbkadlngijkmmaaGreatDoor
open Go.GV
attribute [local irreducible] Wops W Wq Wt

abbrev Byt := List UInt8
/-- A device: of each block what is sure and what is loose; writes and flushes that are done yet; is it on? -/
structure Dev where
  B : List (Byt × List Byt)
  left : Int
  on : Bool

def stands (p : Byt × List Byt) : Byt := p.2.getLast?.getD p.1
def zeros : Byt := List.replicate 512 0
def Dev.goes (A : Dev) : Bool := decide (A.left = 0)
def Dev.less (A : Dev) : Dev := if A.left = 0 then { A with on := false } else if A.left = -1 then A else { A with left := A.left - 1 }

def newE (n : Int) : Int := bif decide (n < 1) || decide (4096 < n) then 1 else 0
def newD (n : Nat) : Dev := ⟨List.replicate n (zeros, []), -1, true⟩
def Dev.has (A : Dev) (k : Int) : Bool := decide (0 ≤ k) && decide (k < A.B.length)
def readE (A : Dev) (k : Int) : Int := bif A.on then (bif A.has k then 0 else 1) else 8
def readB (A : Dev) (k : Int) : Byt := bif decide (readE A k = 0) then stands (A.B.getD k.toNat (zeros, [])) else []
def writeE (A : Dev) (k : Int) (b : Byt) : Int := bif A.on then (bif A.has k && decide (b.length = 512) then (bif A.goes then 8 else 0) else 1) else 8
def addW (A : Dev) (k : Nat) (b : Byt) : Dev := { A with B := A.B.modify k fun p => (p.1, p.2 ++ [b]) }
def writeD (A : Dev) (k : Int) (b : Byt) : Dev := bif A.on && (A.has k && decide (b.length = 512)) then (bif A.goes then A.less else addW A.less k.toNat b) else A
def flushE (A : Dev) : Int := bif A.on then (bif A.goes then 8 else 0) else 8
def sureD (A : Dev) : Dev := { A with B := A.B.map fun p => (stands p, []) }
def flushD (A : Dev) : Dev := bif A.on then (bif A.goes then A.less else sureD A.less) else A
def armE (A : Dev) : Int := bif A.on then 0 else 8
def armD (A : Dev) (n : Int) : Dev := bif A.on then { A with left := max n (-1) } else A
def offD (A : Dev) : Dev := { A with on := false }
/-- What is kept of what was loose. -/
def kept (p : Byt × List Byt) (x : Nat) : Byt := if x = 0 then p.1 else p.2.getD (x - 1) p.1
def pickN (p : Byt × List Byt) (picks : List Int) : Nat := match picks with | [] => 0 | x :: _ => (max x 0).toNat % (p.2.length + 1)
def keepB : List (Byt × List Byt) → List Int → List (Byt × List Byt)
  | [], _ => []
  | p :: l, picks => if p.2 = [] then (p.1, []) :: keepB l picks else (kept p (pickN p picks), []) :: keepB l picks.tail
def onE (A : Dev) : Int := bif A.on then 3 else 0
def onD (A : Dev) (picks : List Int) : Dev := bif A.on then A else ⟨keepB A.B picks, -1, true⟩

/-- All blocks are whole; no number is too great. -/
structure Wf (A : Dev) : Prop where
  lo : 1 ≤ A.B.length
  hi : A.B.length ≤ 4096
  left : -1 ≤ A.left
  left2 : A.left ≤ 9223372036854775807
  sure : ∀ p ∈ A.B, p.1.length = 512
  loose : ∀ p ∈ A.B, ∀ b ∈ p.2, b.length = 512
/-- No more than so many are loose in one block. -/
def Few (A : Dev) (m : Nat) : Prop := ∀ p ∈ A.B, p.2.length ≤ m

theorem getD_mem {α : Type} {l : List α} {i : Nat} {d : α} (h : i < l.length) : l.getD i d ∈ l := by
  rw [List.getD_eq_getElem?_getD, List.getElem?_eq_getElem h]
  exact List.getElem_mem h
theorem mem_modify' {α : Type} {l : List α} {f : α → α} {i : Nat} {x : α} (h : x ∈ l.modify i f) : x ∈ l ∨ ∃ y ∈ l, x = f y := by
  induction l generalizing i with
  | nil => simp at h
  | cons a l ih =>
    cases i with
    | zero =>
      rw [List.modify_zero_cons, List.mem_cons] at h
      rcases h with rfl | h
      · exact .inr ⟨a, List.mem_cons_self .., rfl⟩
      · exact .inl (List.mem_cons_of_mem _ h)
    | succ i =>
      rw [List.modify_succ_cons, List.mem_cons] at h
      rcases h with rfl | h
      · exact .inl (List.mem_cons_self ..)
      · rcases ih h with h | ⟨y, hy, rfl⟩
        · exact .inl (List.mem_cons_of_mem _ h)
        · exact .inr ⟨y, List.mem_cons_of_mem _ hy, rfl⟩

theorem less_B (A : Dev) : A.less.B = A.B := by
  unfold Dev.less
  split
  · rfl
  · split <;> rfl
theorem less_wf {A : Dev} (h : Wf A) : Wf A.less := by
  have h1 := h.left; have h2 := h.left2
  unfold Dev.less
  split
  · exact ⟨h.lo, h.hi, h.left, h.left2, h.sure, h.loose⟩
  · split
    · exact h
    · exact ⟨h.lo, h.hi, by dsimp only; omega, by dsimp only; omega, h.sure, h.loose⟩
theorem stands_len {A : Dev} (h : Wf A) {p : Byt × List Byt} (hp : p ∈ A.B) : (stands p).length = 512 := by
  unfold stands
  cases hl : p.2.getLast? with
  | none => exact h.sure p hp
  | some b => exact h.loose p hp b (List.mem_of_getLast? hl)
theorem addW_wf {A : Dev} (h : Wf A) {k : Nat} {b : Byt} (hb : b.length = 512) : Wf (addW A k b) := by
  refine ⟨by simpa [addW] using h.lo, by simpa [addW] using h.hi, h.left, h.left2, fun p hp => ?_, fun p hp x hx => ?_⟩
  · rcases mem_modify' hp with hp | ⟨y, hy, rfl⟩
    · exact h.sure p hp
    · exact h.sure y hy
  · rcases mem_modify' hp with hp | ⟨y, hy, rfl⟩
    · exact h.loose p hp x hx
    · simp only [List.mem_append, List.mem_singleton] at hx
      rcases hx with hx | rfl
      · exact h.loose y hy x hx
      · exact hb
theorem new_wf {n : Nat} (h1 : 1 ≤ n) (h2 : n ≤ 4096) : Wf (newD n) := by
  refine ⟨by simpa [newD] using h1, by simpa [newD] using h2, by show (-1 : Int) ≤ -1; omega, by show (-1 : Int) ≤ _; omega, fun p hp => ?_, fun p hp x hx => ?_⟩
  · rw [(List.mem_replicate.1 hp).2]; exact List.length_replicate
  · rw [(List.mem_replicate.1 hp).2] at hx; cases hx
theorem Few.mono {A : Dev} {m m' : Nat} (h : Few A m) (hm : m ≤ m') : Few A m' := fun p hp => Nat.le_trans (h p hp) hm
theorem less_few {A : Dev} {m : Nat} (h : Few A m) : Few A.less m := fun p hp => h p (by rwa [less_B] at hp)
theorem write_few {A : Dev} {m : Nat} (h : Few A m) (k : Int) (b : Byt) : Few (writeD A k b) (m + 1) := by
  unfold writeD
  cases A.on && (A.has k && decide (b.length = 512))
  · exact h.mono (by omega)
  · cases A.goes
    · intro p hp
      rcases mem_modify' hp with hp | ⟨y, hy, rfl⟩
      · have := less_few h p hp; omega
      · have := less_few h y hy
        simp only [List.length_append, List.length_singleton]; omega
    · exact (less_few h).mono (by omega)
/-! ### How a device lies -/
def All2 {α β : Type} (R : α → β → Prop) (xs : List α) (ys : List β) : Prop := xs.length = ys.length ∧ ∀ (i : Nat) (x : α) (y : β), xs[i]? = some x → ys[i]? = some y → R x y

def BytesAt (w : World) (role : Nat → Nat) (v : Value) (s : Byt) : Prop := ∃ a c, v = .slice a 512 c ∧ Rd w a 1 B8 s ∧ s.length = 512 ∧ role (adr a).block = 4 ∧ 512 ≤ c
def SureAt (w : World) (role : Nat → Nat) (v : Value) (s : Byt) : Prop := (v = .slice none 0 0 ∧ s = zeros) ∨ BytesAt w role v s
def LooseAt (w : World) (role : Nat → Nat) (k : Nat) (v : Value) (l : List Byt) : Prop :=
  ∃ a n c full vs, v = .slice a n c ∧ OS a n c 1 full vs ∧ (∀ x ∈ ent a 23 full, w.heap[x.1]? = some x.2 ∧ role x.1 = 5 + k) ∧ All2 (BytesAt w role) vs l

def DB (n bs bm : Nat) (left : Int) (on : Bool) : List Value := [.slice (some ⟨bs, 0, none⟩) n n, .map (some bm), .int .i64 left, .bool (!on)]
def TD : Nat := 144
def nilS : Value := .slice none 0 0

structure DevR (w : World) (bd : Nat) (A : Dev) (role : Nat → Nat) (bs bm : Nat) (sv : List Value) (m : List (Int × Value)) (o : Obj) : Prop where
  lt : ∀ x, role x ≠ 0 → x < w.heap.size
  rd : role bd = 1
  rs : role bs = 2
  rm : role bm = 3
  hd : w.heap[bd]? = some (Bl TD (DB A.B.length bs bm A.left A.on))
  hs : w.heap[bs]? = some (Bl 23 sv)
  hm : w.heap[bm]? = some o
  hM : MapO .i64 m o
  nd : (m.map (·.1)).Nodup
  keys : ∀ k v, mget m k = some v → ∃ i : Nat, k = i ∧ i < A.B.length
  len : sv.length = A.B.length
  part : ∀ i p, A.B[i]? = some p → (∃ v, sv[i]? = some v ∧ SureAt w role v p.1) ∧ LooseAt w role i ((mget m i).getD nilS) p.2 ∧ ((mget m i).isSome = true ↔ p.2 ≠ [])
  wf : Wf A

/-- The device at bd; F: what it lies in. -/
def DevAt (w : World) (bd : Nat) (A : Dev) (F : Nat → Prop) : Prop := ∃ role bs bm sv m o, DevR w bd A role bs bm sv m o ∧ ∀ x, role x ≠ 0 → F x

/-- What an operation on it may turn. -/
def Turn (F : Nat → Prop) (w w' : World) : Prop := ∃ S, (∀ x ∈ S, F x) ∧ Ext S w w'
def grow (F : Nat → Prop) (w w' : World) : Nat → Prop := fun x => F x ∨ (w.heap.size ≤ x ∧ x < w'.heap.size)

theorem Turn.size {F : Nat → Prop} {w w' : World} (h : Turn F w w') : w.heap.size ≤ w'.heap.size := let ⟨_, _, h⟩ := h; h.size
theorem Turn.of {F : Nat → Prop} {w w' : World} {S : List Nat} (h : Ext S w w') (hS : ∀ x ∈ S, F x) : Turn F w w' := ⟨S, hS, h⟩
theorem Turn.of0 {F : Nat → Prop} {w w' : World} (h : Ext [] w w') : Turn F w w' := ⟨[], by simp, h⟩
theorem Turn.trans {F G : Nat → Prop} {a b c : World} (h : Turn F a b) (k : Turn G b c) (hG : ∀ x, G x → F x ∨ a.heap.size ≤ x) : Turn F a c := by
  obtain ⟨S, hS, h⟩ := h
  obtain ⟨T, hT, k⟩ := k
  classical
  refine ⟨S ++ T.filter (fun x => decide (x < a.heap.size)), fun x hx => ?_, (h.mono (by intro x hx; simp [hx])).then k fun x hx => ?_⟩
  · rw [List.mem_append, List.mem_filter] at hx
    rcases hx with hx | ⟨hx, hlt⟩
    · exact hS x hx
    · rcases hG x (hT x hx) with h | h
      · exact h
      · rw [decide_eq_true_eq] at hlt; omega
  · by_cases hlt : x < a.heap.size
    · exact .inl (List.mem_append_right _ (List.mem_filter.2 ⟨hx, decide_eq_true hlt⟩))
    · exact .inr (by omega)

theorem BytesAt.keep {w w' : World} {role role' : Nat → Nat} {v : Value} {s : Byt} {S : List Nat} (h : BytesAt w role v s) (hx : Ext S w w') (hS : ∀ x ∈ S, role x ≠ 4) (hr : ∀ x, role x = 4 → role' x = 4) : BytesAt w' role' v s := by
  obtain ⟨a, c, rfl, R, hl, h4, hc⟩ := h
  exact ⟨a, c, rfl, R.ext hx fun h => hS _ h h4, hl, hr _ h4, hc⟩
theorem SureAt.keep {w w' : World} {role role' : Nat → Nat} {v : Value} {s : Byt} {S : List Nat} (h : SureAt w role v s) (hx : Ext S w w') (hS : ∀ x ∈ S, role x ≠ 4) (hr : ∀ x, role x = 4 → role' x = 4) : SureAt w' role' v s :=
  h.elim .inl fun h => .inr (h.keep hx hS hr)
theorem LooseAt.keep {w w' : World} {role role' : Nat → Nat} {k : Nat} {v : Value} {l : List Byt} {S : List Nat} (h : LooseAt w role k v l) (hx : Ext S w w') (hS : ∀ x ∈ S, role x ≠ 4 ∧ role x ≠ 5 + k) (hr : ∀ x, role x = 4 → role' x = 4) (hr5 : ∀ x, role x = 5 + k → role' x = 5 + k) : LooseAt w' role' k v l := by
  obtain ⟨a, n, c, full, vs, rfl, O, hb, h2, h3⟩ := h
  refine ⟨a, n, c, full, vs, rfl, O, fun x hx' => ?_, h2, fun i x y h4 h5 => (h3 i x y h4 h5).keep hx (fun x h => (hS x h).1) hr⟩
  obtain ⟨h6, h7⟩ := hb x hx'
  exact ⟨by rw [hx.block x.1 (heap_lt h6) fun h => (hS _ h).2 h7]; exact h6, hr5 _ h7⟩

/-- It stays where others turn what is theirs. -/
theorem DevAt.keep {w w' : World} {bd : Nat} {A : Dev} {F : Nat → Prop} (h : DevAt w bd A F) {S : List Nat} (hx : Ext S w w') (hS : ∀ x ∈ S, ¬ F x) : DevAt w' bd A F := by
  obtain ⟨role, bs, bm, sv, m, o, D, hF⟩ := h
  have hS' : ∀ x ∈ S, role x = 0 := fun x hx => Classical.byContradiction fun h => hS x hx (hF x h)
  have hb : ∀ {b : Nat} {o : Obj}, w.heap[b]? = some o → role b ≠ 0 → w'.heap[b]? = some o := fun {b o} h1 h2 => by
    rw [hx.block b (heap_lt h1) fun h => h2 (hS' b h)]; exact h1
  refine ⟨role, bs, bm, sv, m, o, ⟨fun x h => Nat.lt_of_lt_of_le (D.lt x h) hx.size, D.rd, D.rs, D.rm, hb D.hd (by rw [D.rd]; decide), hb D.hs (by rw [D.rs]; decide), hb D.hm (by rw [D.rm]; decide), D.hM, D.nd, D.keys, D.len, fun i p hp => ?_, D.wf⟩, hF⟩
  obtain ⟨⟨v, h1, h2⟩, h3, h4⟩ := D.part i p hp
  exact ⟨⟨v, h1, h2.keep hx (fun x h => by rw [hS' x h]; decide) fun _ h => h⟩, h3.keep hx (fun x h => by rw [hS' x h]; omega) (fun _ h => h) (fun _ h => h), h4⟩
theorem DevAt.keep0 {w w' : World} {bd : Nat} {A : Dev} {F : Nat → Prop} (h : DevAt w bd A F) (hx : Ext [] w w') : DevAt w' bd A F := h.keep hx (by simp)
theorem DevAt.mono {w : World} {bd : Nat} {A : Dev} {F G : Nat → Prop} (h : DevAt w bd A F) (hG : ∀ x, F x → G x) : DevAt w bd A G :=
  let ⟨role, bs, bm, sv, m, o, D, hF⟩ := h; ⟨role, bs, bm, sv, m, o, D, fun x hx => hG x (hF x hx)⟩
theorem DevAt.wf {w : World} {bd : Nat} {A : Dev} {F : Nat → Prop} (h : DevAt w bd A F) : Wf A := let ⟨_, _, _, _, _, _, D, _⟩ := h; D.wf

end Go.Proofs.YtbkadlngijkmmaaGreatDoor

/- What a device's functions do; the plain ones. -/
namespace Go.Proofs.YtbkadlngijkmmaaGreatDoor
open Go.GV
attribute [local irreducible] Wops W Wq Wt

@[simp] theorem DB_len (n bs bm : Nat) (left : Int) (on : Bool) : (DB n bs bm left on).length = 4 := rfl
def ptr (b : Nat) : Value := .pointer (some ⟨b, 0, none⟩)

theorem DevR.turn {w w' : World} {bd : Nat} {A A' : Dev} {role : Nat → Nat} {bs bm : Nat} {sv : List Value} {m : List (Int × Value)} {o : Obj} (D : DevR w bd A role bs bm sv m o) (hx : Ext [bd] w w')
    (hd : w'.heap[bd]? = some (Bl TD (DB A'.B.length bs bm A'.left A'.on))) (hB : A'.B = A.B) (wf : Wf A') : DevR w' bd A' role bs bm sv m o := by
  have hb : ∀ {b : Nat} {o : Obj}, w.heap[b]? = some o → role b ≠ 1 → w'.heap[b]? = some o := fun {b o} h1 h2 => by
    rw [hx.block b (heap_lt h1) fun h => h2 (by rw [List.mem_singleton.1 h]; exact D.rd)]; exact h1
  refine ⟨fun x h => Nat.lt_of_lt_of_le (D.lt x h) hx.size, D.rd, D.rs, D.rm, hd, hb D.hs (by rw [D.rs]; decide), hb D.hm (by rw [D.rm]; decide), D.hM, D.nd, fun k v h => by rw [hB]; exact D.keys k v h, by rw [hB]; exact D.len, fun i p hp => ?_, wf⟩
  rw [hB] at hp
  obtain ⟨⟨v, h1, h2⟩, h3, h4⟩ := D.part i p hp
  have hs : ∀ x ∈ [bd], role x = 1 := fun x h => by rw [List.mem_singleton.1 h]; exact D.rd
  exact ⟨⟨v, h1, h2.keep hx (fun x h => by rw [hs x h]; decide) fun _ h => h⟩, h3.keep hx (fun x h => by rw [hs x h]; omega) (fun _ h => h) (fun _ h => h), h4⟩

theorem don_ok {w : World} {bd n bs bm : Nat} {left : Int} {on : Bool} (h : w.heap[bd]? = some (Bl TD (DB n bs bm left on))) :
    Ret Tryz.prog 82 #[ptr bd] w fun v w' => v = .int .i64 (bif on then 0 else 8) ∧ w = w' := by
  obtain ⟨w0, rfl⟩ : ∃ w0, w0 = w := ⟨_, rfl⟩
  have H := Ctx.start1 h
  refine ret_of_W (fn := Tryz.f82) Tryz.func82 rfl [.pointer (some ⟨bd, 0, none⟩)] rfl (by kernel_rfl) ?_
  refine W_rseq ?_
  refine op_assign rfl (.int _ _) rfl ?_
  refine op_nil (at_then ?_)
  refine W_seq ?_
  refine W_block ?_
  refine W_rseq ?_
  refine op_move rfl (.pointer _) rfl ?_
  refine op_eqlptr rfl un_32 rfl ?_
  refine op_assign rfl (.bool _) rfl ?_
  refine op_nil (at_then ?_)
  refine W_cond0 rfl ?_
  refine W_rseq ?_
  refine op_move rfl (.pointer _) rfl ?_
  refine op_nilCheck rfl rfl ?_
  refine op_fieldAddr rfl fo_144_3 rfl ?_
  refine op_ldb rfl ag_4 rfl H (by first | exact at0 | exact at1 | exact at2 | exact at3 | exact at4 | exact at5 | exact at6 | exact at7 | exact at8 | exact at9) rfl ?_
  refine op_assign rfl (.bool _) rfl ?_
  refine op_nil (at_then ?_)
  refine W_cond _ rfl ?_ ?_
  · intro h1
    refine W_rseq ?_
    refine op_assign rfl (.int _ _) rfl ?_
    refine op_nil (at_then ?_)
    refine W_ret (ret_block (ret_then (leave1 (v := (.int _ _)) rfl rfl rfl ?_)))
    exact ⟨by cases on <;> simp_all, rfl⟩
  · intro h2
    refine W_skip (at_block (at_then ?_))
    refine W_rseq ?_
    refine op_assign rfl (.int _ _) rfl ?_
    refine op_nil (at_then ?_)
    refine W_ret (leave1 (v := (.int _ _)) rfl rfl rfl ?_)
    exact ⟨by cases on <;> simp_all, rfl⟩

theorem dhas_ok {w : World} {bd n bs bm : Nat} {left : Int} {on : Bool} (k : Int) (h : w.heap[bd]? = some (Bl TD (DB n bs bm left on))) :
    Ret Tryz.prog 165 #[ptr bd, .int .i64 k] w fun v w' => v = .bool (decide (0 ≤ k) && decide (k < n)) ∧ w = w' := by
  obtain ⟨w0, rfl⟩ : ∃ w0, w0 = w := ⟨_, rfl⟩
  have H := Ctx.start1 h
  refine ret_of_W (fn := Tryz.f165) Tryz.func165 rfl [.pointer (some ⟨bd, 0, none⟩), .int .i64 k] rfl (by kernel_rfl) ?_
  refine W_rseq ?_
  refine op_assign rfl (.bool _) rfl ?_
  refine op_nil (at_then ?_)
  refine W_rseq ?_
  refine op_move rfl (.int _ _) rfl ?_
  refine op_geq rfl rfl rfl ?_
  refine op_move rfl (.bool _) rfl ?_
  refine Wops_split 7 rfl ?_ ?_
  · intro h1
    replace h1 := dec_t h1
    refine op_move rfl (.int _ _) rfl ?_
    refine op_move rfl (.pointer _) rfl ?_
    refine op_nilCheck rfl rfl ?_
    refine op_fieldAddr rfl fo_144_0 rfl ?_
    refine op_ldb rfl ag_141 rfl H (by first | exact at0 | exact at1 | exact at2 | exact at3 | exact at4 | exact at5 | exact at6 | exact at7 | exact at8 | exact at9) rfl ?_
    refine op_len rfl el_141 rfl ?_
    refine op_lss rfl rfl rfl ?_
    refine op_pick1 rfl rfl (.bool _) rfl ?_
    refine op_assign rfl (.bool _) rfl ?_
    refine op_nil (at_then ?_)
    refine W_ret (leave1 (v := (.bool _)) rfl rfl rfl ?_)
    exact ⟨congrArg Value.bool (by simp_all; try omega), rfl⟩
  · intro h2
    replace h2 := dec_f h2
    refine op_skip rfl ?_
    refine op_skip rfl ?_
    refine op_skip rfl ?_
    refine op_skip rfl ?_
    refine op_skip rfl ?_
    refine op_skip rfl ?_
    refine op_skip rfl ?_
    refine op_pick0 rfl rfl (.bool _) rfl ?_
    refine op_assign rfl (.bool _) rfl ?_
    refine op_nil (at_then ?_)
    refine W_ret (leave1 (v := (.bool _)) rfl rfl rfl ?_)
    exact ⟨congrArg Value.bool (by simp_all; try omega), rfl⟩

theorem dsize_ok {w : World} {bd n bs bm : Nat} {left : Int} {on : Bool} (h : w.heap[bd]? = some (Bl TD (DB n bs bm left on))) :
    Ret Tryz.prog 81 #[ptr bd] w fun v w' => v = .int .i64 n ∧ w = w' := by
  obtain ⟨w0, rfl⟩ : ∃ w0, w0 = w := ⟨_, rfl⟩
  have H := Ctx.start1 h
  refine ret_of_W (fn := Tryz.f81) Tryz.func81 rfl [.pointer (some ⟨bd, 0, none⟩)] rfl (by kernel_rfl) ?_
  refine W_rseq ?_
  refine op_assign rfl (.int _ _) rfl ?_
  refine op_nil (at_then ?_)
  refine W_seq ?_
  refine W_rseq ?_
  refine op_move rfl (.pointer _) rfl ?_
  refine op_eqlptr rfl un_32 rfl ?_
  refine op_nil (at_then ?_)
  refine W_cond0 rfl ?_
  refine W_skip (at_then ?_)
  refine W_rseq ?_
  refine op_move rfl (.pointer _) rfl ?_
  refine op_nilCheck rfl rfl ?_
  refine op_fieldAddr rfl fo_144_0 rfl ?_
  refine op_ldb rfl ag_141 rfl H (by first | exact at0 | exact at1 | exact at2 | exact at3 | exact at4 | exact at5 | exact at6 | exact at7 | exact at8 | exact at9) rfl ?_
  refine op_len rfl el_141 rfl ?_
  refine op_assign rfl (.int _ _) rfl ?_
  refine op_nil (at_then ?_)
  refine W_ret (leave1 (v := (.int _ _)) rfl rfl rfl ?_)
  exact ⟨rfl, rfl⟩
theorem dcounts_ok {w : World} {bd : Nat} {A : Dev} {role : Nat → Nat} {bs bm : Nat} {sv : List Value} {m : List (Int × Value)} {o : Obj} (D : DevR w bd A role bs bm sv m o) :
    Ret Tryz.prog 83 #[ptr bd] w fun v w' => v = .int .i64 (bif A.goes then 8 else 0) ∧ DevR w' bd A.less role bs bm sv m o ∧ Ext [bd] w w' := by
  obtain ⟨w0, rfl⟩ : ∃ w0, w0 = w := ⟨_, rfl⟩
  have H := Ctx.start1 D.hd
  have h1 := D.wf.left; have h2 := D.wf.left2
  refine ret_of_W (fn := Tryz.f83) Tryz.func83 rfl [.pointer (some ⟨bd, 0, none⟩)] rfl (by kernel_rfl) ?_
  refine W_rseq ?_
  refine op_assign rfl (.int _ _) rfl ?_
  refine op_nil (at_then ?_)
  refine W_seq ?_
  refine W_rseq ?_
  refine op_move rfl (.pointer _) rfl ?_
  refine op_nilCheck rfl rfl ?_
  refine op_fieldAddr rfl fo_144_2 rfl ?_
  refine op_ldb rfl ag_3 rfl H (by first | exact at0 | exact at1 | exact at2 | exact at3 | exact at4 | exact at5 | exact at6 | exact at7 | exact at8 | exact at9) rfl ?_
  refine op_nil (at_then ?_)
  refine W_block ?_
  refine W_rseq ?_
  refine op_eql rfl rfl rfl ?_
  refine op_assign rfl (.bool _) rfl ?_
  refine op_nil (at_then ?_)
  refine W_cond _ rfl ?_ ?_
  · intro h3
    replace h3 := dec_t h3
    have hl : A.less = A := by unfold Dev.less; rw [if_neg (by omega), if_pos (by omega)]
    refine W_skip (at_block (at_then ?_))
    refine W_rseq ?_
    refine op_assign rfl (.int _ _) rfl ?_
    refine op_nil (at_then ?_)
    refine W_ret (leave1 (v := (.int _ _)) rfl rfl rfl ?_)
    exact ⟨by rw [Dev.goes, decide_eq_false (by omega)]; rfl, by rw [hl]; exact D, H.ext⟩
  · intro h3
    replace h3 := dec_f h3
    refine W_rseq ?_
    refine op_eql rfl rfl rfl ?_
    refine op_assign rfl (.bool _) rfl ?_
    refine op_nil (at_then ?_)
    refine W_cond _ rfl ?_ ?_
    · intro h4
      replace h4 := dec_t h4
      have hl : A.less = ⟨A.B, A.left, false⟩ := by unfold Dev.less; rw [if_pos (by omega)]
      refine W_rseq ?_
      refine op_move rfl (.pointer _) rfl ?_
      refine op_nilCheck rfl rfl ?_
      refine op_fieldAddr rfl fo_144_3 rfl ?_
      refine op_stb (.bool _) rfl sz_4 rfl rfl rfl H (by first | exact at0 | exact at1 | exact at2 | exact at3 | exact at4 | exact at5 | exact at6 | exact at7 | exact at8 | exact at9) (by first | decide | (simp; done) | (simp; omega)) ?_
      rintro w H
      refine op_nil (at_then ?_)
      refine W_rseq ?_
      refine op_assign rfl (.int _ _) rfl ?_
      refine op_nil (at_then ?_)
      refine W_ret (ret_block (ret_then (leave1 (v := (.int _ _)) rfl rfl rfl ?_)))
      exact ⟨by rw [Dev.goes, decide_eq_true (by omega)]; rfl, D.turn H.ext (by rw [hl]; exact H.get at0) (less_B A) (less_wf D.wf), H.ext⟩
    · intro h4
      replace h4 := dec_f h4
      have hl : A.less = ⟨A.B, A.left - 1, A.on⟩ := by unfold Dev.less; rw [if_neg (by omega), if_neg (by omega)]
      refine W_region ?_
      refine op_move rfl (.pointer _) rfl ?_
      refine op_nilCheck rfl rfl ?_
      refine op_fieldAddr rfl fo_144_2 rfl ?_
      refine op_ldb rfl ag_3 rfl H (by first | exact at0 | exact at1 | exact at2 | exact at3 | exact at4 | exact at5 | exact at6 | exact at7 | exact at8 | exact at9) rfl ?_
      refine op_sub_i64 rfl rfl rfl (by omega) (by omega) ?_
      refine op_nilCheck rfl rfl ?_
      refine op_fieldAddr rfl fo_144_2 rfl ?_
      refine op_stb (.int _ _) rfl sz_3 rfl rfl rfl H (by first | exact at0 | exact at1 | exact at2 | exact at3 | exact at4 | exact at5 | exact at6 | exact at7 | exact at8 | exact at9) (by first | decide | (simp; done) | (simp; omega)) ?_
      rintro w H
      refine op_nil (at_block (at_then ?_))
      refine W_rseq ?_
      refine op_assign rfl (.int _ _) rfl ?_
      refine op_nil (at_then ?_)
      refine W_ret (leave1 (v := (.int _ _)) rfl rfl rfl ?_)
      exact ⟨by rw [Dev.goes, decide_eq_false (by omega)]; rfl, D.turn H.ext (by rw [hl]; exact H.get at0) (less_B A) (less_wf D.wf), H.ext⟩

theorem dnew_ok (n : Int) (w : World) :
    Ret Tryz.prog 30 #[.int .i64 n] w fun v w' => Ext [] w w' ∧ ((newE n = 1 ∧ v = .tuple #[.pointer none, .int .i64 1]) ∨
      (newE n = 0 ∧ 1 ≤ n ∧ n ≤ 4096 ∧ ∃ bd, v = .tuple #[ptr bd, .int .i64 0] ∧ DevAt w' bd (newD n.toNat) fun x => w.heap.size ≤ x ∧ x < w'.heap.size)) := by
  obtain ⟨w0, rfl⟩ : ∃ w0, w0 = w := ⟨_, rfl⟩
  have H := Ctx.start w0 []
  refine ret_of_W (fn := Tryz.f30) Tryz.func30 rfl [.int .i64 n] rfl (by kernel_rfl) ?_
  refine W_rseq ?_
  refine op_assign rfl (.pointer _) rfl ?_
  refine op_assign rfl (.int _ _) rfl ?_
  refine op_nil (at_then ?_)
  refine W_seq ?_
  refine W_rseq (Wops_join (α := Unit) 1008 (fun _ => [(9, .bool (decide (n < 1) || decide (4096 < n)))]) (fun _ w' => Ctx w0 [] w' []) rfl ?_ ?_)
  · refine op_move rfl (.int _ _) rfl ?_
    refine op_lss rfl rfl rfl ?_
    refine op_move rfl (.bool _) rfl ?_
    refine Wops_split 6 rfl ?_ ?_
    · intro h1
      replace h1 := dec_t h1
      refine op_skip rfl ?_
      refine op_skip rfl ?_
      refine op_pick1 rfl rfl (.bool _) rfl ?_
      refine op_nil ?_
      exact ⟨rfl, (), rfl, ⟨congrArg Value.bool (by rw [Bool.eq_iff_iff]; simp_all; try omega), trivial⟩, H⟩
    · intro h2
      replace h2 := dec_f h2
      refine op_move rfl (.int _ _) rfl ?_
      refine op_gtr rfl rfl rfl ?_
      refine op_pick0 rfl rfl (.bool _) rfl ?_
      refine op_nil ?_
      exact ⟨rfl, (), rfl, ⟨congrArg Value.bool (by rw [Bool.eq_iff_iff]; simp_all; try omega), trivial⟩, H⟩
  rintro - j9 w H
  refine W_cond _ rfl ?_ ?_
  · intro h1
    refine W_rseq ?_
    refine op_assign rfl (.pointer _) rfl ?_
    refine op_assign rfl (.int _ _) rfl ?_
    refine op_nil (at_then ?_)
    refine W_ret (ret_then (leave2 (v1 := (.pointer _)) (v2 := (.int _ _)) rfl rfl rfl rfl ?_))
    exact ⟨H.ext, .inl ⟨by rw [newE, h1]; rfl, rfl⟩⟩
  · intro h1
    have h2 : 1 ≤ n ∧ n ≤ 4096 := by simp only [Bool.or_eq_false_iff, decide_eq_false_iff_not] at h1; omega
    refine W_skip (at_then ?_)
    refine W_rseq ?_
    refine op_move rfl (.int _ _) rfl ?_
    refine op_make rfl el_141 sz_23 by_23 zc_23 rfl rfl (by omega) (by omega) (by omega) (by omega) H ?_
    rintro b11 w - H
    refine op_makeMap .i64 rfl H ?_
    rintro b12 o12 w hM H
    refine op_buildS [.slice (some ⟨b11, 0, none⟩) n.toNat n.toNat, .map (some b12), .int .i64 (-1), .bool false] rfl pl_144 zc_144 (by kernel_rfl) ?_
    refine op_box rfl _ (.agg _) rfl rfl H ?_
    rintro b14 w - H
    refine op_assign rfl (.pointer _) rfl ?_
    refine op_assign rfl (.int _ _) rfl ?_
    refine op_nil (at_then ?_)
    refine W_ret (leave2 (v1 := (.pointer _)) (v2 := (.int _ _)) rfl rfl rfl rfl ?_)
    have e1 : b14 ≠ b12 := H.ne at0 at1 (by decide)
    have e2 : b14 ≠ b11 := H.ne at0 at2 (by decide)
    have e3 : b12 ≠ b11 := H.ne at1 at2 (by decide)
    have own : ∀ {k b : Nat} {o : Obj}, [(b14, _), (b12, o12), (b11, _)][k]? = some (b, o) → w0.heap.size ≤ b ∧ b < w.heap.size := fun {k b o} hk => ⟨(H.own _ (List.mem_of_getElem? hk)).elim (fun h => by cases h) id, heap_lt (H.get hk)⟩
    have hr : ∀ x, (if x = b14 then 1 else if x = b11 then 2 else if x = b12 then 3 else 0) ≠ 0 → w0.heap.size ≤ x ∧ x < w.heap.size := by
      intro x hx
      by_cases h14 : x = b14
      · rw [h14]; exact own at0
      · by_cases h11 : x = b11
        · rw [h11]; exact own at2
        · by_cases h12 : x = b12
          · rw [h12]; exact own at1
          · rw [if_neg h14, if_neg h11, if_neg h12] at hx; exact absurd rfl hx
    have hln : (newD n.toNat).B.length = n.toNat := List.length_replicate
    refine ⟨H.ext, .inr ⟨by rw [newE, h1]; rfl, h2.1, h2.2, b14, rfl, fun x => if x = b14 then 1 else if x = b11 then 2 else if x = b12 then 3 else 0, b11, b12, List.replicate n.toNat nilS, [], o12, ⟨fun x h => (hr x h).2, if_pos rfl, ?_, ?_, ?_, H.get at2, H.get at1, hM, List.nodup_nil, fun k v h => (by cases h), by rw [hln]; exact List.length_replicate, fun i p hp => ?_, new_wf (by omega) (by omega)⟩, hr⟩⟩
    · rw [if_neg (Ne.symm e2), if_pos rfl]
    · rw [if_neg (Ne.symm e1), if_neg e3, if_pos rfl]
    · rw [hln]; exact H.get at0
    · obtain ⟨hi, rfl⟩ := List.getElem?_eq_some_iff.1 hp
      have hi' : i < n.toNat := by rw [hln] at hi; exact hi
      have hpe : (newD n.toNat).B[i] = (zeros, []) := List.getElem_replicate _
      rw [hpe]
      refine ⟨⟨nilS, by rw [List.getElem?_replicate, if_pos hi'], .inl ⟨rfl, rfl⟩⟩, ⟨none, 0, 0, [], [], rfl, OS.nil, by simp [ent], rfl, fun j x y h => by cases h⟩, by simp [mget_nil]⟩

end Go.Proofs.YtbkadlngijkmmaaGreatDoor

/- Reads and writes of a device. -/
namespace Go.Proofs.YtbkadlngijkmmaaGreatDoor
open Go.GV
attribute [local irreducible] Wops W Wq Wt

theorem Ctx.startL {w : World} {L : List (Nat × Obj)} (h : ∀ x ∈ L, w.heap[x.1]? = some x.2) (nd : L.Pairwise fun x y => x.1 ≠ y.1) : Ctx w (L.map (·.1)) w L :=
  ⟨.refl _ _, h, nd, fun x hx => .inl (List.mem_map.2 ⟨x, hx, rfl⟩)⟩
theorem pad_zeros (s : Byt) (h : s.length = 512) : over (List.replicate 512 (Value.int .u8 0)) 0 ((s.map bv).take 512) = s.map bv := by
  have h1 := over_mid [] (List.replicate 512 (Value.int .u8 0)) [] (s.map bv) (by rw [List.length_replicate, List.length_map, h])
  simp only [List.nil_append, List.append_nil, List.length_nil] at h1
  rw [List.take_of_length_le (by rw [List.length_map, h]; exact Nat.le_refl _)]
  exact h1
theorem pad_nil : over (List.replicate 512 (Value.int .u8 0)) 0 (([] : Byt).map bv |>.take 512) = zeros.map bv := by
  rw [zeros, List.map_replicate]
  rfl
theorem pad_ts {ts s : Byt} (h : ts = s ∨ ts = [] ∧ s = zeros) (hl : s.length = 512) : over (List.replicate 512 (Value.int .u8 0)) 0 ((ts.map bv).take 512) = s.map bv := by
  rcases h with rfl | ⟨rfl, rfl⟩
  · exact pad_zeros _ hl
  · exact pad_nil
theorem Ctx.fresh_bl {w0 w : World} {b t n : Nat} {l : List Value} (H : Ctx w0 [] w [(b, Bl t l)]) (hl : l.length = n) : Fresh w0 w t 1 (.slice (some ⟨b, 0, none⟩) n n) l :=
  Ctx.fresh (L := []) H ⟨fun p hp => (by cases hp; rfl), fun h => (by cases h), by rw [hl, Nat.mul_one], Nat.le_refl _, by rw [Nat.mul_one, ← hl]; exact List.take_length⟩
theorem has_num {A : Dev} {k : Int} (h : A.has k = true) : ∃ q : Nat, k = q ∧ q < A.B.length := by
  simp only [Dev.has, Bool.and_eq_true, decide_eq_true_eq] at h
  exact ⟨k.toNat, by omega, by omega⟩
/-- What lies in a block, all that is known of it. -/
theorem slot_bytes {w : World} {role : Nat → Nat} {v : Value} {s : Byt} (h : SureAt w role v s) : ∃ a c t, v = .slice a (List.length t) c ∧ Rd w a 1 B8 t ∧ (t = s ∨ t = [] ∧ s = zeros) := by
  rcases h with ⟨rfl, rfl⟩ | ⟨a, c, rfl, R, hl, _, _⟩
  · exact ⟨none, 0, [], rfl, Rd.nil, .inr ⟨rfl, rfl⟩⟩
  · exact ⟨a, c, s, by rw [hl], R, .inl rfl⟩

set_option maxHeartbeats 1000000 in
theorem dread_ok {w : World} {bd : Nat} {A : Dev} {F : Nat → Prop} (k : Int) {mx : Nat} (hfew : Few A mx) (hmx : mx ≤ 1000000000000) (DA : DevAt w bd A F) :
    Ret Tryz.prog 123 #[ptr bd, .int .i64 k] w fun v w' => ∃ s, v = .tuple #[s, .int .i64 (readE A k)] ∧ Fresh w w' 5 1 s ((readB A k).map bv) := by
  obtain ⟨w0, rfl⟩ : ∃ w0, w0 = w := ⟨_, rfl⟩
  obtain ⟨role, bs, bm, sv, m, o, D, hF⟩ := DA
  have H := Ctx.start w0 []
  refine ret_of_W (fn := Tryz.f123) Tryz.func123 rfl [.pointer (some ⟨bd, 0, none⟩), .int .i64 k] rfl (by kernel_rfl) ?_
  refine W_rseq ?_
  refine op_assign rfl (.slice _ _ _) rfl ?_
  refine op_assign rfl (.int _ _) rfl ?_
  refine op_nil (at_then ?_)
  refine W_seq ?_
  refine W_rseq ?_
  refine op_move rfl (.pointer _) rfl ?_
  refine op_call rfl ca_82 (don_ok (Ctx.oldb H D.hd)) rfl ?_
  rintro v w ⟨rfl, rfl⟩
  refine op_assign rfl (.int _ _) rfl ?_
  refine op_nil (at_then ?_)
  refine W_rseq ?_
  refine op_move rfl (.int _ _) rfl ?_
  refine op_neq rfl rfl rfl ?_
  refine op_nil (at_then ?_)
  refine W_cond _ rfl ?_ ?_
  · intro h1
    replace h1 := ndec_t h1
    have ho : A.on = false := by cases h : A.on <;> simp_all
    have he : readE A k = 8 := by rw [readE, ho]; rfl
    refine W_rseq ?_
    refine op_move rfl (.int _ _) rfl ?_
    refine op_assign rfl (.slice _ _ _) rfl ?_
    refine op_assign rfl (.int _ _) rfl ?_
    refine op_nil (at_then ?_)
    refine W_ret (ret_then (leave2 (v1 := (.slice _ _ _)) (v2 := (.int _ _)) rfl rfl rfl rfl ?_))
    refine ⟨_, by rw [he, ho]; rfl, ?_⟩
    rw [readB, he]
    exact Fresh.nil H _ _
  · intro h1
    replace h1 := ndec_f h1
    have ho : A.on = true := by cases h : A.on <;> simp_all
    refine W_skip (at_then ?_)
    refine W_seq ?_
    refine W_rseq ?_
    refine op_move rfl (.pointer _) rfl ?_
    refine op_move rfl (.int _ _) rfl ?_
    refine op_call rfl ca_165 (dhas_ok k (Ctx.oldb H D.hd)) rfl ?_
    rintro v w ⟨rfl, rfl⟩
    rw [show (decide (0 ≤ k) && decide (k < (A.B.length : Int))) = A.has k from rfl]
    refine op_not rfl rfl ?_
    refine op_nil (at_then ?_)
    refine W_cond _ rfl ?_ ?_
    · intro h2
      replace h2 := nvar_t h2
      have he : readE A k = 1 := by rw [readE, ho, h2]; rfl
      refine W_rseq ?_
      refine op_assign rfl (.slice _ _ _) rfl ?_
      refine op_assign rfl (.int _ _) rfl ?_
      refine op_nil (at_then ?_)
      refine W_ret (ret_then (leave2 (v1 := (.slice _ _ _)) (v2 := (.int _ _)) rfl rfl rfl rfl ?_))
      refine ⟨_, by rw [he], ?_⟩
      rw [readB, he]
      exact Fresh.nil H _ _
    · intro h2
      replace h2 := nvar_f h2
      have he : readE A k = 0 := by rw [readE, ho, h2]; rfl
      obtain ⟨q, rfl, hq⟩ := has_num h2
      obtain ⟨p, hp⟩ : ∃ p, A.B[q]? = some p := ⟨_, List.getElem?_eq_getElem hq⟩
      have hpm := List.mem_of_getElem? hp
      have hbe : readB A q = stands p := by
        rw [readB, he, show ((q : Int)).toNat = q from rfl, List.getD_eq_getElem?_getD, hp]; rfl
      have hst := stands_len D.wf hpm
      obtain ⟨⟨v0, hv0, hsure⟩, ⟨al, nl, cl, fl, vs, hvl, O, hent, hvs⟩, _⟩ := D.part q p hp
      have Rs := rdV_bl D.hs
      have Rl := OS.rdV O fun x hx => (hent x hx).1
      have hnl : nl = vs.length := by have := O.llen; omega
      have hll := hfew p hpm
      have hvn := hvs.1
      obtain ⟨a0, c0, ts, rfl, R0, hts⟩ := slot_bytes hsure
      refine W_skip (at_then ?_)
      refine W_rseq ?_
      refine op_move rfl (.pointer _) rfl ?_
      refine op_nilCheck rfl rfl ?_
      refine op_fieldAddr rfl fo_144_0 rfl ?_
      first | refine op_ldb rfl ag_141 rfl H (by first | exact at0 | exact at1 | exact at2 | exact at3 | exact at4 | exact at5 | exact at6 | exact at7 | exact at8 | exact at9) rfl ?_ | refine op_ld rfl ag_141 rfl (H.old0 (cell_bl D.hd _)) ?_ | refine op_ld rfl ag_141 rfl ((Rs.ext0 H.ext).one (f := fun v => v) hv0) ?_
      refine op_move rfl (.int _ _) rfl ?_
      first | refine op_indexRd Rs rfl el_141 sz_23 rfl rfl (by omega) (by omega) (by first | rfl | omega) ?_ | refine op_indexAddr rfl el_141 sz_23 rfl rfl (by omega) (by omega) ?_
      first | refine op_ldb rfl ag_23 rfl H (by first | exact at0 | exact at1 | exact at2 | exact at3 | exact at4 | exact at5 | exact at6 | exact at7 | exact at8 | exact at9) rfl ?_ | refine op_ld rfl ag_23 rfl (H.old0 (cell_bl D.hd _)) ?_ | refine op_ld rfl ag_23 rfl ((Rs.ext0 H.ext).one (f := fun v => v) hv0) ?_
      refine op_assign rfl (.slice _ _ _) rfl ?_
      refine op_nil (at_then ?_)
      refine W_seq ?_
      refine W_rseq ?_
      refine op_move rfl (.pointer _) rfl ?_
      refine op_nilCheck rfl rfl ?_
      refine op_fieldAddr rfl fo_144_1 rfl ?_
      first | refine op_ldb rfl ag_142 rfl H (by first | exact at0 | exact at1 | exact at2 | exact at3 | exact at4 | exact at5 | exact at6 | exact at7 | exact at8 | exact at9) rfl ?_ | refine op_ld rfl ag_142 rfl (H.old0 (cell_bl D.hd _)) ?_ | refine op_ld rfl ag_142 rfl ((Rs.ext0 H.ext).one (f := fun v => v) hv0) ?_
      refine op_move rfl (.int _ _) rfl ?_
      refine op_lookupH rfl mt_142 un_3 zv_141 rfl rfl (Ctx.oldb H D.hm) D.hM ?_
      rw [show ((mget m (q : Int)).getD (.slice none 0 0)) = .slice al nl cl from hvl]
      refine op_assign rfl (.slice _ _ _) rfl ?_
      refine op_nil (at_then ?_)
      refine W_rseq ?_
      refine op_move rfl (.slice _ _ _) rfl ?_
      refine op_len rfl el_141 rfl ?_
      refine op_gtr rfl rfl rfl ?_
      refine op_nil (at_then ?_)
      refine W_cond _ rfl ?_ ?_
      · intro h3
        replace h3 := dec_t h3
        obtain ⟨b, hb⟩ : ∃ b, p.2[nl - 1]? = some b := ⟨_, List.getElem?_eq_getElem (by omega)⟩
        obtain ⟨vb, hvb⟩ : ∃ v, vs[nl - 1]? = some v := ⟨_, List.getElem?_eq_getElem (by omega)⟩
        obtain ⟨ab, cb, rfl, Rb, hbl, _, _⟩ := hvs.2 _ _ _ hvb hb
        have hstb : stands p = b := by
          rw [stands, List.getLast?_eq_getElem?, show p.2.length - 1 = nl - 1 by omega, hb]; rfl
        refine W_region ?_
        refine op_move rfl (.slice _ _ _) rfl ?_
        refine op_move rfl (.slice _ _ _) rfl ?_
        refine op_len rfl el_141 rfl ?_
        refine op_sub_i64 rfl rfl rfl (by omega) (by omega) ?_
        rw [show ((nl : Int) - 1) = ((nl - 1 : Nat) : Int) by omega]
        first | refine op_indexRd Rs rfl el_141 sz_23 rfl rfl (by omega) (by omega) (by first | rfl | omega) ?_ | refine op_indexRd Rl rfl el_141 sz_23 rfl rfl (by omega) (by omega) (by first | rfl | omega) ?_ | refine op_indexAddr rfl el_141 sz_23 rfl rfl (by omega) (by omega) ?_
        first | refine op_ldb rfl ag_23 rfl H (by first | exact at0 | exact at1 | exact at2 | exact at3 | exact at4 | exact at5 | exact at6 | exact at7 | exact at8 | exact at9) rfl ?_ | refine op_ld rfl ag_23 rfl (H.old0 (cell_bl D.hd _)) ?_ | refine op_ld rfl ag_23 rfl ((Rs.ext0 H.ext).one (f := fun v => v) hv0) ?_ | refine op_ld rfl ag_23 rfl ((Rl.ext0 H.ext).one (f := fun v => v) hvb) ?_
        refine op_assign rfl (.slice _ _ _) rfl ?_
        refine op_nil (at_then ?_)
        refine W_rseq ?_
        refine op_make rfl el_23 sz_5 by_5 zc_5 rfl rfl (by omega) (by omega) (by omega) (by omega) H ?_
        rintro b41 w - H
        refine op_assign rfl (.slice _ _ _) rfl ?_
        refine op_nil (at_then ?_)
        refine W_rseq ?_
        refine op_move rfl (.slice _ _ _) rfl ?_
        refine op_move rfl (.slice _ _ _) rfl ?_
        refine op_copy (b.map bv) rfl el_23 sz_5 rfl rfl (by simp [hbl]) (bv_one _) (Rd.appB (Rb.ext0 H.ext)) (show Ctx w0 [] w [(b41, Bl 5 (List.replicate 512 (Value.int .u8 0)))] from H) at0 (by rw [List.length_replicate]; exact Nat.le_refl _) ?_
        rintro w H
        replace H : Ctx w0 [] w [(b41, Bl 5 (over (List.replicate 512 (Value.int .u8 0)) 0 ((b.map bv).take 512)))] := H
        rw [pad_zeros b hbl] at H
        refine op_nil (at_then ?_)
        refine W_rseq ?_
        refine op_move rfl (.slice _ _ _) rfl ?_
        refine op_assign rfl (.slice _ _ _) rfl ?_
        refine op_assign rfl (.int _ _) rfl ?_
        refine op_nil (at_then ?_)
        refine W_ret (leave2 (v1 := (.slice _ _ _)) (v2 := (.int _ _)) rfl rfl rfl rfl ?_)
        refine ⟨_, by rw [he], ?_⟩
        rw [hbe, hstb]
        exact Ctx.fresh_bl H (by rw [List.length_map, hbl]; rfl)
      · intro h3
        replace h3 := dec_f h3
        have hstb : stands p = p.1 := by
          have : p.2 = [] := List.eq_nil_of_length_eq_zero (by omega)
          rw [stands, this]; rfl
        refine W_skip (at_then ?_)
        refine W_rseq ?_
        refine op_make rfl el_23 sz_5 by_5 zc_5 rfl rfl (by omega) (by omega) (by omega) (by omega) H ?_
        rintro b41 w - H
        refine op_assign rfl (.slice _ _ _) rfl ?_
        refine op_nil (at_then ?_)
        refine W_rseq ?_
        refine op_move rfl (.slice _ _ _) rfl ?_
        refine op_move rfl (.slice _ _ _) rfl ?_
        refine op_copy (ts.map bv) rfl el_23 sz_5 rfl rfl (by simp) (bv_one _) (Rd.appB (R0.ext0 H.ext)) (show Ctx w0 [] w [(b41, Bl 5 (List.replicate 512 (Value.int .u8 0)))] from H) at0 (by rw [List.length_replicate]; exact Nat.le_refl _) ?_
        rintro w H
        replace H : Ctx w0 [] w [(b41, Bl 5 (over (List.replicate 512 (Value.int .u8 0)) 0 ((ts.map bv).take 512)))] := H
        rw [pad_ts hts (by rw [← hstb]; exact hst)] at H
        refine op_nil (at_then ?_)
        refine W_rseq ?_
        refine op_move rfl (.slice _ _ _) rfl ?_
        refine op_assign rfl (.slice _ _ _) rfl ?_
        refine op_assign rfl (.int _ _) rfl ?_
        refine op_nil (at_then ?_)
        refine W_ret (leave2 (v1 := (.slice _ _ _)) (v2 := (.int _ _)) rfl rfl rfl rfl ?_)
        refine ⟨_, by rw [he], ?_⟩
        rw [hbe, hstb]
        exact Ctx.fresh_bl H (by rw [List.length_map, ← hstb, hst]; rfl)

theorem All2.snoc {α β : Type} {R : α → β → Prop} {xs : List α} {ys : List β} {x : α} {y : β} (h : All2 R xs ys) (hxy : R x y) : All2 R (xs ++ [x]) (ys ++ [y]) := by
  refine ⟨by rw [List.length_append, List.length_append, h.1]; rfl, fun i a b ha hb => ?_⟩
  by_cases hi : i < xs.length
  · rw [List.getElem?_append_left hi] at ha
    rw [List.getElem?_append_left (by rw [← h.1]; exact hi)] at hb
    exact h.2 i a b ha hb
  · have h2 := get_lt ha
    rw [List.length_append, List.length_singleton] at h2
    have hi' : i = xs.length := by omega
    subst hi'
    rw [List.getElem?_append_right (Nat.le_refl _), Nat.sub_self] at ha
    rw [List.getElem?_append_right (by rw [h.1]; exact Nat.le_refl _), h.1, Nat.sub_self] at hb
    cases ha; cases hb
    exact hxy
theorem All2.imp {α β : Type} {R R' : α → β → Prop} {xs : List α} {ys : List β} (h : All2 R xs ys) (hi : ∀ x y, R x y → R' x y) : All2 R' xs ys := ⟨h.1, fun i x y hx hy => hi x y (h.2 i x y hx hy)⟩
theorem mset_nodup {α : Type} {m : List (Int × α)} {k : Int} {v : α} (h : (m.map (·.1)).Nodup) : ((mset m k v).map (·.1)).Nodup := by
  induction m with
  | nil => simp [mset]
  | cons p m ih =>
    unfold mset
    rw [List.map_cons, List.nodup_cons] at h
    by_cases hp : p.1 = k
    · rw [if_pos hp, List.map_cons, List.nodup_cons]
      exact ⟨by rw [← hp]; exact h.1, h.2⟩
    · rw [if_neg hp, List.map_cons, List.nodup_cons]
      refine ⟨fun hm => ?_, ih h.2⟩
      rcases (mset_keys m k v p.1).1 hm with h1 | h1
      · exact hp h1
      · exact h.1 h1

/-- What is written is one more that is loose. -/
theorem DevR.write {wS w15 : World} {bd : Nat} {A : Dev} {role : Nat → Nat} {bs bm : Nat} {sv : List Value} {m : List (Int × Value)} {o o' : Obj} (D : DevR wS bd A role bs bm sv m o) {k : Nat} (hk : k < A.B.length) {arrs : List Nat}
    (ha : ∀ x ∈ arrs, role x = 5 + k) (hx : Ext (bm :: arrs) wS w15) (hm15 : w15.heap[bm]? = some o') {b9 n9 c9 : Nat} {full9 vs : List Value} (hM : MapO .i64 (mset m k (.slice (some ⟨b9, 0, none⟩) n9 c9)) o')
    {a39 : Option Addr} {c39 : Nat} {l : Byt} (O : OS (some ⟨b9, 0, none⟩) n9 c9 1 full9 (vs ++ [.slice a39 512 c39])) (h9 : w15.heap[b9]? = some (Bl 23 full9)) (h9n : b9 ∈ arrs ∨ wS.heap.size ≤ b9)
    {p : Byt × List Byt} (hp : A.B[k]? = some p) (hvs : All2 (BytesAt wS role) vs p.2) (R39 : Rd w15 a39 1 B8 l) (hl : l.length = 512) (hc : 512 ≤ c39) (h39 : wS.heap.size ≤ (adr a39).block) (h39' : (adr a39).block ≠ b9) (h39lt : (adr a39).block < w15.heap.size)
    (wf : Wf (addW A k l)) : ∃ role', DevR w15 bd (addW A k l) role' bs bm sv (mset m k (.slice (some ⟨b9, 0, none⟩) n9 c9)) o' ∧ ∀ x, role' x ≠ 0 → role x ≠ 0 ∨ (wS.heap.size ≤ x ∧ x < w15.heap.size) := by
  obtain ⟨role', hrole⟩ : ∃ f : Nat → Nat, ∀ x, f x = if x = b9 then 5 + k else if x = (adr a39).block then 4 else role x := ⟨_, fun _ => rfl⟩
  have hr9 : role' b9 = 5 + k := by rw [hrole, if_pos rfl]
  have hr39 : role' (adr a39).block = 4 := by rw [hrole, if_neg h39', if_pos rfl]
  have hold : ∀ x, role x ≠ 0 → role' x = role x := fun x h0 => by
    have hlt := D.lt x h0
    rw [hrole]
    by_cases h : x = b9
    · rw [if_pos h]
      rcases h9n with h1 | h1
      · rw [h, ha _ h1]
      · omega
    · rw [if_neg h, if_neg (by omega)]
  have hnew : ∀ x, role' x ≠ 0 → role x ≠ 0 ∨ (wS.heap.size ≤ x ∧ x < w15.heap.size) := fun x h0 => by
    rw [hrole] at h0
    by_cases h : x = b9
    · rcases h9n with h1 | h1
      · exact .inl (by rw [h, ha _ h1]; omega)
      · exact .inr (by rw [h]; exact ⟨h1, heap_lt h9⟩)
    · rw [if_neg h] at h0
      by_cases h2 : x = (adr a39).block
      · exact .inr (by rw [h2]; exact ⟨h39, h39lt⟩)
      · rw [if_neg h2] at h0
        exact .inl h0
  have hS : ∀ x ∈ bm :: arrs, role x = 3 ∨ role x = 5 + k := fun x h => by
    rcases List.mem_cons.1 h with h | h
    · exact .inl (by rw [h]; exact D.rm)
    · exact .inr (ha x h)
  have hb : ∀ {b : Nat} {o : Obj}, wS.heap[b]? = some o → role b = 1 ∨ role b = 2 → w15.heap[b]? = some o := fun {b o} h1 h2 => by
    rw [hx.block b (heap_lt h1) fun h => ?_]
    · exact h1
    · rcases hS b h with h3 | h3 <;> omega
  have k4 : ∀ x, role x = 4 → role' x = 4 := fun x h => by rw [hold x (by omega), h]
  refine ⟨role', ⟨fun x h => ?_, by rw [hold _ (by rw [D.rd]; decide), D.rd], by rw [hold _ (by rw [D.rs]; decide), D.rs], by rw [hold _ (by rw [D.rm]; decide), D.rm], ?_, hb D.hs (.inr D.rs), hm15, hM, mset_nodup D.nd, fun k' v h => ?_, ?_, fun i q hq => ?_, wf⟩, hnew⟩
  · rcases hnew x h with h | h
    · exact Nat.lt_of_lt_of_le (D.lt x h) hx.size
    · exact h.2
  · rw [show (addW A k l).B.length = A.B.length from List.length_modify ..]
    exact hb D.hd (.inl D.rd)
  · rw [show (addW A k l).B.length = A.B.length from List.length_modify ..]
    rw [mget_mset] at h
    by_cases hkk : k' = (k : Int)
    · exact ⟨k, hkk, hk⟩
    · rw [if_neg hkk] at h
      exact D.keys k' v h
  · rw [show (addW A k l).B.length = A.B.length from List.length_modify ..]; exact D.len
  · have hq' : (A.B.modify k fun p => (p.1, p.2 ++ [l]))[i]? = some q := hq
    rw [List.getElem?_modify] at hq'
    rw [mget_mset]
    by_cases hik : k = i
    · subst hik
      rw [hp] at hq'
      simp only [if_pos, Option.map_eq_map, Option.map_some, Option.some.injEq] at hq'
      subst hq'
      obtain ⟨⟨v, h1, h2⟩, _, _⟩ := D.part k p hp
      refine ⟨⟨v, h1, h2.keep hx (fun x h => by rcases hS x h with h3 | h3 <;> omega) k4⟩, ?_, by simp⟩
      rw [if_pos rfl, Option.getD_some]
      refine ⟨_, _, _, full9, _, rfl, O, fun x hx' => ?_, All2.snoc (hvs.imp fun v s h => h.keep hx (fun x h => by rcases hS x h with h3 | h3 <;> omega) k4) ⟨a39, c39, rfl, R39, hl, hr39, hc⟩⟩
      rw [mem_ent rfl, List.mem_singleton] at hx'
      subst hx'
      exact ⟨h9, hr9⟩
    · simp only [if_neg hik] at hq'
      have hq2 : A.B[i]? = some q := by simpa using hq'
      rw [if_neg (show ¬ ((i : Int) = (k : Int)) by omega)]
      obtain ⟨⟨v, h1, h2⟩, h3, h4⟩ := D.part i q hq2
      exact ⟨⟨v, h1, h2.keep hx (fun x h => by rcases hS x h with h3 | h3 <;> omega) k4⟩, h3.keep hx (fun x h => by rcases hS x h with h3 | h3 <;> omega) k4 (fun x h => by rw [hold x (by omega), h]), h4⟩

end Go.Proofs.YtbkadlngijkmmaaGreatDoor

/- Writes of a device. -/
namespace Go.Proofs.YtbkadlngijkmmaaGreatDoor
open Go.GV
attribute [local irreducible] Wops W Wq Wt

theorem Fresh.new512 {w w' : World} {t : Nat} {s : Value} {xs : Byt} (h : Fresh w w' t 1 s (xs.map bv)) (hl : xs.length = 512) : ∃ a c, s = .slice a 512 c ∧ Rd w' a 1 B8 xs ∧ 512 ≤ c ∧ w.heap.size ≤ (adr a).block ∧ (adr a).block < w'.heap.size := by
  obtain ⟨a, n, c, full, rfl, O, hb⟩ := h.ex
  have hn : n = 512 := by rw [← hl]; exact OS.num O
  subst hn
  obtain ⟨b, rfl⟩ := O.form (by decide)
  have h1 := hb (b, Bl t full) (by rw [mem_ent rfl]; exact List.mem_singleton.2 rfl)
  exact ⟨_, c, rfl, O.rd1 (t := t) fun x hx => (hb x hx).1, O.le, h1.2, heap_lt h1.1⟩

set_option maxRecDepth 20000 in
set_option maxHeartbeats 1000000 in
theorem dwrite_ok {w : World} {bd : Nat} {A : Dev} {F : Nat → Prop} (k : Int) (a : Option Addr) (c n : Nat) (l : Byt) (R : Rd w a 1 B8 l) (hn : l.length = n) (hm : n ≤ 140737488351232) (hFa : l = [] ∨ ¬ F (adr a).block) {mx : Nat} (hfew : Few A mx) (hmx : mx ≤ 1000000000000) (DA : DevAt w bd A F) :
    Ret Tryz.prog 141 #[ptr bd, .int .i64 k, .slice a n c] w fun v w' => v = .int .i64 (writeE A k l) ∧ DevAt w' bd (writeD A k l) (grow F w w') ∧ Turn F w w' := by
  subst hn
  obtain ⟨w0, rfl⟩ : ∃ w0, w0 = w := ⟨_, rfl⟩
  obtain ⟨role, bs, bm, sv, m, o, D, hF⟩ := DA
  have hFr : ∀ x, role x ≠ 0 → F x := hF
  refine ret_of_W (fn := Tryz.f141) Tryz.func141 rfl [.pointer (some ⟨bd, 0, none⟩), .int .i64 k, .slice a l.length c] rfl (by kernel_rfl) ?_
  refine W_rseq ?_
  refine op_assign rfl (.int _ _) rfl ?_
  refine op_nil (at_then ?_)
  refine W_seq ?_
  refine W_rseq ?_
  refine op_move rfl (.pointer _) rfl ?_
  refine op_call rfl ca_82 (don_ok D.hd) rfl ?_
  rintro v w ⟨rfl, rfl⟩
  refine op_assign rfl (.int _ _) rfl ?_
  refine op_nil (at_then ?_)
  refine W_rseq ?_
  refine op_move rfl (.int _ _) rfl ?_
  refine op_neq rfl rfl rfl ?_
  refine op_nil (at_then ?_)
  refine W_cond _ rfl ?_ ?_
  · intro h1
    replace h1 := ndec_t h1
    have ho : A.on = false := by cases h : A.on <;> simp_all
    have he : writeE A k l = 8 := by rw [writeE, ho]; rfl
    have hd : writeD A k l = A := by rw [writeD, ho]; rfl
    refine W_rseq ?_
    refine op_move rfl (.int _ _) rfl ?_
    refine op_assign rfl (.int _ _) rfl ?_
    refine op_nil (at_then ?_)
    refine W_ret (ret_then (leave1 (v := (.int _ _)) rfl rfl rfl ?_))
    exact ⟨by rw [he, ho]; rfl, by rw [hd]; exact ⟨role, bs, bm, sv, m, o, D, fun x h => .inl (hF x h)⟩, .of0 (.refl _ _)⟩
  · intro h1
    replace h1 := ndec_f h1
    have ho : A.on = true := by cases h : A.on <;> simp_all
    refine W_skip (at_then ?_)
    refine W_seq ?_
    refine W_rseq (Wops_join (α := Unit) 8372224 (fun _ => [(22, .bool (!(A.has k && decide (l.length = 512))))]) (fun _ w' => w0 = w') rfl ?_ ?_)
    · refine op_move rfl (.pointer _) rfl ?_
      refine op_move rfl (.int _ _) rfl ?_
      refine op_call rfl ca_165 (dhas_ok k D.hd) rfl ?_
      rintro v w ⟨rfl, rfl⟩
      rw [show (decide (0 ≤ k) && decide (k < (A.B.length : Int))) = A.has k from rfl]
      refine op_not rfl rfl ?_
      refine op_move rfl (.bool _) rfl ?_
      refine Wops_split 18 rfl ?_ ?_
      · intro h1
        replace h1 := nvar_t h1
        refine op_skip rfl ?_
        refine op_skip rfl ?_
        refine op_skip rfl ?_
        refine op_pick1 rfl rfl (.bool _) rfl ?_
        refine op_nil ?_
        exact ⟨rfl, (), rfl, ⟨congrArg Value.bool (by rw [Bool.eq_iff_iff]; simp_all; try omega), trivial⟩, rfl⟩
      · intro h2
        replace h2 := nvar_f h2
        refine op_move rfl (.slice _ _ _) rfl ?_
        refine op_len rfl el_23 rfl ?_
        refine op_neq rfl rfl rfl ?_
        refine op_pick0 rfl rfl (.bool _) rfl ?_
        refine op_nil ?_
        exact ⟨rfl, (), rfl, ⟨congrArg Value.bool (by rw [Bool.eq_iff_iff]; simp_all; try omega), trivial⟩, rfl⟩
    rintro - j22 w rfl
    refine W_cond _ rfl ?_ ?_
    · intro h2
      replace h2 := nvar_t h2
      have he : writeE A k l = 1 := by rw [writeE, ho, h2]; rfl
      have hd : writeD A k l = A := by rw [writeD, h2, Bool.and_false]; rfl
      refine W_rseq ?_
      refine op_assign rfl (.int _ _) rfl ?_
      refine op_nil (at_then ?_)
      refine W_ret (ret_then (leave1 (v := (.int _ _)) rfl rfl rfl ?_))
      exact ⟨by rw [he], by rw [hd]; exact ⟨role, bs, bm, sv, m, o, D, fun x h => .inl (hF x h)⟩, .of0 (.refl _ _)⟩
    · intro h2
      replace h2 := nvar_f h2
      refine W_skip (at_then ?_)
      refine W_rseq ?_
      refine op_move rfl (.pointer _) rfl ?_
      refine op_call rfl ca_83 (dcounts_ok D) rfl ?_
      rintro v w ⟨rfl, D1, hx1⟩
      refine op_assign rfl (.int _ _) rfl ?_
      refine op_nil (at_then ?_)
      refine W_seq ?_
      refine W_rseq ?_
      refine op_move rfl (.int _ _) rfl ?_
      refine op_eql rfl rfl rfl ?_
      refine op_nil (at_then ?_)
      refine W_cond _ rfl ?_ ?_
      · intro h3
        replace h3 := dec_t h3
        have hg : A.goes = false := by cases h : A.goes <;> simp_all
        have he : writeE A k l = 0 := by rw [writeE, ho, h2, hg]; rfl
        have hd : writeD A k l = addW A.less k.toNat l := by rw [writeD, ho, h2, hg]; rfl
        obtain ⟨wS, rfl⟩ : ∃ x, x = w := ⟨_, rfl⟩
        rw [Bool.and_eq_true, decide_eq_true_eq] at h2
        obtain ⟨h2, hl⟩ := h2
        obtain ⟨q, rfl, hq⟩ := has_num h2
        have hq1 : q < A.less.B.length := by rw [less_B]; exact hq
        obtain ⟨p, hp⟩ : ∃ p, A.less.B[q]? = some p := ⟨_, List.getElem?_eq_getElem hq1⟩
        obtain ⟨_, ⟨al, nl, cl, fl, vs, hvl, O, hent, hvs⟩, _⟩ := D1.part q p hp
        have hnl : nl = vs.length := by have := O.llen; omega
        have hll := less_few hfew p (List.mem_of_getElem? hp)
        have hvn := hvs.1
        obtain ⟨arrs, harrs⟩ : ∃ x, x = (ent al 23 fl).map (·.1) := ⟨_, rfl⟩
        have har : ∀ x ∈ arrs, role x = 5 + q := fun x h => by
          rw [harrs] at h
          obtain ⟨y, hy, rfl⟩ := List.mem_map.1 h
          exact (hent y hy).2
        have HT : ∀ x, Ext arrs wS x → Ctx wS (bd :: bm :: arrs) x [(bd, Bl TD (DB A.less.B.length bs bm A.less.left A.less.on)), (bm, o)] := fun x hx => by
          have e1 : ∀ {b : Nat} {o : Obj}, wS.heap[b]? = some o → role b = 1 ∨ role b = 3 → x.heap[b]? = some o := fun {b o} h1 h2 => by
            rw [hx.block b (heap_lt h1) fun h => by have := har b h; omega]; exact h1
          refine ⟨hx.mono (fun y h => by simp [h]), fun y hy => ?_, ?_, fun y hy => .inl ?_⟩
          · simp only [List.mem_cons, List.not_mem_nil, or_false] at hy
            rcases hy with rfl | rfl
            · exact e1 D1.hd (.inl D1.rd)
            · exact e1 D1.hm (.inr D1.rm)
          · have : bd ≠ bm := fun h => by have h1 := D1.rd; have h2 := D1.rm; rw [h] at h1; omega
            simp [this]
          · simp only [List.mem_cons, List.not_mem_nil, or_false] at hy
            rcases hy with rfl | rfl <;> simp
        have Rw : Rd wS a 1 B8 l := by
          rcases hFa with rfl | hFa
          · exact Rd.nil
          · refine R.ext hx1 fun h => hFa ?_
            rw [List.mem_singleton.1 h]
            exact hFr _ (by rw [D.rd]; decide)
        have hM := D1.hM
        refine W_segz [([0, 1, 2, 3, 4, 5, 6, 7, 8, 9, 10, 11], 12), ([], 13), ([], 14), ([], 15)] (fun x => Ext arrs wS x) [15] mixed (by kernel_rfl) (Ext.drew _ wS) ?_
        refine seg_cons rfl rfl ?_
        refine t_move rfl (.pointer _) rfl ?_
        refine t_nilCheck rfl rfl ?_
        refine t_fieldAddr rfl fo_144_1 rfl ?_
        refine t_ldb rfl ag_142 rfl HT (by first | exact at0 | exact at1 | exact at2 | exact at3 | exact at4 | exact at5 | exact at6 | exact at7 | exact at8 | exact at9) rfl ?_
        refine t_move rfl (.int _ _) rfl ?_
        refine t_move rfl (.pointer _) rfl ?_
        refine t_nilCheck rfl rfl ?_
        refine t_fieldAddr rfl fo_144_1 rfl ?_
        refine t_ldb rfl ag_142 rfl HT (by first | exact at0 | exact at1 | exact at2 | exact at3 | exact at4 | exact at5 | exact at6 | exact at7 | exact at8 | exact at9) rfl ?_
        refine t_move rfl (.int _ _) rfl ?_
        refine t_lookup rfl mt_142 un_3 zv_141 rfl rfl HT at1 D1.hM ?_
        rw [show ((mget m (q : Int)).getD (.slice none 0 0)) = .slice al nl cl from hvl]
        refine t_move rfl (.slice _ _ _) rfl ?_
        refine t_nil ?_
        skip
        refine op_call rfl ca_119 (clone_ok a c l.length l _ (Rw.ext0 (Ext.drew [] wS)) rfl hm) rfl ?_
        rintro v w ⟨F39, -⟩
        obtain ⟨a39, c39, rfl, R39, hc39, hn39, hlt39⟩ := Fresh.new512 F39 hl
        have hxC0 := (Ext.drew [] wS).trans F39.ext
        have hxC : Ext arrs wS w := hxC0.mono (by simp)
        obtain ⟨wC, rfl⟩ : ∃ x, x = w := ⟨_, rfl⟩
        have H : Ctx wC arrs wC (ent al 23 fl) := by rw [harrs]; exact Ctx.startL (fun x hx => by rw [hxC0.block x.1 (heap_lt (hent x hx).1) (by simp)]; exact (hent x hx).1) ent_nd
        refine op_nil (at_seg (hxC) ?_)
        refine seg_cons rfl rfl ?_
        refine t_nil ?_
        refine op_build1 _ (.slice _ _ _) rfl el_141 sz_23 zc_23 rfl (by decide) (by decide) rfl rfl rfl H ?_
        rintro b40 w - H
        refine op_nil (at_seg (hxC.trans H.ext) ?_)
        refine seg_cons rfl rfl ?_
        refine t_nil ?_
        refine op_appendb (L := []) rfl el_141 el_141 sz_23 by_23 zc_23 rfl (by decide) rfl rfl H O rfl (by simp [oneCell]) (by omega) ?_
        rintro a9 c9 full9 w H9 O9
        obtain ⟨b9, rfl⟩ := O9.form (by omega)
        have hx14 : Ext arrs wS w := hxC.trans H9.ext
        have hbm : w.heap[bm]? = some o := by rw [hx14.block bm (heap_lt D1.hm) fun h => by have := har bm h; have := D1.rm; omega]; exact D1.hm
        obtain ⟨w14, rfl⟩ : ∃ x, x = w := ⟨_, rfl⟩
        replace H := Ctx.start1 hbm
        refine op_nil (at_seg (hx14) ?_)
        refine seg_cons rfl rfl ?_
        refine t_nil ?_
        refine op_mapUpdate (.slice _ _ _) rfl mt_142 un_3 rfl rfl rfl H (by first | exact at0 | exact at1 | exact at2 | exact at3 | exact at4 | exact at5 | exact at6 | exact at7 | exact at8 | exact at9) hM ?_
        rintro o w hM H
        refine op_nil (at_segz rfl ?_)
        refine seg_nil ?_
        refine at_then ?_
        refine W_rseq ?_
        refine op_move rfl (.int _ _) rfl ?_
        refine op_assign rfl (.int _ _) rfl ?_
        refine op_nil (at_then ?_)
        refine W_ret (leave1 (v := (.int _ _)) rfl rfl rfl ?_)
        have hsz9 : b9 ∈ arrs ∨ wC.heap.size ≤ b9 := H9.own (b9, Bl _ full9) (by rw [mem_ent rfl]; exact List.mem_singleton.2 rfl)
        have hb9w : w14.heap[b9]? = some (Bl 23 full9) := H9.blk (b9, Bl _ full9) (by rw [mem_ent rfl]; exact List.mem_singleton.2 rfl)
        have hsC := hxC.size
        have hs14 := H9.ext.size
        have hs15 := H.ext.size
        have hbm3 := D1.rm
        have hbmlt := D1.lt bm (by omega)
        have harlt : ∀ x ∈ arrs, x < wS.heap.size := fun x h => D1.lt x (by rw [har x h]; omega)
        have hne9 : b9 ≠ bm := fun h => by
          rcases hsz9 with h1 | h1
          · have := har b9 h1; rw [h] at this; omega
          · omega
        have hne39 : (adr a39).block ≠ b9 := fun h => by
          rcases hsz9 with h1 | h1
          · have := harlt b9 h1
            have h5 : wS.heap.size ≤ (adr a39).block := hn39
            omega
          · omega
        have hn39' : wS.heap.size ≤ (adr a39).block := hn39
        have hxE : Ext (bm :: arrs) wS w := (hx14.mono fun x h => List.mem_cons_of_mem _ h).trans (H.ext.mono fun x h => by rw [List.mem_singleton.1 h]; exact List.mem_cons_self ..)
        have R15 : Rd w a39 1 B8 l := (R39.ext H9.ext fun h => by have := harlt _ h; omega).ext H.ext fun h => by rw [List.mem_singleton] at h; omega
        obtain ⟨role', D', hnew⟩ := D1.write hq1 har hxE (H.get at0) hM O9 (by rw [H.ext.block b9 (heap_lt hb9w) (by simpa using hne9)]; exact hb9w) (hsz9.imp id fun h => Nat.le_trans hsC h) hp hvs R15 hl hc39 hn39' hne39 (by omega) (addW_wf (less_wf D.wf) hl)
        refine ⟨by rw [he, hg]; rfl, ?_, ?_⟩
        · rw [hd]
          refine ⟨role', bs, bm, sv, _, _, D', fun x h => ?_⟩
          rcases hnew x h with h | h
          · exact .inl (hF x h)
          · exact .inr ⟨Nat.le_trans hx1.size h.1, h.2⟩
        · refine .of (S := bd :: bm :: arrs) ((hx1.mono (by simp)).trans (hxE.mono fun x h => List.mem_cons_of_mem _ h)) fun x h => hF x ?_
          rcases List.mem_cons.1 h with rfl | h
          · rw [D.rd]; decide
          · rcases List.mem_cons.1 h with rfl | h
            · rw [D.rm]; decide
            · rw [har x h]; omega
      · intro h3
        replace h3 := dec_f h3
        have hg : A.goes = true := by cases h : A.goes <;> simp_all
        have he : writeE A k l = 8 := by rw [writeE, ho, h2, hg]; rfl
        have hd : writeD A k l = A.less := by rw [writeD, ho, h2, hg]; rfl
        refine W_skip (at_then ?_)
        refine W_rseq ?_
        refine op_move rfl (.int _ _) rfl ?_
        refine op_assign rfl (.int _ _) rfl ?_
        refine op_nil (at_then ?_)
        refine W_ret (leave1 (v := (.int _ _)) rfl rfl rfl ?_)
        refine ⟨by rw [he, hg]; rfl, by rw [hd]; exact ⟨role, bs, bm, sv, m, o, D1, fun x h => .inl (hF x h)⟩, .of hx1 fun x h => hF x (by rw [List.mem_singleton.1 h, D.rd]; decide)⟩

end Go.Proofs.YtbkadlngijkmmaaGreatDoor

/- Between our maps and the kit's words for the iterators over them. It holds for every program. -/
namespace Go.GV
open Go Go.Maps Go.WideElems Go.RowKit Go.WideShapes

def anyR : Value → Option (DataW Unit × List MemPlace) := fun _ => some (.nil, [])

end Go.GV

/- slices.Sorted(maps.Keys(m)) at this program. -/
namespace Go.Proofs
open Go.RowKit Go.Maps Go.Sort Go.Shelf
def Tryz.keysA_ren : Go.Shelf.Ren := ⟨fun | 7 => 144 | 10 => 183 | n => n, fun | 23 => 142 | 26 => 3 | 3 => 141 | 28 => 207 | 0 => 0 | 27 => 206 | 33 => 45 | 4 => 4 | n => n, fun | n => n⟩
def Tryz.sortedA_ren : Go.Shelf.Ren := ⟨fun | 6 => 143 | 8 => 182 | 9 => 76 | 11 => 207 | 13 => 135 | 12 => 134 | 23 => 179 | 24 => 180 | 14 => 170 | 15 => 171 | 16 => 172 | 17 => 173 | 18 => 174 | 19 => 175 | 20 => 176 | 21 => 177 | 22 => 178 | 25 => 201 | 26 => 202 | 27 => 203 | 28 => 204 | 29 => 205 | 30 => 206 | 31 => 225 | n => n, fun | 26 => 3 | 28 => 207 | 24 => 57 | 0 => 0 | 3 => 3 | 37 => 100 | 48 => 244 | 50 => 152 | 4 => 4 | 40 => 237 | 39 => 236 | 45 => 122 | 5 => 5 | 9 => 9 | 51 => 258 | 55 => 262 | 57 => 282 | 58 => 283 | 33 => 45 | n => n, fun | n => n⟩
def Tryz.sortA_ren : Go.Shelf.Ren := ⟨fun | 5 => 76 | 8 => 135 | 7 => 134 | 19 => 179 | 20 => 180 | 10 => 170 | 11 => 171 | 12 => 172 | 13 => 173 | 14 => 174 | 15 => 175 | 16 => 176 | 17 => 177 | 18 => 178 | 30 => 201 | 31 => 202 | 32 => 203 | 33 => 204 | 34 => 205 | 35 => 206 | 40 => 225 | n => n, fun | 23 => 57 | 25 => 3 | 3 => 3 | 32 => 100 | 22 => 57 | 0 => 0 | 44 => 244 | 46 => 152 | 4 => 4 | 36 => 237 | 35 => 236 | 41 => 122 | 5 => 5 | 9 => 9 | 53 => 258 | 57 => 262 | 63 => 282 | 64 => 283 | n => n, fun | n => n⟩
theorem Tryz.sortA : Go.Proofs.SlLaysM.n5 Tryz.prog Tryz.sortA_ren := {
  mixed := by kernel_rfl
  f5 := ⟨Tryz.f76.name, by decide, Tryz.func76.trans (congrArg some (by kernel_rfl))⟩
  f7 := ⟨Tryz.f134.name, by decide, Tryz.func134.trans (congrArg some (by kernel_rfl))⟩
  f8 := Tryz.func135.trans (congrArg some (by kernel_rfl))
  f10 := ⟨Tryz.f170.name, by decide, Tryz.func170.trans (congrArg some (by kernel_rfl))⟩
  f11 := ⟨Tryz.f171.name, by decide, Tryz.func171.trans (congrArg some (by kernel_rfl))⟩
  f12 := ⟨Tryz.f172.name, by decide, Tryz.func172.trans (congrArg some (by kernel_rfl))⟩
  f13 := ⟨Tryz.f173.name, by decide, Tryz.func173.trans (congrArg some (by kernel_rfl))⟩
  f14 := ⟨Tryz.f174.name, by decide, Tryz.func174.trans (congrArg some (by kernel_rfl))⟩
  f15 := ⟨Tryz.f175.name, by decide, Tryz.func175.trans (congrArg some (by kernel_rfl))⟩
  f16 := ⟨Tryz.f176.name, by decide, Tryz.func176.trans (congrArg some (by kernel_rfl))⟩
  f17 := ⟨Tryz.f177.name, by decide, Tryz.func177.trans (congrArg some (by kernel_rfl))⟩
  f18 := ⟨Tryz.f178.name, by decide, Tryz.func178.trans (congrArg some (by kernel_rfl))⟩
  f19 := Tryz.func179.trans (congrArg some (by kernel_rfl))
  f20 := Tryz.func180.trans (congrArg some (by kernel_rfl))
  f30 := ⟨Tryz.f201.name, by decide, Tryz.func201.trans (congrArg some (by kernel_rfl))⟩
  f31 := Tryz.func202.trans (congrArg some (by kernel_rfl))
  f32 := Tryz.func203.trans (congrArg some (by kernel_rfl))
  f33 := ⟨Tryz.f204.name, by decide, Tryz.func204.trans (congrArg some (by kernel_rfl))⟩
  f34 := ⟨Tryz.f205.name, by decide, Tryz.func205.trans (congrArg some (by kernel_rfl))⟩
  f35 := ⟨Tryz.f206.name, by decide, Tryz.func206.trans (congrArg some (by kernel_rfl))⟩
  f40 := ⟨Tryz.f225.name, by decide, Tryz.func225.trans (congrArg some (by kernel_rfl))⟩
  t0 := Tryz.underlying0
  a0 := Tryz.isAgg0
  z0 := Tryz.sizeOf0
  v0 := Tryz.zeroValue0
  t3 := Tryz.underlying3
  a3 := Tryz.isAgg3
  z3 := Tryz.sizeOf3
  v3 := Tryz.zeroValue3
  t4 := Tryz.underlying4
  a4 := Tryz.isAgg4
  z4 := Tryz.sizeOf4
  v4 := Tryz.zeroValue4
  t5 := Tryz.underlying5
  a5 := Tryz.isAgg5
  z5 := Tryz.sizeOf5
  v5 := Tryz.zeroValue5
  t9 := Tryz.underlying9
  a9 := Tryz.isAgg9
  z9 := Tryz.sizeOf9
  v9 := Tryz.zeroValue9
  t22 := Tryz.underlying57
  a22 := Tryz.isAgg57
  z22 := Tryz.sizeOf57
  v22 := Tryz.zeroValue57
  t23 := Tryz.underlying57
  a23 := Tryz.isAgg57
  z23 := Tryz.sizeOf57
  v23 := Tryz.zeroValue57
  t25 := Tryz.underlying3
  a25 := Tryz.isAgg3
  z25 := Tryz.sizeOf3
  v25 := Tryz.zeroValue3
  t32 := Tryz.underlying100
  a32 := Tryz.isAgg100
  z32 := Tryz.sizeOf100
  v32 := Tryz.zeroValue100
  t35 := Tryz.underlying236
  a35 := Tryz.isAgg236
  z35 := Tryz.sizeOf236
  v35 := Tryz.zeroValue236
  t36 := Tryz.underlying237
  a36 := Tryz.isAgg237
  z36 := Tryz.sizeOf237
  v36 := Tryz.zeroValue237
  t41 := Tryz.underlying122
  a41 := Tryz.isAgg122
  z41 := Tryz.sizeOf122
  v41 := Tryz.zeroValue122
  t44 := Tryz.underlying244
  a44 := Tryz.isAgg244
  z44 := Tryz.sizeOf244
  v44 := Tryz.zeroValue244
  t46 := Tryz.underlying152
  a46 := Tryz.isAgg152
  z46 := Tryz.sizeOf152
  v46 := Tryz.zeroValue152
  t53 := Tryz.underlying258
  a53 := Tryz.isAgg258
  z53 := Tryz.sizeOf258
  v53 := Tryz.zeroValue258
  t57 := Tryz.underlying262
  a57 := Tryz.isAgg262
  z57 := Tryz.sizeOf262
  v57 := Tryz.zeroValue262
  t63 := Tryz.underlying282
  a63 := Tryz.isAgg282
  z63 := Tryz.sizeOf282
  v63 := Tryz.zeroValue282
  t64 := Tryz.underlying283
  a64 := Tryz.isAgg283
  z64 := Tryz.sizeOf283
  v64 := Tryz.zeroValue283 }

end Go.Proofs

/- Ranges over a function: a round's body, the call of yield, the statement, and how a function leaves that holds one. It holds for every program. -/
namespace Go.GV
open Go

section
variable {P : Program} {r : Option Nat} {ops rest : List Oper} {Q : Exit → Env → World → Prop} {e : Env} {w w0 : World} {S : List Nat} {L : List (Nat × Obj)}
  {dst : Option Tmp} {ty : TypeId} {pos : String} {af : Array Edge} {g : Option (Nat × Bool)} {n : Nat}

/-- A cut ahead of what comes. -/
theorem W_joinK {α : Type} {x : Code} {K : Env → World → Prop} (D : Nat) (live : α → List (Nat × Value)) (I : α → World → Prop) (hD : codeIn D x = true)
    (h : W P r n x (Qthen (fun e' w' => ∃ z, e'.ds = e.ds ∧ agree e' (live z) ∧ I z w') Q) e w)
    (hk : ∀ z j w', I z w' → K (puts (putJ e D j) (live z)) w') : W P r n x (Qthen K Q) e w := by
  refine W_mono x (Qthen_elim (S := Same D e) ?_) (W_frame x _ e w hD (Same.refl _ _) h)
  rintro e' w' hs ⟨z, hd, hl, hI⟩
  have := hk z e'.g w' hI
  rw [← hs.eq hd, env_eq hl] at this
  exact this

/-- What a round hands back, by the way in which its body is left. -/
def Qround (l : Nat) (R : Value → World → Prop) : Exit → Env → World → Prop
  | .normal, _, w => ∃ lo, w.heap[l]? = some (.loop lo) ∧ R (.bool true) (w.putObj l (.loop { lo with state := .ready, pending := none }))
  | .ret, _, w => ∃ lo, w.heap[l]? = some (.loop lo) ∧ R (.bool false) (w.putObj l (.loop { lo with state := .done, pending := some .ret }))
  | .exit id, _, w => ∃ lo, w.heap[l]? = some (.loop lo) ∧ R (.bool false) (w.putObj l (.loop { lo with state := .done, pending := some (.exit id) }))
  | .goto t, _, w => ∃ lo, w.heap[l]? = some (.loop lo) ∧ R (.bool false) (w.putObj l (.loop { lo with state := .done, pending := some (.goto t) }))
  | _, _, _ => False

/-- The left sides, then the body. -/
def Qbegin (P : Program) (l n : Nat) (body : Code) (R : Value → World → Prop) : Exit → Env → World → Prop
  | .normal, e, w => ∃ lo, w.heap[l]? = some (.loop lo) ∧ lo.state = .ready ∧ W P (some l) n body (Qround l R) e (w.putObj l (.loop { lo with state := .busy }))
  | _, _, _ => False

theorem round_of_W {l f : Nat} {tmps : Array Value} {assign body : Code} {R : Value → World → Prop} (e0 : Env) (hs : Sim n e0 { tmps := tmps, defers := [] }) (hfit : (fits n assign && fits n body) = true)
    (h : W P (some l) n assign (Qbegin P l n body R) e0 w) : RoundIn Fence.wide 0 P l f tmps assign body w fun x w' => ∃ v, x = .returned v ∧ R v w' := by
  simp only [Bool.and_eq_true] at hfit
  refine roundIn_of_wpIn trivial ?_
  have h1 := W_sound (r := some l) assign _ e0 w h hfit.1 _ hs
  refine wpIn_mono (F := Fr (some l)) h1 ?_
  rintro x a w1 ⟨e1, hs1, hq⟩
  cases x with
  | normal =>
    obtain ⟨lo, hl, hst, hb⟩ := hq
    refine ⟨_, run_beginRound hl hst, ?_⟩
    refine wpIn_mono (F := Fr (some l)) (W_sound (r := some l) body _ e1 _ hb hfit.2 _ hs1) ?_
    rintro y a2 w2 ⟨e2, _, hq2⟩
    cases y with
    | normal => obtain ⟨lo2, hl2, hR⟩ := hq2; exact ⟨_, _, run_endRound none hl2, _, rfl, hR⟩
    | ret => obtain ⟨lo2, hl2, hR⟩ := hq2; exact ⟨_, _, run_endRound (some .ret) hl2, _, rfl, hR⟩
    | exit id => obtain ⟨lo2, hl2, hR⟩ := hq2; exact ⟨_, _, run_endRound (some (.exit id)) hl2, _, rfl, hR⟩
    | goto t => obtain ⟨lo2, hl2, hR⟩ := hq2; exact ⟨_, _, run_endRound (some (.goto t)) hl2, _, rfl, hR⟩
    | panic c => exact hq2.elim
    | outgrown => exact hq2.elim
  | exit id => exact hq.elim
  | goto t => exact hq.elim
  | ret => exact hq.elim
  | panic c => exact hq.elim
  | outgrown => exact hq.elim

/-- A round with these values. -/
def YieldAt (P : Program) (l : Nat) (vs : List Value) (w : World) (R : Value → World → Prop) : Prop :=
  ∃ fn tmps assign body, (Instr.yield l vs.toArray).run P w = .ok (.round l fn tmps assign body) w ∧ RoundIn Fence.wide 0 P l fn tmps assign body w fun x w' => ∃ v, x = .returned v ∧ R v w'

theorem YieldAt.mono {l : Nat} {vs : List Value} {R R' : Value → World → Prop} (h : YieldAt P l vs w R) (hr : ∀ v w', R v w' → R' v w') : YieldAt P l vs w R' :=
  let ⟨fn, tmps, assign, body, h1, h2⟩ := h
  ⟨fn, tmps, assign, body, h1, RoundIn.mono h2 fun _ _ ⟨v, hx, hR⟩ => ⟨v, hx, hr _ _ hR⟩⟩

/-- yield(..) -/
theorem op_yield {fo : Operand} {l : Nat} {args : Array Operand} {ats : Array TypeId} {vs : List Value} {R : Value → World → Prop} (hg : wants ⟨dst, .call ⟨.value fo, args, ats⟩, ty, pos, af, g⟩ ops e = true)
    (hfo : ev e fo = .func (.yield l) #[] #[]) (hy : YieldAt P l vs w R) (ha : args.toList.map (ev e) = vs) (h : ∀ v w', R v w' → Wops P r ops Q rest (put e dst v) w') :
    Wops P r ops Q (⟨dst, .call ⟨.value fo, args, ats⟩, ty, pos, af, g⟩ :: rest) e w := by
  obtain ⟨fn, tmps, assign, body, hy, hr⟩ := hy
  have hav : args.map (ev e) = vs.toArray := by subst ha; apply Array.ext'; simp only [Array.toList_map]
  unfold Wops
  rw [if_pos hg, Oper.semAt_eq r _ _ (nodef_ne rfl)]
  have hrun : (execOp (ev e) ⟨dst, .call ⟨.value fo, args, ats⟩, ty, pos, af, g⟩).run P w = .ok (.round l fn tmps assign body) w := by
    simp [execOp, resolve, hfo, Deferred.ofValue, invoke, hav, hy]
  rw [hrun]
  exact RoundIn.mono hr fun _ _ ⟨v, hx, hR⟩ => ⟨v, hx, h _ _ hR⟩

/-- A record that is ready answers the values. -/
theorem yield_of {l : Nat} {vs : List Value} {lo : Loop} {R : Value → World → Prop} (hl : w.heap[l]? = some (.loop lo)) (hs : vs.length = lo.params.size)
    (hr : RoundIn Fence.wide 0 P l lo.fn ((lo.params.zip vs.toArray).foldl (fun tmps (t, a) => tmps.setIfInBounds t a) lo.tmps) lo.assign lo.body w fun x w' => ∃ v, x = .returned v ∧ R v w') : YieldAt P l vs w R :=
  ⟨_, _, _, _, run_yield hl (by simpa using hs), hr⟩

/-- The statement, at an outermost one. -/
theorem W_rangeFunc {f : Operand} {ps : Array Tmp} {assign body : Code} {gf : Nat} {ca : Array Value} (hf : ev e f = .func (.func gf) #[] ca) (hc : callable P gf = true)
    (h : ∀ fn tmps, tmps.size = n → (∀ i, tmps.getD i undef = e.g i) → ∀ D l w2, D = w.heap.size → l = w.heap.size + 1 → Ext [] w w2 → w2.heap[D]? = some (.deferred (some [])) →
      w2.heap[l]? = some (.loop { state := .ready, pending := none, fn, tmps, params := ps, assign, body, defers := D }) →
      Ret P gf (#[.func (.yield l) #[] #[]] ++ ca) w2 fun _ w3 => ∃ lo, w3.heap[l]? = some (.loop lo) ∧ lo.state ≠ .busy ∧
        jumped Q ⟨e.g, { target := .collected D, args := #[] } :: e.ds⟩ (w3.putObj l (.loop { lo with state := .exhausted })) lo.pending) : W P none n (.rangeFunc f ps assign body) Q e w := by
  refine ⟨_, rfl, fun fn tmps hn ht => ?_⟩
  have hx1 := Ext.alloc ([] : List Nat) w (.deferred (some []))
  have hx2 := Ext.alloc ([] : List Nat) (w.alloc (.deferred (some []))) (.loop { state := .ready, pending := none, fn, tmps, params := ps, assign, body, defers := w.heap.size })
  have hD : (w.alloc (.deferred (some []))).heap[w.heap.size]? = some (.deferred (some [])) := World.alloc_heap_new w _
  have h1 := h fn tmps hn ht w.heap.size (w.heap.size + 1) _ rfl rfl (hx1.trans hx2) (by rw [hx2.block w.heap.size (by simp) (by simp)]; exact hD)
    (by have := World.alloc_heap_new (w.alloc (.deferred (some []))) (.loop { state := .ready, pending := none, fn, tmps, params := ps, assign, body, defers := w.heap.size }); rwa [World.size_alloc] at this)
  refine ⟨gf, #[], ca, hf, ?_, ?_⟩
  · exact run_callable hc _ _
  · have hsz : (rfWorld none w).heap.size = w.heap.size + 1 := by simp [rfWorld]
    simp only [hsz]
    have harr : #[] ++ #[Value.func (.yield (w.heap.size + 1)) #[] #[]] ++ ca = #[Value.func (.yield (w.heap.size + 1)) #[] #[]] ++ ca := by simp
    rw [harr]
    exact h1

/-! ### Leaving -/
def Marks : List Deferred → World → (World → Prop) → Prop
  | [], w, K => K w
  | d :: ds, w, K => ∃ D, d.target = .collected D ∧ w.heap[D]? = some (.deferred (some [])) ∧ Marks ds (w.putObj D (.deferred none)) K

def QretM (P : Program) (fn : Func) (R : Value → World → Prop) : Exit → Env → World → Prop
  | .normal, e, w | .ret, e, w => Marks e.ds w fun w' => ∀ tmps : Array Value, (∀ i, tmps.getD i undef = e.g i) → ∃ v, (results fn tmps).run P w' = .ok v w' ∧ R v w'
  | _, _, _ => False

theorem marks_leaves {fn : Func} {R : Value → World → Prop} {tmps : Array Value} : ∀ {ds : List Deferred} {w : World}, (Marks ds w fun w' => ∃ v, (results fn tmps).run P w' = .ok v w' ∧ R v w') →
    LeavesInM Fence.wide 0 P fn tmps (fun x w' => ∃ v, x = .returned v ∧ R v w') ds .returning w
  | [], w, ⟨v, h1, h2⟩ => ⟨v, h1, v, rfl, h2⟩
  | d :: ds, w, ⟨D, h1, h2, h3⟩ => ⟨by simp, .inl ⟨D, _, h1, run_takeDeferred h2, marks_leaves h3⟩⟩
theorem Marks.mono : ∀ {ds : List Deferred} {w : World} {K K' : World → Prop}, (∀ w, K w → K' w) → Marks ds w K → Marks ds w K'
  | [], _, _, _, h, hk => h _ hk
  | _ :: _, _, _, _, h, ⟨D, h1, h2, h3⟩ => ⟨D, h1, h2, Marks.mono h h3⟩

theorem ret_of_WM {f : FuncId} {fn : Func} {c : Code} {args : Array Value} {R : Value → World → Prop} (hf : P.funcs[f]? = some fn) (hb : fn.body = some c)
    (l : List Value) (hargs : args = l.toArray) (hfit : (Nat.ble l.length fn.ntmps && fits fn.ntmps c) = true)
    (h : W P none fn.ntmps c (QretM P fn R) ⟨fun i => l.getD i undef, []⟩ w) : Ret P f args w R := by
  simp only [Bool.and_eq_true] at hfit
  refine callsIn_of_wp_marks hf hb trivial ?_
  refine wpIn_mono (W_sound (r := none) c _ _ w h hfit.2 _ ?_) ?_
  · refine ⟨rfl, ?_, fun i => ?_⟩
    · subst hargs
      have := Nat.le_of_ble_eq_true hfit.1
      simp; omega
    · subst hargs
      simp only [Array.getD_eq_getD_getElem?, List.getD_eq_getElem?_getD]
      rw [Array.getElem?_append]
      by_cases hi : i < l.length
      · simp [hi]
      · simp only [List.size_toArray, if_neg hi]
        rw [List.getElem?_eq_none (by omega)]
        rw [Array.getElem?_replicate]
        split <;> rfl
  · rintro x a' w' ⟨e', hs', hq⟩
    have hgo : ∀ w', (Marks e'.ds w' fun w' => ∀ tmps : Array Value, (∀ i, tmps.getD i undef = e'.g i) → ∃ v, (results fn tmps).run P w' = .ok v w' ∧ R v w') →
        LeavesInM Fence.wide 0 P fn a'.tmps (fun x w' => ∃ v, x = .returned v ∧ R v w') a'.defers .returning w' := fun w' hm => by
      rw [hs'.1]
      exact marks_leaves (Marks.mono (fun w hk => hk _ hs'.2.2) hm)
    cases x with
    | normal => exact hgo _ hq
    | ret => exact hgo _ hq
    | exit id => exact hq.elim
    | goto l => exact hq.elim
    | panic c => exact hq.elim
    | outgrown => exact hq.elim

end
end Go.GV

/- The keys of a map, rising; the blocks of a device that have loose things. -/
namespace Go.Proofs.YtbkadlngijkmmaaGreatDoor
open Go.GV Go.Maps Go.Sort Go.Shelf Go.RowKit
attribute [local irreducible] Wops W Wq Wt

def keysOf (m : List (Int × Value)) : List Int := (m.map (·.1)).mergeSort fun x y => decide (x ≤ y)

theorem keysOf_mem {m : List (Int × Value)} {k : Int} (h : k ∈ keysOf m) : ∃ v, mget m k = some v := by
  have h1 : k ∈ m.map (·.1) := ((List.mergeSort_perm _ _).mem_iff).1 h
  clear h
  induction m with
  | nil => cases h1
  | cons p m ih =>
    by_cases hp : p.1 = k
    · exact ⟨p.2, by simp [mget, hp]⟩
    · have h2 : k ∈ m.map (·.1) := by
        rcases List.mem_cons.1 h1 with h | h
        · exact absurd h.symm hp
        · exact h
      obtain ⟨v, hv⟩ := ih h2
      exact ⟨v, by simpa [mget, hp] using hv⟩
end Go.Proofs.YtbkadlngijkmmaaGreatDoor

/- A device's flush. -/
namespace Go.Proofs.YtbkadlngijkmmaaGreatDoor
open Go.GV
attribute [local irreducible] Wops W Wq Wt

/-- What the rounds leave in the array. -/
def laid (f : Nat → Value) (sv : List Value) (ks : List Int) : List Value := ks.foldl (fun s k => s.set k.toNat (f k.toNat)) sv
end Go.Proofs.YtbkadlngijkmmaaGreatDoor

/- A device's flush: the rounds. -/
namespace Go.Proofs.YtbkadlngijkmmaaGreatDoor
open Go.GV
attribute [local irreducible] Wops W Wq Wt

theorem DevR.keep {w w' : World} {bd : Nat} {A : Dev} {role : Nat → Nat} {bs bm : Nat} {sv : List Value} {m : List (Int × Value)} {o : Obj} (D : DevR w bd A role bs bm sv m o) {S : List Nat} (hx : Ext S w w') (hS' : ∀ x ∈ S, role x = 0) : DevR w' bd A role bs bm sv m o := by
  have hb : ∀ {b : Nat} {o : Obj}, w.heap[b]? = some o → role b ≠ 0 → w'.heap[b]? = some o := fun {b o} h1 h2 => by
    rw [hx.block b (heap_lt h1) fun h => h2 (hS' b h)]; exact h1
  refine ⟨fun x h => Nat.lt_of_lt_of_le (D.lt x h) hx.size, D.rd, D.rs, D.rm, hb D.hd (by rw [D.rd]; decide), hb D.hs (by rw [D.rs]; decide), hb D.hm (by rw [D.rm]; decide), D.hM, D.nd, D.keys, D.len, fun i p hp => ?_, D.wf⟩
  obtain ⟨⟨v, h1, h2⟩, h3, h4⟩ := D.part i p hp
  exact ⟨⟨v, h1, h2.keep hx (fun x h => by rw [hS' x h]; decide) fun _ h => h⟩, h3.keep hx (fun x h => by rw [hS' x h]; omega) (fun _ h => h) (fun _ h => h), h4⟩
theorem DevR.keep0 {w w' : World} {bd : Nat} {A : Dev} {role : Nat → Nat} {bs bm : Nat} {sv : List Value} {m : List (Int × Value)} {o : Obj} (D : DevR w bd A role bs bm sv m o) (hx : Ext [] w w') : DevR w' bd A role bs bm sv m o := D.keep hx (by simp)

theorem pigeon : ∀ (n : Nat) (l : List Nat), l.Nodup → (∀ x ∈ l, x < n) → l.length ≤ n
  | 0, l, _, h => by
    cases l with
    | nil => exact Nat.le_refl _
    | cons x l => exact absurd (h x (by simp)) (Nat.not_lt_zero _)
  | n + 1, l, hd, h => by
    have h1 := pigeon n (l.filter (· != n)) (hd.filter _) (fun x hx => by
      have := h x (List.mem_filter.1 hx).1
      have h2 := (List.mem_filter.1 hx).2
      simp at h2; omega)
    have h2 : l.length = (l.filter (· != n)).length + l.count n := by
      clear hd h h1
      induction l with
      | nil => rfl
      | cons x l ih =>
        rw [List.count_cons, List.filter_cons]
        by_cases hx : x = n
        · subst hx; simp; omega
        · simp [hx]; omega
    have h3 : l.count n ≤ 1 := List.nodup_iff_count.1 hd n
    omega

theorem DevR.bound {w : World} {bd : Nat} {A : Dev} {role : Nat → Nat} {bs bm : Nat} {sv : List Value} {m : List (Int × Value)} {o : Obj} (D : DevR w bd A role bs bm sv m o) : ∀ p ∈ m, 0 ≤ p.1 ∧ p.1 < A.B.length := by
  intro p hp
  have h : ∃ v, mget m p.1 = some v := by
    have hm : p.1 ∈ keysOf m := (List.mergeSort_perm _ _).mem_iff.2 (List.mem_map.2 ⟨p, hp, rfl⟩)
    exact keysOf_mem hm
  obtain ⟨v, hv⟩ := h
  obtain ⟨i, h1, h2⟩ := D.keys _ v hv
  omega
theorem DevR.few {w : World} {bd : Nat} {A : Dev} {role : Nat → Nat} {bs bm : Nat} {sv : List Value} {m : List (Int × Value)} {o : Obj} (D : DevR w bd A role bs bm sv m o) : m.length ≤ A.B.length := by
  have h := pigeon A.B.length (m.map fun p => p.1.toNat) (by
    have nd := D.nd
    rw [List.nodup_iff_pairwise_ne, List.pairwise_map] at nd ⊢
    refine nd.imp_of_mem fun {a b} ha hb hab he => hab ?_
    have := D.bound a ha; have := D.bound b hb
    omega) (fun x hx => by
    obtain ⟨p, hp, rfl⟩ := List.mem_map.1 hx
    have := D.bound p hp
    omega)
  simpa using h

end Go.Proofs.YtbkadlngijkmmaaGreatDoor

/- A device's flush. -/
namespace Go.Proofs.YtbkadlngijkmmaaGreatDoor
open Go.GV
attribute [local irreducible] Wops W Wq Wt

theorem sim_two {n a b : Nat} {tmps : Array Value} {g : Nat → Value} {x y : Value} (hts : tmps.size = n) (htm : ∀ i, tmps.getD i undef = g i) (ha : a < n) (hb : b < n) :
    Sim n (put (put ⟨g, []⟩ (some a) x) (some b) y) { tmps := ((#[a, b] : Array Tmp).zip [x, y].toArray).foldl (fun tmps (t, v) => tmps.setIfInBounds t v) tmps, defers := [] } := by
  have h1 : Sim n ⟨g, []⟩ { tmps := tmps, defers := [] } := ⟨rfl, hts, htm⟩
  have h2 := Sim.put (Sim.put h1 (some a) x (by rintro _ ⟨⟩; exact ha)) (some b) y (by rintro _ ⟨⟩; exact hb)
  simpa [Act.put] using h2

theorem begin_of {P : Program} {l n : Nat} {body : Code} {R : Value → World → Prop} {e : Env} {w : World} {lo : Loop} (h1 : w.heap[l]? = some (.loop lo)) (hst : lo.state = .ready)
    (h : ∀ wR lo2, Ext [l] w wR → wR.heap[l]? = some (.loop lo2) → lo2 = { lo with state := .busy } → W P (some l) n body (Qround l R) e wR) : Qbegin P l n body R .normal e w :=
  ⟨lo, h1, hst, h _ _ (Ext.setB w l _) (setB_same h1) rfl⟩
theorem round_end {l : Nat} {R : Value → World → Prop} {e : Env} {w : World} {lo lo2 : Loop} (h1 : w.heap[l]? = some (.loop lo2)) (h2 : lo2 = { lo with state := .busy }) (hst : lo.state = .ready) (hp : lo.pending = none)
    (h : ∀ wF, Ext [l] w wF → wF.heap[l]? = some (.loop lo) → R (.bool true) wF) : Qround l R .normal e w := by
  refine ⟨lo2, h1, h _ (Ext.setB w l _) ?_⟩
  have : ({ lo2 with state := .ready, pending := none } : Loop) = lo := by
    subst h2
    cases lo
    simp_all
  rw [setB_same h1, this]

theorem jumped_none {Q : Exit → Env → World → Prop} {e : Env} {w : World} {j : Option Code} (hj : j = none) (h : Q .normal e w) : jumped Q e w j := by subst hj; exact h
end Go.Proofs.YtbkadlngijkmmaaGreatDoor

/- What is kept of what was loose, block by block. -/
namespace Go.Proofs.YtbkadlngijkmmaaGreatDoor
open Go.GV

theorem drop_cons {α : Type} {l : List α} {i : Nat} {p : α} (h : l[i]? = some p) : l.drop i = p :: l.drop (i + 1) := by
  obtain ⟨hi, rfl⟩ := List.getElem?_eq_some_iff.1 h
  exact List.drop_eq_getElem_cons hi
def cntL (B : List (Byt × List Byt)) : Nat := B.countP fun p => !p.2.isEmpty
def keepI (B : List (Byt × List Byt)) (picks : List Int) (i : Nat) : List (Byt × List Byt) := keepB (B.take i) picks ++ B.drop i
end Go.Proofs.YtbkadlngijkmmaaGreatDoor

/- A device comes on again. -/
namespace Go.Proofs.YtbkadlngijkmmaaGreatDoor
open Go.GV
attribute [local irreducible] Wops W Wq Wt

/-! ### Which pick is whose -/
/-- The blocks that have something loose, rising. -/
def looseL (B : List (Byt × List Byt)) : List Nat := (List.range B.length).filter fun i => !(B.getD i ([], [])).2.isEmpty
/-- What is laid of each. -/
theorem DevR.picked {w : World} {bd : Nat} {A : Dev} {role : Nat → Nat} {bs bm : Nat} {sv : List Value} {m : List (Int × Value)} {o : Obj} (D : DevR w bd A role bs bm sv m o) (x : Nat → Nat) :
    ∃ f : Nat → Value, ∀ i p, A.B[i]? = some p → p.2 ≠ [] → x i ≤ p.2.length → SureAt w role (f i) (kept p (x i)) ∧ (x i = 0 → sv[i]? = some (f i)) ∧ (0 < x i → BytesAt w role (f i) (kept p (x i)) ∧ ∃ al n c fl vs, mget m (i : Int) = some (.slice al n c) ∧ OS al n c 1 fl vs ∧ n = p.2.length ∧ (∀ y ∈ ent al 23 fl, w.heap[y.1]? = some y.2 ∧ role y.1 = 5 + i) ∧ vs[x i - 1]? = some (f i)) := by
  have h : ∀ i : Nat, ∃ v, ∀ p, A.B[i]? = some p → p.2 ≠ [] → x i ≤ p.2.length → SureAt w role v (kept p (x i)) ∧ (x i = 0 → sv[i]? = some v) ∧ (0 < x i → BytesAt w role v (kept p (x i)) ∧ ∃ al n c fl vs, mget m (i : Int) = some (.slice al n c) ∧ OS al n c 1 fl vs ∧ n = p.2.length ∧ (∀ y ∈ ent al 23 fl, w.heap[y.1]? = some y.2 ∧ role y.1 = 5 + i) ∧ vs[x i - 1]? = some v) := fun i => by
    by_cases hp : ∃ p, A.B[i]? = some p ∧ p.2 ≠ [] ∧ x i ≤ p.2.length
    · obtain ⟨p, hp, hne, hx⟩ := hp
      obtain ⟨⟨sv0, hs0, hs1⟩, ⟨al, n, c, fl, vs, hv, O, hent, hvs⟩, hiff⟩ := D.part i p hp
      by_cases h0 : x i = 0
      · refine ⟨sv0, fun p' hp' _ _ => ?_⟩
        rw [hp] at hp'
        cases hp'
        exact ⟨by rw [h0]; exact hs1, fun _ => hs0, fun h => absurd h (by omega)⟩
      · have hn : n = vs.length := by have := O.llen; omega
        have hvl := hvs.1
        obtain ⟨b, hb⟩ := get_some (l := p.2) (i := x i - 1) (by omega)
        obtain ⟨v, hvv⟩ := get_some (l := vs) (i := x i - 1) (by omega)
        have hst : kept p (x i) = b := by
          rw [kept, if_neg h0, List.getD_eq_getElem?_getD, hb]; rfl
        refine ⟨v, fun p' hp' _ _ => ?_⟩
        rw [hp] at hp'
        cases hp'
        have hB : BytesAt w role v (kept p (x i)) := by rw [hst]; exact hvs.2 _ _ _ hvv hb
        refine ⟨.inr hB, fun h => absurd h h0, fun _ => ⟨hB, al, n, c, fl, vs, ?_, O, by omega, hent, hvv⟩⟩
        obtain ⟨u, hu⟩ := Option.isSome_iff_exists.1 (hiff.2 hne)
        rw [hu] at hv ⊢
        rw [← hv]; rfl
    · exact ⟨.nilFunc, fun p h1 h2 h3 => absurd ⟨p, h1, h2, h3⟩ hp⟩
  exact ⟨fun i => Classical.choose (h i), fun i => Classical.choose_spec (h i)⟩


end Go.Proofs.YtbkadlngijkmmaaGreatDoor

/- A device of one's own. -/
namespace Go.Proofs.YtbkadlngijkmmaaGreatDoor
open Go.GV
attribute [local irreducible] Wops W Wq Wt

/-- A device that was made since the world w0. -/
structure Own (w0 w : World) (bd : Nat) (A : Dev) (F : Nat → Prop) : Prop where
  ext : Ext [] w0 w
  dev : DevAt w bd A F
  own : ∀ x, F x → w0.heap.size ≤ x ∧ x < w.heap.size

/-- What may be turned behind. -/
def Grown (F F' : Nat → Prop) (w w' : World) : Prop := Turn F w w' ∧ ∀ x, F' x → F x ∨ w.heap.size ≤ x

theorem Turn.new {F : Nat → Prop} {w0 w w' : World} (h : Turn F w w') (hx : Ext [] w0 w) (hF : ∀ x, F x → w0.heap.size ≤ x) : Ext [] w0 w' :=
  let ⟨_, hS, h⟩ := h; hx.then h fun x hx => .inr (hF x (hS x hx))
theorem Own.grow {w0 w w' : World} {bd : Nat} {A A' : Dev} {F : Nat → Prop} (O : Own w0 w bd A F) (h : DevAt w' bd A' (grow F w w')) (t : Turn F w w') : Own w0 w' bd A' (grow F w w') ∧ Grown F (grow F w w') w w' :=
  ⟨⟨t.new O.ext fun x h => (O.own x h).1, h, fun x hx => by
    have h1 := t.size; have h2 := O.ext.size
    rcases hx with hx | hx
    · have := O.own x hx; omega
    · omega⟩, t, fun x hx => hx.elim .inl fun h => .inr h.1⟩
theorem Own.same {w0 w w' : World} {bd : Nat} {A A' : Dev} {F : Nat → Prop} (O : Own w0 w bd A F) (h : DevAt w' bd A' F) (t : Turn F w w') : Own w0 w' bd A' F ∧ Grown F F w w' :=
  ⟨⟨t.new O.ext fun x h => (O.own x h).1, h, fun x hx => by have h1 := t.size; have := O.own x hx; omega⟩, t, fun x hx => .inl hx⟩
theorem Own.call {w0 w w' : World} {bd : Nat} {A : Dev} {F : Nat → Prop} (O : Own w0 w bd A F) (hx : Ext [] w w') : Own w0 w' bd A F :=
  ⟨O.ext.trans hx, O.dev.keep0 hx, fun x h => by have := O.own x h; have := hx.size; omega⟩

/-- Bytes that lie elsewhere. -/
def Rdx (w : World) (F : Nat → Prop) (a : Option Addr) (l : Byt) : Prop := Rd w a 1 B8 l ∧ (l = [] ∨ ¬ F (adr a).block)
theorem Rd.lt8 {w : World} {a : Option Addr} {l : Byt} (R : Rd w a 1 B8 l) : l = [] ∨ (adr a).block < w.heap.size := by
  cases l with
  | nil => exact .inl rfl
  | cons x l =>
    have h9 := World.block_lt_of_cell? w ⟨(adr a).block, _, none⟩ (R.cell 0 x rfl 0 _ rfl (by decide))
    exact .inr h9
theorem Rdx.turn {w w' : World} {F F' : Nat → Prop} {a : Option Addr} {l : Byt} (h : Rdx w F a l) (t : Grown F F' w w') : Rdx w' F' a l := by
  obtain ⟨R, hn⟩ := h
  rcases hn with rfl | hn
  · exact ⟨Rd.nil, .inl rfl⟩
  · obtain ⟨⟨S, hS, hx⟩, hF⟩ := t
    refine ⟨R.ext hx fun h => hn (hS _ h), ?_⟩
    rcases Rd.lt8 R with h1 | h1
    · exact .inl h1
    · exact .inr fun h => (hF _ h).elim hn fun h => by omega
theorem Rdx.call {w w' : World} {F : Nat → Prop} {a : Option Addr} {l : Byt} (h : Rdx w F a l) (hx : Ext [] w w') : Rdx w' F a l := ⟨h.1.ext0 hx, h.2⟩
theorem Own.old {w0 w : World} {bd : Nat} {A : Dev} {F : Nat → Prop} {a : Option Addr} {l : Byt} (O : Own w0 w bd A F) (R : Rd w0 a 1 B8 l) : Rdx w F a l :=
  ⟨R.ext0 O.ext, (Rd.lt8 R).imp id fun h hF => by have := O.own _ hF; omega⟩

/-! ### What is done to it -/
end Go.Proofs.YtbkadlngijkmmaaGreatDoor

/- Bytes in order: internal/bytealg.Compare, and strings that are compared. It holds for every program. -/
namespace Go.GV
open Go

theorem less_cmp : ∀ a b : List UInt8, Op.bytesLess a b = decide (Lib.compareBytes a b = -1)
  | [], [] => rfl
  | [], _ :: _ => rfl
  | _ :: _, [] => rfl
  | x :: a, y :: b => by
    have ih := less_cmp a b
    unfold Op.bytesLess Lib.compareBytes
    by_cases h : x < y
    · simp [h]
    · by_cases h2 : y < x
      · have hne : ¬ x = y := fun e => by subst e; exact UInt8.lt_irrefl x h2
        simp [h, h2, hne]
      · have he : x = y := UInt8.le_antisymm (UInt8.not_lt.1 h2) (UInt8.not_lt.1 h)
        subst he
        simp [ih]

section
variable {P : Program} {r : Option Nat} {ops rest : List Oper} {Q : Exit → Env → World → Prop} {e : Env} {w w0 : World} {S : List Nat} {L : List (Nat × Obj)}
  {dst : Option Tmp} {ty : TypeId} {pos : String} {af : Array Edge} {g : Option (Nat × Bool)} {C : World → Prop} {K : Env → Prop}

theorem run_loadBytes {w : World} {b : Nat} {l : List UInt8} : ∀ (o : Nat) (acc : List UInt8), (∀ j x, l[j]? = some x → w.cell? ⟨b, o + j, none⟩ = some (bv x)) →
    (Extern.Bytes.loadBytes ⟨b, o, none⟩ l.length ⟨acc.toArray⟩).run P w = .ok ⟨(acc ++ l).toArray⟩ w := by
  induction l with
  | nil => intro o acc _; simp [Extern.Bytes.loadBytes]
  | cons x l ih =>
    intro o acc h
    have h0 := h 0 x rfl
    have hl : (load ⟨b, o, none⟩ : Sem Value).run P w = .ok (bv x) w := by
      rw [run_load]
      rw [Nat.add_zero] at h0
      rw [h0]
    rw [List.length_cons]
    unfold Extern.Bytes.loadBytes
    rw [Sem.run_bind, hl, Result.andThen_ok]
    simp only [bv]
    have hx : ((x.toNat : Int).toNat).toUInt8 = x := by simp
    have hp : (ByteArray.push ⟨acc.toArray⟩ x) = ⟨(acc ++ [x]).toArray⟩ := by simp [ByteArray.push]
    rw [hx, hp]
    have h2 := ih (o + 1) (acc ++ [x]) (fun j y hj => by
      have := h (j + 1) y (by simpa using hj)
      rw [show o + 1 + j = o + (j + 1) by omega]; exact this)
    rw [List.append_assoc, List.singleton_append] at h2
    exact h2
theorem run_bytesOf {w : World} {a : Option Addr} {c : Nat} {l : List UInt8} (R : Rd w a 1 B8 l) : (Extern.Bytes.bytesOf (.slice a l.length c)).run P w = .ok ⟨l.toArray⟩ w := by
  cases a with
  | none =>
    have h0 : l = [] := by
      cases l with
      | nil => rfl
      | cons x l => obtain ⟨b, o, h⟩ := R.some' (by simp); cases h
    subst h0
    rfl
  | some p =>
    cases l with
    | nil => rfl
    | cons x l =>
      obtain ⟨b, o, hp⟩ := R.some' (by simp)
      injection hp with hp
      subst hp
      have h := run_loadBytes (P := P) (w := w) (b := b) (l := x :: l) o [] (fun j y hj => by
        have := Rd.one (f := bv) R hj
        simpa [adr] using this)
      exact h
theorem run_cmpBytes {w : World} {a b : Option Addr} {c d : Nat} {l m : List UInt8} (R : Rd w a 1 B8 l) (R2 : Rd w b 1 B8 m) :
    (Extern.BytealgCompare.compare #[.slice a l.length c, .slice b m.length d]).run P w = .ok (.int .i64 (Lib.compareBytes l m)) w := by
  change Sem.run P (do pure (goInt (Extern.BytealgCompare.cmp (← Extern.Bytes.bytesOf (.slice a l.length c)) (← Extern.Bytes.bytesOf (.slice b m.length d))))) w = _
  rw [Sem.run_bind, run_bytesOf R, Result.andThen_ok, Sem.run_bind, run_bytesOf R2, Result.andThen_ok, Sem.run_pure, Lib.cmp_eq]
  rfl
/-- A call of a function without a body. -/
theorem op_extern {f : FuncId} {args : Array Operand} {ats : Array TypeId} {l : List Value} {v : Value} (hg : wants ⟨dst, .call ⟨.value (.func f), args, ats⟩, ty, pos, af, g⟩ ops e = true)
    (hc : (callFunc f l.toArray).run P w = .ok (.value v) w) (ha : args.toList.map (ev e) = l) (h : Wops P r ops Q rest (put e dst v) w) :
    Wops P r ops Q (⟨dst, .call ⟨.value (.func f), args, ats⟩, ty, pos, af, g⟩ :: rest) e w := by
  have : args.map (ev e) = l.toArray := by subst ha; apply Array.ext'; simp only [Array.toList_map]
  exact op_val hg rfl (by simp [execOp, resolve, ev, Deferred.ofValue, invoke, this, hc]) h

/-- append(nil, make(..)...): what slices.Grow does of nil. -/
theorem op_growz {t tn el : TypeId} {kn : IntKind} {x y : Operand} {s by' k : Nat} {zl : List Value} (hg : wants ⟨dst, .call ⟨.builtin .append, #[x, y], #[t, tn]⟩, ty, pos, af, g⟩ ops e = true) (hu : elemT P t = some el) (hn : P.underlying tn = some (.int kn))
    (hs : tsize P el = some s) (hby : tbytes P el = some by') (hz : zcells P el = some zl) (hzl : zl.length = s) (hs0 : 0 < s) (hx : ev e x = .slice none 0 0) (hy : ev e y = .int .i64 (k : Int)) (h0 : 0 < k) (hm : k * by' ≤ 140737488355328) (h63 : k ≤ 4611686018427387904) (H : Ctx w0 S w L)
    (h : ∀ b c full w', Ctx w0 S w' ((b, Bl el full) :: L) → OS (some ⟨b, 0, none⟩) 0 c s full [] → k ≤ c → Wops P r ops Q rest (put e dst (.slice (some ⟨b, 0, none⟩) k c)) w') :
    Wops P r ops Q (⟨dst, .call ⟨.builtin .append, #[x, y], #[t, tn]⟩, ty, pos, af, g⟩ :: rest) e w := by
  obtain ⟨i, hi⟩ : ∃ i, P.info? el = some i := by
    unfold tsize at hs
    cases hi : P.info? el with
    | none => rw [hi] at hs; cases hs
    | some i => exact ⟨i, rfl⟩
  have hsz : i.size = s := by unfold tsize at hs; rw [hi] at hs; exact Option.some.inj hs
  have hbz : i.bytes = by' := by unfold tbytes at hby; rw [hi] at hby; exact Option.some.inj hby
  obtain ⟨z, hz0, hz1⟩ : ∃ z, i.zero = some z ∧ z.cells.toList = zl := by
    unfold zcells at hz
    rw [hi] at hz
    simp only [Option.bind_some] at hz
    cases hz0 : i.zero with
    | none => rw [hz0] at hz; cases hz
    | some z => rw [hz0] at hz; exact ⟨z, rfl, Option.some.inj hz⟩
  have hzs : z.cells.size = s := by rw [← hzl, ← hz1]; simp
  have hr := Lib.run_append_grow_zeros (P := P) w t tn ty el i z .i64 kn (elemT_u hu) hn hi hz0 none 0 0 [] (run_firstCells_none ..) k h0 (by omega) (by omega) (by omega) (by rw [hbz]; omega) (growslice_fits (by omega) (by rw [hbz, Nat.zero_add]; exact hm))
  rw [Nat.zero_add] at hr
  obtain ⟨G, hG⟩ : ∃ G, G = grownCap w k 0 el := ⟨_, rfl⟩
  have hGk : k ≤ G := by rw [hG]; exact grownCap_ge w _ _ _
  rw [← hG] at hr
  obtain ⟨full, hf⟩ : ∃ full : List Value, full = (#[] ++ Builtin.zeroCells z.cells k ++ Builtin.zeroCells z.cells (G - k)).toList := ⟨_, rfl⟩
  have hlen : full.length = G * s := by
    have h1 : (Builtin.zeroCells z.cells k).size = k * s := by simp [Builtin.zeroCells, hzs]
    have h2 : (Builtin.zeroCells z.cells (G - k)).size = (G - k) * s := by simp [Builtin.zeroCells, hzs]
    rw [hf, Array.length_toList, Array.size_append, Array.size_append, h1, h2]
    simp only [Array.size_empty, Nat.zero_add]
    rw [← Nat.add_mul]
    congr 1
    omega
  have hB : (Obj.cells (#[] ++ Builtin.zeroCells z.cells k ++ Builtin.zeroCells z.cells (G - k)) el (0, 0)) = Bl el full := by rw [Bl, hf]
  have hr2 : (Builtin.append_ #[t, tn] ty #[.slice none 0 0, .int .i64 k]).run P w = .ok (.slice (some ⟨w.heap.size, 0, none⟩) k G) (w.drew.alloc (Bl el full)) := by rw [← hB]; exact hr
  refine op_val (w' := w.drew.alloc (Bl el full)) (v := .slice (some ⟨w.heap.size, 0, none⟩) k G) hg rfl ?_ (h w.heap.size G full _ (H.drew.alloc _) ⟨fun p hp => (by cases hp; rfl), fun hh => (by cases hh), hlen, Nat.zero_le _, (by rw [Nat.zero_mul, List.take_zero])⟩ hGk)
  simp [execOp, resolve, invoke, builtin, hx, hy, hr2]

/-! ### Strings -/
theorem q_strge {t t2 : TypeId} {x y : Operand} {l m : List UInt8} (hg : wants ⟨dst, .binOp .geq t x y t2, ty, pos, af, g⟩ ops e = true) (hx : ev e x = str l) (hy : ev e y = str m)
    (h : Wq P ops C K rest (put e dst (.bool (!decide (Lib.compareBytes l m = -1))))) : Wq P ops C K (⟨dst, .binOp .geq t x y t2, ty, pos, af, g⟩ :: rest) e :=
  q_val hg (fun w _ => by
    have hq : eqGuard .geq t x y (.string ⟨l.toArray⟩) (.string ⟨m.toArray⟩) = pure () := rfl
    simp only [execOp, hx, hy, hq, Sem.run_bind, Sem.run_pure, Result.andThen_ok, binOp, str, Op.stringOp, ByteArray.toList_eq, less_cmp]) h
end
end Go.GV

/- Results that lie in blocks, beside others. It holds for every program. -/
namespace Go.GV
open Go
section
variable {P : Program} {e : Env} {w w0 : World} {S : List Nat} {L : List (Nat × Obj)} {fn : Func} {R : Value → World → Prop}
theorem leave2c {a s2 : Tmp} {t : TypeId} {p : Addr} {v v2 : Value} (hr : fn.results = #[.cell a t, .tmp s2]) (hd : e.ds = []) (ha : e.g a = .pointer (some p)) (hv : (loadVar t p).run P w = .ok v w) (h2 : e.g s2 = v2) (h : R (.tuple #[v, v2]) w) : Qret P fn R .ret e w :=
  ⟨hd, fun tmps ht => by
    have h1 := (ht a).trans ha
    have g2 := (ht s2).trans h2
    rw [Array.getD_eq_getD_getElem?] at h1 g2
    exact ⟨.tuple #[v, v2], by simp [results, hr, h1, g2, asAddr, hv], h⟩⟩
theorem leave3c {a s2 s3 : Tmp} {t : TypeId} {p : Addr} {v v2 v3 : Value} (hr : fn.results = #[.cell a t, .tmp s2, .tmp s3]) (hd : e.ds = []) (ha : e.g a = .pointer (some p)) (hv : (loadVar t p).run P w = .ok v w) (h2 : e.g s2 = v2) (h3 : e.g s3 = v3) (h : R (.tuple #[v, v2, v3]) w) : Qret P fn R .ret e w :=
  ⟨hd, fun tmps ht => by
    have h1 := (ht a).trans ha
    have g2 := (ht s2).trans h2
    have g3 := (ht s3).trans h3
    rw [Array.getD_eq_getD_getElem?] at h1 g2 g3
    exact ⟨.tuple #[v, v2, v3], by simp [results, hr, h1, g2, g3, asAddr, hv], h⟩⟩
theorem leave2b {a s2 : Tmp} {t t2 : TypeId} {b k s : Nat} {l : List Value} {v2 : Value} (hr : fn.results = #[.cell a t, .tmp s2]) (hd : e.ds = []) (ha : e.g a = .pointer (some ⟨b, 0, none⟩)) (hag : aggB P t = some true) (hs : tsize P t = some s)
    (H : Ctx w0 S w L) (hk : L[k]? = some (b, Bl t2 l)) (hl : l.length = s) (h2 : e.g s2 = v2) (h : R (.tuple #[.agg l.toArray, v2]) w) : Qret P fn R .ret e w :=
  leave2c hr hd ha (run_loadN hag hs hl (fun j v hv => by rw [cell_bl (H.get hk), Nat.zero_add]; exact hv)) h2 h
theorem leave3b {a s2 s3 : Tmp} {t t2 : TypeId} {b k s : Nat} {l : List Value} {v2 v3 : Value} (hr : fn.results = #[.cell a t, .tmp s2, .tmp s3]) (hd : e.ds = []) (ha : e.g a = .pointer (some ⟨b, 0, none⟩)) (hag : aggB P t = some true) (hs : tsize P t = some s)
    (H : Ctx w0 S w L) (hk : L[k]? = some (b, Bl t2 l)) (hl : l.length = s) (h2 : e.g s2 = v2) (h3 : e.g s3 = v3) (h : R (.tuple #[.agg l.toArray, v2, v3]) w) : Qret P fn R .ret e w :=
  leave3c hr hd ha (run_loadN hag hs hl (fun j v hv => by rw [cell_bl (H.get hk), Nat.zero_add]; exact hv)) h2 h3 h
end
section
variable {P : Program} {ops rest : List Oper} {e : Env} {dst : Option Tmp} {ty : TypeId} {pos : String} {af : Array Edge} {g : Option (Nat × Bool)} {C : World → Prop} {K : Env → Prop}
theorem t_buildS {t : TypeId} {parts : Array (Nat × Operand)} {pl : List (Nat × Nat)} {zl : List Value} (l : List Value) (hg : wants ⟨dst, .build t parts, ty, pos, af, g⟩ ops e = true) (hp : placesB P t = some pl) (hz : zcells P t = some zl)
    (hl : Instr.fill (fun i => pl.toArray[i]?) zl.toArray (parts.toList.map fun p => (p.1, ev e p.2)) = some l.toArray) (h : Wt P ops C K rest (put e dst (.agg l.toArray))) :
    Wt P ops C K (⟨dst, .build t parts, ty, pos, af, g⟩ :: rest) e := by
  refine t_val hg (fun w _ => ?_) h
  have hb : P.built t (parts.map fun (i, x) => (i, ev e x)).toList = some l.toArray := built_of hp hz (by rw [Array.toList_map]; exact hl)
  simp [execOp, run_build w t _ _ hb]
end
end Go.GV
