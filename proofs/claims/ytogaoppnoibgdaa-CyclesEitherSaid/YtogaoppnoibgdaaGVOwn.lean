/- Calls; slices that a call makes, cuts, appends to. It holds for every program. -/
import Derived.Test.YtogaoppnoibgdaaGVOps
namespace Go.GV
open Go

def callable (P : Program) (f : FuncId) : Bool :=
  match P.funcs[f]? with
  | some fn => !(fn.name == "runtime.NumGoroutine") && fn.body.isSome
  | none => false

theorem run_callable {P : Program} {f : FuncId} (h : callable P f = true) (args : Array Value) (w : World) : (callFunc f args).run P w = .ok (.enter f args) w := by
  unfold callable at h
  cases hf : P.funcs[f]? with
  | none => rw [hf] at h; cases h
  | some fn =>
    rw [hf] at h
    simp only [Bool.and_eq_true, Bool.not_eq_true'] at h
    have h1 : fn.name ≠ "runtime.NumGoroutine" := by simpa using h.1
    cases hb : fn.body with
    | none => rw [hb] at h; cases h.2
    | some c => simp [callFunc, program, Sem.run, hf, h1, hb]

section
variable {P : Program} {r : Option Nat} {ops rest : List Oper} {Q : Exit → Env → World → Prop} {e : Env} {w w0 : World} {S : List Nat} {L : List (Nat × Obj)}
  {dst : Option Tmp} {ty : TypeId} {pos : String} {af : Array Edge} {g : Option (Nat × Bool)}

theorem op_enter {o : Oper} {f : FuncId} {args : Array Value} {w' : World} {R : Value → World → Prop} (hg : wants o ops e = true) (hd : nodef o.op = true) (hrun : (execOp (ev e) o).run P w = .ok (.enter f args) w')
    (hc : Ret P f args w' R) (h : ∀ v w'', R v w'' → Wops P r ops Q rest (put e o.dst v) w'') : Wops P r ops Q (o :: rest) e w := by
  unfold Wops
  rw [if_pos hg, Oper.semAt_eq r _ _ (nodef_ne hd), hrun]
  exact Ret.mono hc h

/-- A call of a function by its name. -/
theorem op_call {f : FuncId} {args : Array Operand} {ats : Array TypeId} {l : List Value} {R : Value → World → Prop} (hg : wants ⟨dst, .call ⟨.value (.func f), args, ats⟩, ty, pos, af, g⟩ ops e = true) (hf : callable P f = true)
    (hc : Ret P f l.toArray w R) (ha : args.toList.map (ev e) = l) (h : ∀ v w', R v w' → Wops P r ops Q rest (put e dst v) w') :
    Wops P r ops Q (⟨dst, .call ⟨.value (.func f), args, ats⟩, ty, pos, af, g⟩ :: rest) e w := by
  refine op_enter (R := R) hg rfl ?_ hc h
  have : args.map (ev e) = l.toArray := by subst ha; apply Array.ext'; simp only [Array.toList_map]
  simp [execOp, resolve, ev, Deferred.ofValue, invoke, this, run_callable hf]
/-- A call of a function value. -/
theorem op_calld {f : FuncId} {fo : Operand} {fi ca : Array Value} {args : Array Operand} {ats : Array TypeId} {l : List Value} {R : Value → World → Prop} (hg : wants ⟨dst, .call ⟨.value fo, args, ats⟩, ty, pos, af, g⟩ ops e = true)
    (hfo : ev e fo = .func (.func f) fi ca) (hf : callable P f = true) (hc : Ret P f l.toArray w R) (ha : fi.toList ++ (args.toList.map (ev e) ++ ca.toList) = l) (h : ∀ v w', R v w' → Wops P r ops Q rest (put e dst v) w') :
    Wops P r ops Q (⟨dst, .call ⟨.value fo, args, ats⟩, ty, pos, af, g⟩ :: rest) e w := by
  refine op_enter (R := R) hg rfl ?_ hc h
  have : fi ++ args.map (ev e) ++ ca = l.toArray := by rw [← ha]; apply Array.ext'; simp
  simp [execOp, resolve, hfo, Deferred.ofValue, invoke, this, run_callable hf]
end

/-! ### A slice that a call owns: nil, or at the head of a block -/

def ent (a : Option Addr) (t : TypeId) (full : List Value) : List (Nat × Obj) :=
  match a with
  | none => []
  | some p => [(p.block, Bl t full)]

/-- The slice (a, n, c), of elements of s cells: its block's cells are full, its own l. -/
structure OS (a : Option Addr) (n c s : Nat) (full l : List Value) : Prop where
  zero : ∀ p, a = some p → p = ⟨p.block, 0, none⟩
  none' : a = none → c = 0
  len : full.length = c * s
  le : n ≤ c
  pre : full.take (n * s) = l

theorem OS.nil {s : Nat} : OS none 0 0 s [] [] := ⟨(fun _ h => by cases h), fun _ => rfl, by simp, Nat.le_refl _, by simp⟩
theorem OS.llen {a : Option Addr} {n c s : Nat} {full l : List Value} (h : OS a n c s full l) : l.length = n * s := by
  rw [← h.pre, List.length_take, h.len]
  exact Nat.min_eq_left (Nat.mul_le_mul_right _ h.le)
theorem OS.form {a : Option Addr} {n c s : Nat} {full l : List Value} (h : OS a n c s full l) (hn : 0 < n) : ∃ b, a = some ⟨b, 0, none⟩ := by
  cases a with
  | none => have := h.none' rfl; have := h.le; omega
  | some p => exact ⟨p.block, by rw [← h.zero p rfl]⟩
theorem OS.split {a : Option Addr} {n c s : Nat} {full l : List Value} (h : OS a n c s full l) : full = l ++ full.drop (n * s) := by
  rw [← h.pre, List.take_append_drop]

theorem mem_ent {a : Option Addr} {t : TypeId} {full : List Value} {b : Nat} (h : a = some ⟨b, 0, none⟩) : ent a t full = [(b, Bl t full)] := by subst h; rfl

/-- Such a slice reads as its elements. -/
theorem OS.rd {α : Type} {w : World} {a : Option Addr} {n c s : Nat} {t : TypeId} {full : List Value} {enc : α → List Value} {xs : List α} (h : OS a n c s full (xs.flatMap enc)) (hb : ∀ x ∈ ent a t full, w.heap[x.1]? = some x.2)
    (hs : ∀ x ∈ xs, (enc x).length = s) (h0 : 0 < s) : Rd w a s enc xs := by
  cases a with
  | none =>
    cases xs with
    | nil => exact Rd.nil
    | cons x xs =>
      exfalso
      have h1 := h.llen
      have h2 := h.none' rfl
      have h3 := h.le
      have h4 : n = 0 := by omega
      have h5 := hs x (by simp)
      subst h4
      simp only [List.flatMap_cons, List.length_append, Nat.zero_mul] at h1
      omega
  | some p =>
    have hz := h.zero p rfl
    obtain ⟨b, o, sp⟩ := p
    simp only [Addr.mk.injEq, true_and] at hz
    obtain ⟨rfl, rfl⟩ := hz
    exact Rd.of_bl (r := full.drop (n * s)) (hb (b, Bl t full) (by simp [ent])) h.split hs

/-- What a call hands back of its own joins. -/
theorem Ctx.callEnt {w0 w w' : World} {S : List Nat} {L E : List (Nat × Obj)} (H : Ctx w0 S w L) (he : Ext [] w w') (hb : ∀ x ∈ E, w'.heap[x.1]? = some x.2 ∧ w.heap.size ≤ x.1) (hp : E.Pairwise fun x y => x.1 ≠ y.1) :
    Ctx w0 S w' (L ++ E) := by
  have H' := H.call he
  refine ⟨H'.ext, ?_, ?_, ?_⟩
  · intro x hx
    rcases List.mem_append.1 hx with hx | hx
    · exact H'.blk x hx
    · exact (hb x hx).1
  · rw [List.pairwise_append]
    refine ⟨H.nd, hp, fun x hx y hy => ?_⟩
    have h1 := heap_lt (H.blk x hx)
    have h2 := (hb y hy).2
    omega
  · intro x hx
    rcases List.mem_append.1 hx with hx | hx
    · exact H.own x hx
    · exact .inr (Nat.le_trans H.size (hb x hx).2)

theorem Ctx.perm {w0 w : World} {S : List Nat} {L L' : List (Nat × Obj)} (H : Ctx w0 S w L) (hp : L.Perm L') : Ctx w0 S w L' :=
  H.sub (fun _ hx => hp.mem_iff.2 hx) (hp.pairwise H.nd (fun h => Ne.symm h))

theorem Ctx.comm {w0 w : World} {S : List Nat} {L L' : List (Nat × Obj)} (H : Ctx w0 S w (L ++ L')) : Ctx w0 S w (L' ++ L) := H.perm List.perm_append_comm

theorem Ctx.left {w0 w : World} {S : List Nat} {L L' : List (Nat × Obj)} (H : Ctx w0 S w (L ++ L')) : Ctx w0 S w L :=
  H.sub (fun _ hx => List.mem_append_left _ hx) (List.pairwise_append.1 H.nd).1
theorem Ctx.right {w0 w : World} {S : List Nat} {L L' : List (Nat × Obj)} (H : Ctx w0 S w (L ++ L')) : Ctx w0 S w L' :=
  H.sub (fun _ hx => List.mem_append_right _ hx) (List.pairwise_append.1 H.nd).2.1

theorem growBy_le (need : Nat) : ∀ (k c : Nat), c ≤ 2 * need + 768 → Builtin.growBy need k c ≤ 2 * need + 768
  | 0, c, h => h
  | k + 1, c, h => by
    unfold Builtin.growBy
    split
    · exact h
    · exact growBy_le need k _ (by omega)

theorem nextcap_le (need c : Nat) (h : c < need) : Builtin.nextslicecap need c ≤ 2 * need + 768 := by
  unfold Builtin.nextslicecap
  split
  · omega
  · split
    · omega
    · exact growBy_le need 4 c (by omega)

theorem zeroCells_length (z : Array Value) (n : Nat) : (Builtin.zeroCells z n).size = n * z.size := by simp [Builtin.zeroCells]

section
variable {P : Program} {w w0 : World} {S : List Nat} {L : List (Nat × Obj)}

theorem run_firstCells {s m : Nat} {a : Option Addr} {c k : Nat} {l : List Value} (hl : l.length = m * s) (hc : ∀ j v, l[j]? = some v → ∃ p, a = some p ∧ w.cell? (p.add j) = some v) :
    (Builtin.firstCells s m (.slice a c k)).run P w = .ok l.toArray w := by
  cases a with
  | none =>
    have h0 : l = [] := by
      cases l with
      | nil => rfl
      | cons v l => obtain ⟨p, hp, _⟩ := hc 0 v rfl; cases hp
    subst h0
    simp [Builtin.firstCells]
  | some p =>
    have h := run_cells (P := P) (w := w) (p := p) l 0 #[] (fun j v hv => by
      obtain ⟨q, hq, hv⟩ := hc j v hv
      injection hq with hq
      subst hq
      rwa [Nat.zero_add])
    rw [hl] at h
    simp [Builtin.firstCells, loadCells, h]

/-- append onto a slice that the call owns; the source's cells are known. -/
theorem run_append {t t2 el el2 ty : TypeId} {s by' : Nat} {zl : List Value} (hu : elemT P t = some el) (hu2 : elemT P t2 = some el2) (hs : tsize P el = some s) (hby : tbytes P el = some by') (hz : zcells P el = some zl) (hzl : zl.length = s) (hpos : 0 < by')
    {a a2 : Option Addr} {n c m c2 : Nat} {full l new : List Value} (H : Ctx w0 S w (L ++ ent a el full)) (O : OS a n c s full l)
    (hn : new.length = m * s) (h1 : ∀ v ∈ new, oneCell v = true) (hc : ∀ j v, new[j]? = some v → ∃ p, a2 = some p ∧ w.cell? (p.add j) = some v) (hbound : (2 * (n + m) + 768) * by' ≤ 281474976710656) :
    ∃ a' c' full' w', (Builtin.append_ #[t, t2] ty #[.slice a n c, .slice a2 m c2]).run P w = .ok (.slice a' (n + m) c') w' ∧ Ctx w0 S w' (L ++ ent a' el full') ∧ OS a' (n + m) c' s full' (l ++ new) := by
  have hfc := run_firstCells (P := P) (w := w) (s := s) (m := m) (a := a2) (c := m) (k := c2) hn hc
  by_cases hfit : n + m ≤ c
  · -- in place
    cases a with
    | none =>
      have h0 := O.none' rfl
      have hm : m = 0 := by omega
      have hn0 : n = 0 := by omega
      subst hm hn0 h0
      have hnew : new = [] := List.eq_nil_of_length_eq_zero (by omega)
      have hl : l = [] := List.eq_nil_of_length_eq_zero (by have := O.llen; omega)
      have hfull : full = [] := List.eq_nil_of_length_eq_zero (by have := O.len; omega)
      subst hnew hl hfull
      refine ⟨none, 0, [], w, ?_, H, OS.nil⟩
      simp [Builtin.append_, run_under (elemT_u hu), run_under (elemT_u hu2), run_size hs, Builtin.lenOf, hfc]
    | some p =>
      have hp := O.zero p rfl
      obtain ⟨b, o, sp⟩ := p
      simp only [Addr.mk.injEq, true_and] at hp
      obtain ⟨rfl, rfl⟩ := hp
      have hk : (L ++ ent (some ⟨b, 0, none⟩) el full)[L.length]? = some (b, Bl el full) := by simp [ent]
      have hb := H.get hk
      have hmul : (n + m) * s ≤ c * s := Nat.mul_le_mul_right _ hfit
      have hadd : (n + m) * s = n * s + m * s := Nat.add_mul _ _ _
      obtain ⟨w', hr, he, hb'⟩ := run_storeCells (P := P) (o := n * s) new full w 0 h1 hb (by rw [O.len]; omega)
      have hwr := H.turn hk _ he hb'
      rw [show (L ++ ent (some ⟨b, 0, none⟩) el full).set L.length (b, Bl el (over full (n * s + 0) new)) = L ++ ent (some ⟨b, 0, none⟩) el (over full (n * s) new) from by simp [ent]] at hwr
      refine ⟨some ⟨b, 0, none⟩, c, over full (n * s) new, w', ?_, hwr, ?_⟩
      · have hst : (storeCells (Addr.add ⟨b, 0, none⟩ (n * s)) new).run P w = .ok () w' := by
          rw [add_none, Nat.zero_add]; exact hr
        simp [Builtin.append_, run_under (elemT_u hu), run_under (elemT_u hu2), run_size hs, Builtin.lenOf, hfc, hfit, hst]
      · refine ⟨fun q hq => by injection hq with hq; subst hq; rfl, (fun h => by cases h), by rw [over_length]; exact O.len, hfit, ?_⟩
        have hsp := O.split
        have hll := O.llen
        have htl : (full.drop (n * s)).length = c * s - n * s := by rw [List.length_drop, O.len]
        have hcut : full.drop (n * s) = (full.drop (n * s)).take (m * s) ++ (full.drop (n * s)).drop (m * s) := by rw [List.take_append_drop]
        have hover : ∀ (vs a b c : List Value), b.length = vs.length → over (a ++ b ++ c) a.length vs = a ++ vs ++ c := by
          intro vs
          induction vs with
          | nil => intro a b c hb; have : b = [] := List.eq_nil_of_length_eq_zero (by simpa using hb); subst this; simp [over]
          | cons v vs ih =>
            intro a b c hb
            cases b with
            | nil => simp at hb
            | cons x b =>
              have := ih (a ++ [v]) b c (by simpa using hb)
              simp only [over]
              rw [show (a ++ x :: b ++ c).set a.length v = a ++ [v] ++ b ++ c from by simp]
              rw [show a.length + 1 = (a ++ [v]).length from by simp, this]
              simp
        have hgoal : over full (n * s) new = l ++ new ++ (full.drop (n * s)).drop (m * s) := by
          have h4 := hover new l ((full.drop (n * s)).take (m * s)) ((full.drop (n * s)).drop (m * s)) (by rw [List.length_take, htl, hn]; omega)
          rw [List.append_assoc, ← hcut, ← hsp, hll] at h4
          exact h4
        rw [hgoal, List.take_left' (by rw [List.length_append, hll, hn]; omega)]
  · -- a new block
    have hfit' : c < n + m := by omega
    have hncap := nextcap_le (n + m) c hfit'
    have hbig : ¬ (281474976710656 : Int) < ((Builtin.nextslicecap (n + m) c * by' : Nat) : Int) := by
      have : Builtin.nextslicecap (n + m) c * by' ≤ (2 * (n + m) + 768) * by' := Nat.mul_le_mul_right _ hncap
      omega
    have hnm : n + m ≤ 281474976710656 := by
      have h1 : (2 * (n + m) + 768) * 1 ≤ (2 * (n + m) + 768) * by' := Nat.mul_le_mul_left _ hpos
      omega
    -- the capacity that is drawn
    generalize hq : (Question.appendCap (n + m) c el).cut (w.tape w.drawn (Question.appendCap (n + m) c el)) = cap
    have hcap : n + m ≤ cap := by rw [← hq]; unfold Question.cut; exact Nat.le_add_right _ _
    obtain ⟨zv, hzr, hzc⟩ := run_zero (P := P) hz w.drew
    have hzs : zv.cells.size = s := by rw [← hzl, ← hzc]; simp
    let full' := l ++ new ++ (Builtin.zeroCells zv.cells (cap - (n + m))).toList
    have hH : Ctx w0 S (w.drew.alloc (Bl el full')) ((w.drew.heap.size, Bl el full') :: L) := by
      have := (H.left.drew).alloc (Bl el full')
      exact this
    refine ⟨some ⟨w.drew.heap.size, 0, none⟩, cap, full', w.drew.alloc (Bl el full'), ?_, ?_, ?_⟩
    · have hforced : (Question.appendCap (n + m) c el).forced = false := rfl
      have hby2 : ∃ i, P.info? el = some i ∧ i.bytes = by' := by
        unfold tbytes at hby
        cases hi : P.info? el with
        | none => rw [hi] at hby; cases hby
        | some i => rw [hi] at hby; simp at hby; exact ⟨i, rfl, hby⟩
      obtain ⟨i, hi, hib⟩ := hby2
      have hti : ∀ w, (typeInfo el).run P w = .ok i w := fun w => by simp [typeInfo, program, Sem.run, hi]
      have hold' : (Builtin.firstCells s n (.slice a n c)).run P w.drew = .ok l.toArray w.drew := by
        refine run_firstCells (O.llen) (fun j v hv => ?_)
        have hjl : j < l.length := (List.getElem?_eq_some_iff.1 hv).1
        have hn0 : 0 < n := by
          rcases Nat.eq_zero_or_pos n with h | h
          · have h5 := O.llen; rw [h, Nat.zero_mul] at h5; omega
          · exact h
        obtain ⟨b, rfl⟩ := O.form hn0
        refine ⟨_, rfl, ?_⟩
        have hk : (L ++ ent (some ⟨b, 0, none⟩) el full)[L.length]? = some (b, Bl el full) := by simp [ent]
        show w.cell? _ = _
        rw [add_none, Nat.zero_add, cell_bl (H.get hk), O.split, List.getElem?_append_left hjl]
        exact hv
      have hfc' : (Builtin.firstCells s m (.slice a2 m c2)).run P w.drew = .ok new.toArray w.drew := run_firstCells hn hc
      have hroom : ∀ k w, (askRoom k).run P w = .ok () w := fun k w => by unfold askRoom; split <;> rfl
      have hby0 : ¬ by' = 0 := by omega
      have hnn : (Builtin.append_ #[t, t2] ty #[.slice a n c, .slice a2 m c2]).run P w = .ok (.slice (some ⟨w.drew.heap.size, 0, none⟩) (n + m) cap) (w.drew.alloc (.cells (l.toArray ++ (new.toArray ++ Builtin.zeroCells zv.cells (cap - (n + m)))) el)) := by
        have hb3 : ¬ 281474976710656 < Builtin.nextslicecap (n + m) c * by' := by omega
        simp [Builtin.append_, run_under (elemT_u hu), run_under (elemT_u hu2), run_size hs, Builtin.lenOf, hfc', hold', hfit, hti, hib, hb3, hby0, hforced, hq, hroom, hzr, newRow, newObj, Sem.run]
      rw [hnn]
      have harr : l.toArray ++ (new.toArray ++ Builtin.zeroCells zv.cells (cap - (n + m))) = full'.toArray := by
        apply Array.ext'; simp [full']
      rw [harr]
      rfl
    · exact hH.perm (List.perm_append_comm (l₁ := [(w.drew.heap.size, Bl el full')]) (l₂ := L))
    · refine ⟨(fun q hq => by injection hq with hq; subst hq; rfl), (fun h => by cases h), ?_, hcap, ?_⟩
      · show (l ++ new ++ (Builtin.zeroCells zv.cells (cap - (n + m))).toList).length = cap * s
        rw [List.length_append, List.length_append, O.llen, hn, Array.length_toList, zeroCells_length, hzs, ← Nat.add_mul, ← Nat.add_mul]
        congr 1
        omega
      · show (l ++ new ++ (Builtin.zeroCells zv.cells (cap - (n + m))).toList).take ((n + m) * s) = l ++ new
        rw [List.take_left' (by rw [List.length_append, O.llen, hn, Nat.add_mul])]

end

section
variable {P : Program} {r : Option Nat} {ops rest : List Oper} {Q : Exit → Env → World → Prop} {e : Env} {w w0 : World} {S : List Nat} {L : List (Nat × Obj)}
  {dst : Option Tmp} {ty : TypeId} {pos : String} {af : Array Edge} {g : Option (Nat × Bool)}

/-- append(s, x..): s is the call's own; x's cells are known. -/
theorem op_append {t t2 el el2 : TypeId} {x y : Operand} {s by' : Nat} {zl : List Value} (hg : wants ⟨dst, .call ⟨.builtin .append, #[x, y], #[t, t2]⟩, ty, pos, af, g⟩ ops e = true)
    (hu : elemT P t = some el) (hu2 : elemT P t2 = some el2) (hs : tsize P el = some s) (hby : tbytes P el = some by') (hz : zcells P el = some zl) (hzl : zl.length = s) (hpos : 0 < by')
    {a a2 : Option Addr} {n c m c2 : Nat} {full l : List Value} (new : List Value) (hx : ev e x = .slice a n c) (hy : ev e y = .slice a2 m c2) (H : Ctx w0 S w (L ++ ent a el full)) (O : OS a n c s full l)
    (hn : new.length = m * s) (h1 : ∀ v ∈ new, oneCell v = true) (hc : ∀ j v, new[j]? = some v → ∃ p, a2 = some p ∧ w.cell? (p.add j) = some v) (hbound : (2 * (n + m) + 768) * by' ≤ 281474976710656)
    (h : ∀ a' c' full' w', Ctx w0 S w' (L ++ ent a' el full') → OS a' (n + m) c' s full' (l ++ new) → Wops P r ops Q rest (put e dst (.slice a' (n + m) c')) w') :
    Wops P r ops Q (⟨dst, .call ⟨.builtin .append, #[x, y], #[t, t2]⟩, ty, pos, af, g⟩ :: rest) e w := by
  obtain ⟨a', c', full', w', hr, H', O'⟩ := run_append (ty := ty) hu hu2 hs hby hz hzl hpos H O hn h1 hc hbound (c2 := c2)
  exact op_val hg rfl (by simp [execOp, resolve, invoke, builtin, hx, hy, hr]) (h a' c' full' w' H' O')

/-- The slice of one element that append(s, x) lays. -/
theorem op_build1 {t el : TypeId} {x : Operand} {s : Nat} {zl : List Value} (l : List Value) (v : Value) (hg : wants ⟨dst, .buildSlice t 1 #[(0, x)], ty, pos, af, g⟩ ops e = true)
    (hu : elemT P t = some el) (hs : tsize P el = some s) (hz : zcells P el = some zl) (hzl : zl.length = s) (hs0 : 0 < s) (hs1 : s ≤ 16777216) (hx : ev e x = v) (hl : v.cells = l.toArray) (hll : l.length = s) (H : Ctx w0 S w L)
    (h : ∀ b w', w.heap.size = b → Ctx w0 S w' ((b, Bl el l) :: L) → Wops P r ops Q rest (put e dst (.slice (some ⟨b, 0, none⟩) 1 1)) w') :
    Wops P r ops Q (⟨dst, .buildSlice t 1 #[(0, x)], ty, pos, af, g⟩ :: rest) e w := by
  obtain ⟨z, hz1, hz2⟩ := run_zero hz w
  have hzs : z.cells.size = s := by rw [← hzl, ← hz2]; simp
  refine op_val (w' := w.alloc (Bl el l)) (v := .slice (some ⟨w.heap.size, 0, none⟩) 1 1) hg rfl ?_ (h _ _ rfl (H.alloc _))
  have hfill : ∀ cs : Array Value, cs.size = s → Instr.fill (fun i => some (i * s, s)) cs [(0, v)] = some l.toArray := by
    intro cs hcs
    have hfold : ∀ (vs : List Value) (k : Nat) (c0 : Array Value), c0.size = k + vs.length → (vs.zipIdx k).foldl (fun cs (x : Value × Nat) => cs.setIfInBounds (0 + x.2) x.1) c0 = ((c0.toList.take k) ++ vs).toArray := by
      intro vs
      induction vs with
      | nil => intro k c0 h; simp only [List.zipIdx_nil, List.foldl_nil, List.append_nil]; apply Array.ext'; simp only [List.length_nil] at h; simp; rw [List.take_of_length_le (by simp; omega)]
      | cons u vs ih =>
        intro k c0 h
        simp only [List.zipIdx_cons, List.foldl_cons]
        rw [ih (k + 1) _ (by simp at h ⊢; omega)]
        congr 1
        simp only [Nat.zero_add, Array.toList_setIfInBounds]
        have hk : k < c0.toList.length := by simp at h ⊢; omega
        rw [List.take_set, List.take_succ_eq_append_getElem hk]
        simp [List.set_append]
        rw [if_neg (by simp at h; omega)]
        have : k - min k c0.size = 0 := by simp at h; omega
        rw [this]; simp
    have h2 := hfold l 0 cs (by omega)
    simp only [Instr.fill, hl, List.size_toArray, hll, Nat.zero_mul, Nat.zero_add, hcs]
    rw [if_neg (by simp)]
    have h3 : Array.foldl (fun cs (x : Value × Nat) => cs.setIfInBounds (0 + x.2) x.1) cs l.toArray.zipIdx = (l.zipIdx 0).foldl (fun cs (x : Value × Nat) => cs.setIfInBounds (0 + x.2) x.1) cs := by
      rw [← Array.foldl_toList]; simp
    simp only [Nat.zero_add] at h2 h3
    rw [h3, h2]
    simp
  have hne : ¬ s = 0 := by omega
  have hbig : ¬ 16777216 < s := by omega
  simp [execOp, Instr.buildSlice, run_under (elemT_u hu), run_size hs, hne, hbig, hz1, hx, hfill, newRow, newObj, Sem.run]
  rfl

/-- make([]T, n, c), an element one cell. -/
theorem op_make {t el : TypeId} {x y : Operand} {by' : Nat} {z : Value} {k k2 : IntKind} {i j : Int} (hg : wants ⟨dst, .makeSlice t x y, ty, pos, af, g⟩ ops e = true)
    (hu : elemT P t = some el) (hs : tsize P el = some 1) (hby : tbytes P el = some by') (hz : zcells P el = some [z]) (hx : ev e x = .int k i) (hy : ev e y = .int k2 j) (h0 : 0 ≤ i) (h1 : i ≤ j) (h2 : by' * j ≤ 281474976710656) (h3 : j ≤ 9223372036854775807)
    (H : Ctx w0 S w L)
    (h : ∀ b w', w.heap.size = b → Ctx w0 S w' ((b, Bl el (List.replicate j.toNat z)) :: L) → Wops P r ops Q rest (put e dst (.slice (some ⟨b, 0, none⟩) i.toNat j.toNat)) w') :
    Wops P r ops Q (⟨dst, .makeSlice t x y, ty, pos, af, g⟩ :: rest) e w := by
  obtain ⟨zv, hz1, hz2⟩ := run_zero hz w
  have hzs : zv.cells.size = 1 := by
    have : zv.cells.toList.length = 1 := by rw [hz2]; rfl
    simpa using this
  have hby2 : ∃ i, P.info? el = some i ∧ i.bytes = by' := by
    unfold tbytes at hby
    cases hi : P.info? el with
    | none => rw [hi] at hby; cases hby
    | some i => rw [hi] at hby; simp at hby; exact ⟨i, rfl, hby⟩
  obtain ⟨inf, hi, hib⟩ := hby2
  have hti : ∀ w, (typeInfo el).run P w = .ok inf w := fun w => by simp [typeInfo, program, Sem.run, hi]
  have hw1 : IntKind.i64.wrap i = i := wrap_in (k := .i64) (by simp [IntKind.min, IntKind.signed, IntKind.bits]; omega) (by simp [IntKind.max, IntKind.signed, IntKind.bits]; omega)
  have hw2 : IntKind.i64.wrap j = j := wrap_in (k := .i64) (by simp [IntKind.min, IntKind.signed, IntKind.bits]; omega) (by simp [IntKind.max, IntKind.signed, IntKind.bits]; omega)
  have hroom : ∀ k w, (askRoom k).run P w = .ok () w := fun k w => by unfold askRoom; split <;> rfl
  refine op_val (w' := w.alloc (Bl el (List.replicate j.toNat z))) (v := .slice (some ⟨w.heap.size, 0, none⟩) i.toNat j.toNat) hg rfl ?_ (h _ _ rfl (H.alloc _))
  have hn1 : ¬ j < 0 := by omega
  have hn2 : ¬ (281474976710656 < (by' : Int) * j) := by omega
  have hn3 : ¬ i < 0 := by omega
  have hn4 : ¬ j < i := by omega
  have hcells : (Array.range j.toNat).map (fun q => zv.cells[q % zv.cells.size]!) = (List.replicate j.toNat z).toArray := by
    apply Array.ext
    · simp
    · intro q h1 h2
      simp only [hzs, Nat.mod_one, Array.getElem_map, List.getElem_toArray, List.getElem_replicate]
      have : zv.cells = #[z] := by apply Array.ext'; rw [hz2]
      rw [this]; rfl
  by_cases hj : j.toNat = 0
  · have hj0 : j = 0 := by omega
    have hi0 : i = 0 := by omega
    subst hj0 hi0
    simp [execOp, Instr.makeSlice, run_under (elemT_u hu), hx, hy, asInt, asIntOf, hti, hw2, hroom, run_size hs, newRow, newObj, Sem.run]
    have hr0 : (Array.range 0) = (#[] : Array Nat) := by apply Array.ext'; simp
    rw [hr0, Array.map_empty]
    rfl
  · simp [execOp, Instr.makeSlice, run_under (elemT_u hu), hx, hy, asInt, asIntOf, hti, hib, hw1, hw2, hn1, hn2, hn3, hn4, hroom, run_size hs, hj, hz1, newRow, newObj, Sem.run]
    rw [hcells]
    rfl

theorem sliceB {P : Program} {w : World} {k : IntKind} {i : Int} {y : Nat} {code : BoundsCode} (h0 : 0 ≤ i) (h1 : i ≤ y) : (Instr.sliceBound (.int k i) y code).run P w = .ok i.toNat w := by
  simp [Instr.sliceBound, asIntOf, h0, h1]

def cutA (a : Option Addr) (c i s : Nat) : Option Addr := if c = i then a else a.map (·.add (i * s))

/-- s[i:] -/
theorem op_slice_lo {t el : TypeId} {x y : Operand} {s : Nat} {a : Option Addr} {n c : Nat} {k : IntKind} {i : Int} (hg : wants ⟨dst, .slice t x (some y) none none, ty, pos, af, g⟩ ops e = true)
    (hu : elemT P t = some el) (hs : tsize P el = some s) (hx : ev e x = .slice a n c) (hy : ev e y = .int k i) (h0 : 0 ≤ i) (h1 : i ≤ n)
    (h : Wops P r ops Q rest (put e dst (.slice (cutA a c i.toNat s) (n - i.toNat) (c - i.toNat))) w) :
    Wops P r ops Q (⟨dst, .slice t x (some y) none none, ty, pos, af, g⟩ :: rest) e w :=
  op_val hg rfl (by simp [execOp, Instr.sliceAt, Instr.slice, Instr.sliceBounds, run_under (elemT_u hu), hx, hy, sliceB h0 h1, run_size hs, cutA]) h
/-- s[:j] -/
theorem op_slice_hi {t el : TypeId} {x y : Operand} {s : Nat} {a : Option Addr} {n c : Nat} {k : IntKind} {j : Int} (hg : wants ⟨dst, .slice t x none (some y) none, ty, pos, af, g⟩ ops e = true)
    (hu : elemT P t = some el) (hs : tsize P el = some s) (hx : ev e x = .slice a n c) (hy : ev e y = .int k j) (h0 : 0 ≤ j) (h1 : j ≤ c)
    (h : Wops P r ops Q rest (put e dst (.slice a j.toNat c)) w) :
    Wops P r ops Q (⟨dst, .slice t x none (some y) none, ty, pos, af, g⟩ :: rest) e w :=
  op_val hg rfl (by
    have : ∀ a : Option Addr, (if c = 0 then a else a.map (·.add (0 * s))) = a := by
      intro a; split
      · rfl
      · cases a with
        | none => rfl
        | some p => simp [Addr.add]
    simp [execOp, Instr.sliceAt, Instr.slice, Instr.sliceBounds, run_under (elemT_u hu), hx, hy, sliceB h0 h1, run_size hs]
    simpa using this a) h
/-- s[i:j] -/
theorem op_slice_lohi {t el : TypeId} {x y z : Operand} {s : Nat} {a : Option Addr} {n c : Nat} {k k2 : IntKind} {i j : Int} (hg : wants ⟨dst, .slice t x (some y) (some z) none, ty, pos, af, g⟩ ops e = true)
    (hu : elemT P t = some el) (hs : tsize P el = some s) (hx : ev e x = .slice a n c) (hy : ev e y = .int k i) (hz : ev e z = .int k2 j) (h0 : 0 ≤ i) (h1 : i ≤ j) (h2 : j ≤ c)
    (h : Wops P r ops Q rest (put e dst (.slice (cutA a c i.toNat s) (j.toNat - i.toNat) (c - i.toNat))) w) :
    Wops P r ops Q (⟨dst, .slice t x (some y) (some z) none, ty, pos, af, g⟩ :: rest) e w :=
  op_val hg rfl (by
    have h3 : i ≤ (j.toNat : Nat) := by omega
    simp [execOp, Instr.sliceAt, Instr.slice, Instr.sliceBounds, run_under (elemT_u hu), hx, hy, hz, sliceB (show 0 ≤ j from by omega) h2, sliceB h0 h3, run_size hs, cutA]) h

theorem run_eqnil {P : Program} {t el : TypeId} (hu : elemT P t = some el) (d : Nat) (a : Option Addr) (n c c2 : Nat) (w : World) :
    (Op.equalIn (d + 1) t (.slice a n c) (.slice none 0 c2)).run P w = .ok a.isNone w := by
  cases a <;> simp [Op.equalIn, run_under (elemT_u hu)]
theorem run_neqnil {P : Program} {t el : TypeId} (hu : elemT P t = some el) (a : Option Addr) (n c c2 : Nat) (w : World) : (binOp .neq t (.slice a n c) (.slice none 0 c2)).run P w = .ok (.bool a.isSome) w := by
  simp only [binOp, Sem.run_bind, Op.equal, Op.maxDepth, run_eqnil hu 9999]
  cases a <;> rfl
theorem run_eqlnil {P : Program} {t el : TypeId} (hu : elemT P t = some el) (a : Option Addr) (n c c2 : Nat) (w : World) : (binOp .eql t (.slice a n c) (.slice none 0 c2)).run P w = .ok (.bool a.isNone) w := by
  simp only [binOp, Sem.run_bind, Op.equal, Op.maxDepth, run_eqnil hu 9999]
  cases a <;> rfl

/-- A slice against nil. -/
theorem op_neqnil {t t2 : TypeId} {x : Operand} {a : Option Addr} {n c c2 : Nat} {el : TypeId} (hg : wants ⟨dst, .binOp .neq t x (.const (.slice none 0 c2)) t2, ty, pos, af, g⟩ ops e = true) (hu : elemT P t = some el) (hx : ev e x = .slice a n c)
    (h : Wops P r ops Q rest (put e dst (.bool a.isSome)) w) : Wops P r ops Q (⟨dst, .binOp .neq t x (.const (.slice none 0 c2)) t2, ty, pos, af, g⟩ :: rest) e w :=
  op_val hg rfl (by
    have hq : eqGuard .neq t x (.const (.slice none 0 c2)) (.slice a n c) (.slice none 0 c2) = pure () := rfl
    have he : ev e (.const (.slice none 0 c2)) = .slice none 0 c2 := rfl
    simp only [execOp, hx, he, hq, Sem.run_bind, Sem.run_pure, Result.andThen_ok, run_neqnil hu]) h
theorem op_eqlnil {t t2 : TypeId} {x : Operand} {a : Option Addr} {n c c2 : Nat} {el : TypeId} (hg : wants ⟨dst, .binOp .eql t x (.const (.slice none 0 c2)) t2, ty, pos, af, g⟩ ops e = true) (hu : elemT P t = some el) (hx : ev e x = .slice a n c)
    (h : Wops P r ops Q rest (put e dst (.bool a.isNone)) w) : Wops P r ops Q (⟨dst, .binOp .eql t x (.const (.slice none 0 c2)) t2, ty, pos, af, g⟩ :: rest) e w :=
  op_val hg rfl (by
    have hq : eqGuard .eql t x (.const (.slice none 0 c2)) (.slice a n c) (.slice none 0 c2) = pure () := rfl
    have he : ev e (.const (.slice none 0 c2)) = .slice none 0 c2 := rfl
    simp only [execOp, hx, he, hq, Sem.run_bind, Sem.run_pure, Result.andThen_ok, run_eqlnil hu]) h
end
end Go.GV
