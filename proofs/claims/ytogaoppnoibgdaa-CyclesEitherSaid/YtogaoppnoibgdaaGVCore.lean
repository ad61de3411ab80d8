/- The core of a small program logic of our own over the kit's fenced walk: environments as functions from slots to values, one rule for each form of code. It holds for every program. -/
import Derived.RangeFuncRecord
import Derived.RangeFuncCalls
import Derived.Laws.Sem
import Derived.Laws.World
import Derived.Sort.QuietThIn
import Derived.StillTail
namespace Go.GV
open Go

/-- The slots of a frame, and the deferred calls. -/
structure Env where
  g : Nat → Value
  ds : List Deferred

def ev (e : Env) : Operand → Value
  | .tmp t => e.g t
  | .const v => v
  | .global g => .pointer (some ⟨g, 0, none⟩)
  | .func f => .func (.func f) #[] #[]

def put (e : Env) (d : Option Tmp) (v : Value) : Env :=
  match d with
  | some d => ⟨fun i => bif Nat.beq i d then v else e.g i, e.ds⟩
  | none => e

def puts (e : Env) : List (Nat × Value) → Env
  | [] => e
  | (d, v) :: l => put (puts e l) (some d) v

def agree (e : Env) : List (Nat × Value) → Prop
  | [] => True
  | (d, v) :: l => e.g d = v ∧ agree e l

/-- The environment stands for the frame: n slots. -/
def Sim (n : Nat) (e : Env) (a : Act) : Prop := a.defers = e.ds ∧ a.tmps.size = n ∧ ∀ i, a.tmps.getD i undef = e.g i

theorem Sim.eval {n : Nat} {e : Env} {a : Act} (h : Sim n e a) : a.eval = ev e := by
  funext x
  cases x with
  | tmp t => exact h.2.2 t
  | const v => rfl
  | global g => rfl
  | func f => rfl

theorem Sim.put {n : Nat} {e : Env} {a : Act} (h : Sim n e a) (d : Option Tmp) (v : Value) (hd : ∀ x, d = some x → x < n) : Sim n (put e d v) (a.put d v) := by
  obtain ⟨h1, h2, h3⟩ := h
  cases d with
  | none => exact ⟨h1, h2, h3⟩
  | some d =>
    have hdn := hd d rfl
    refine ⟨h1, by simp [Act.put, h2], fun i => ?_⟩
    simp only [Act.put, GV.put]
    by_cases hi : i = d
    · subst hi
      simp [Array.getD_eq_getD_getElem?, h2, hdn]
    · have hb : Nat.beq i d = false := by
        cases hc : Nat.beq i d with
        | false => rfl
        | true => exact absurd (Nat.eq_of_beq_eq_true hc) hi
      rw [hb]
      simp only [cond_false]
      rw [← h3 i]
      simp [Array.getD_eq_getD_getElem?, Ne.symm hi]

theorem env_eq {e : Env} : ∀ {l : List (Nat × Value)}, agree e l → puts e l = e
  | [], _ => rfl
  | (d, v) :: l, h => by
    have ih := env_eq (e := e) (l := l) h.2
    simp only [puts, ih, GV.put]
    cases e with
    | mk g ds =>
      congr 1
      funext i
      by_cases hi : Nat.beq i d = true
      · rw [hi]; simp only [cond_true]; rw [Nat.eq_of_beq_eq_true hi]; exact h.1.symm
      · simp only [Bool.not_eq_true] at hi; rw [hi]; rfl

def asB : Value → Option Bool
  | .bool b => some b
  | _ => none

def eqB : Option Bool → Bool → Bool
  | some true, true => true
  | some false, false => true
  | _, _ => false

/-- The place that operation j writes. -/
def nth : List Oper → Nat → Option Tmp
  | [], _ => none
  | o :: _, 0 => o.dst
  | _ :: l, j + 1 => nth l j

theorem nth_eq : ∀ (l : List Oper) (j : Nat), nth l j = (l[j]?).bind (·.dst)
  | [], _ => rfl
  | o :: _, 0 => rfl
  | _ :: l, j + 1 => by rw [nth, nth_eq l j]; rfl

/-- May the operation run? -/
def wants (o : Oper) (ops : List Oper) (e : Env) : Bool :=
  match o.guard with
  | none => true
  | some (j, want) => match nth ops j with
    | none => false
    | some d => eqB (asB (e.g d)) want

theorem wants_eq {n : Nat} {e : Env} {a : Act} (h : Sim n e a) (o : Oper) (ops : List Oper) :
    Region.wanted o (yielded ops.toArray a.tmps) = wants o ops e := by
  unfold Region.wanted wants yielded
  cases o.guard with
  | none => rfl
  | some x =>
    obtain ⟨j, want⟩ := x
    simp only [List.getElem?_toArray, ← nth_eq]
    cases hd : nth ops j with
    | none => rfl
    | some d =>
      simp only [Option.bind_some]
      have h3 := h.2.2 d
      rw [← h3, Array.getD_eq_getD_getElem?]
      cases a.tmps[d]? with
      | none => simp [undef, asB, eqB]
      | some v => cases v <;> simp [asB, eqB]; rename_i b; cases b <;> cases want <;> rfl

/-- The fence: every function, any depth; in a round of a range over a function, or not. -/
def Fr (r : Option Nat) : Fence := { fn := fun _ => True, depth := none, alive := false, round := r }

theorem fr_none : Fr none = Fence.wide := rfl

/-- A call of function f returns, and then R holds. -/
def Ret (P : Program) (f : FuncId) (args : Array Value) (w : World) (R : Value → World → Prop) : Prop :=
  CallsIn Fence.wide 0 P f args w fun e w' => ∃ v, e = .returned v ∧ R v w'

theorem Ret.mono {P : Program} {f : FuncId} {args : Array Value} {w : World} {R R' : Value → World → Prop} (h : Ret P f args w R)
    (hr : ∀ v w', R v w' → R' v w') : Ret P f args w R' :=
  CallsIn.mono h fun _ _ ⟨v, he, hR⟩ => ⟨v, he, hr _ _ hR⟩

theorem Ret.calls {P : Program} {f : FuncId} {args : Array Value} {w : World} {R : Value → World → Prop} (h : Ret P f args w R) :
    Calls P f args w fun e w' => ∃ v, e = .returned v ∧ R v w' := callsIn_wide.1 h

/-- One operation, and what must hold behind it. -/
def step1 (P : Program) (o : Oper) (e : Env) (K : Env → World → Prop) (Q : Exit → Env → World → Prop) : Result Next → Prop
  | .ok (.value v) w' => K (put e o.dst v) w'
  | .ok .skip w' => K (put e o.dst undef) w'
  | .ok (.defer d) w' => K (put ⟨e.g, d :: e.ds⟩ o.dst undef) w'
  | .ok (.enter f args) w' => Ret P f args w' fun v w'' => K (put e o.dst v) w''
  | .ok (.round l f tmps assign body) w' => RoundIn Fence.wide 0 P l f tmps assign body w' fun x w'' => ∃ v, x = .returned v ∧ K (put e o.dst v) w''
  | .halt (.panic v) w' => Q (.panic [{ v, recovered := false }]) e w'
  | _ => False

/-- The operations of a region, one behind the other. -/
def Wops (P : Program) (r : Option Nat) (ops : List Oper) (Q : Exit → Env → World → Prop) : List Oper → Env → World → Prop
  | [], e, w => Q .normal e w
  | o :: rest, e, w =>
    if wants o ops e then step1 P o e (Wops P r ops Q rest) Q ((o.semAt r (ev e)).run P w)
    else Wops P r ops Q rest (put e o.dst undef) w

def opFits (n : Nat) (o : Oper) : Bool :=
  match o.dst with
  | some d => Nat.ble (d + 1) n
  | none => true

theorem opFits_lt {n : Nat} {o : Oper} (h : opFits n o = true) : ∀ x, o.dst = some x → x < n := by
  intro x hx
  unfold opFits at h
  rw [hx] at h
  exact Nat.le_of_ble_eq_true h

def allFit (n : Nat) : List Oper → Bool
  | [] => true
  | o :: l => opFits n o && allFit n l

def tmpsFit (n : Nat) : List Tmp → Bool
  | [] => true
  | t :: l => Nat.ble (t + 1) n && tmpsFit n l

def fits (n : Nat) : Code → Bool
  | .region _ ops _ => allFit n ops.toList
  | .seq a b => fits n a && fits n b
  | .cond _ a b => fits n a && fits n b
  | .block _ b => fits n b
  | .loop b => fits n b
  | .scope b => fits n b
  | .rangeFunc _ ps a b => tmpsFit n ps.toList && (fits n a && fits n b)
  | _ => true

def Lift (n : Nat) (Q : Exit → Env → World → Prop) : Exit → Act → World → Prop := fun x a w => ∃ e, Sim n e a ∧ Q x e w

theorem room_fr (r : Option Nat) (k : Nat) : (Fr r).room k := fun d h => by cases h

theorem allFit_get {n : Nat} : ∀ {l : List Oper}, allFit n l = true → ∀ (i : Nat) (o : Oper), l[i]? = some o → opFits n o = true
  | [], _, i, o, h => by simp at h
  | x :: l, hf, i, o, h => by
    simp only [allFit, Bool.and_eq_true] at hf
    cases i with
    | zero => simp at h; subst h; exact hf.1
    | succ i => exact allFit_get hf.2 i o (by simpa using h)

/-- The operations at these indexes. -/
def picked (ops : List Oper) : List Nat → List Oper
  | [] => []
  | i :: l => match ops[i]? with
    | some o => o :: picked ops l
    | none => picked ops l

theorem picked_range (ops : List Oper) : ∀ (l : List Oper) (k : Nat), (∀ j, l[j]? = ops[k + j]?) → picked ops (List.range' k l.length) = l
  | [], _, _ => rfl
  | o :: l, k, h => by
    have h0 : ops[k]? = some o := by simpa using (h 0).symm
    simp only [List.length_cons, List.range'_succ, picked, h0]
    rw [picked_range ops l (k + 1) (fun j => by have := h (j + 1); simpa [Nat.add_assoc, Nat.add_comm 1 j] using this)]

/-- A region's operations in the order that is given by indexes. -/
theorem wops_in {P : Program} {r : Option Nat} {n : Nat} {ops : List Oper} {Q : Exit → Env → World → Prop} (hall : allFit n ops = true) :
    ∀ (idx : List Nat) (e : Env) (a : Act) (w : World), Sim n e a →
      Wops P r ops Q (picked ops idx) e w → wpOpsIn (Fr r) 0 P ops.toArray (Lift n Q) idx a w
  | [], e, a, w, hs, h => ⟨e, hs, h⟩
  | i :: idx, e, a, w, hs, h => by
    have ih := wops_in (P := P) (r := r) (Q := Q) hall idx
    simp only [wpOpsIn, List.getElem?_toArray]
    cases h0 : ops[i]? with
    | none => simp only [picked, h0] at h; exact ih e a w hs h
    | some o =>
      simp only [picked, h0] at h
      have hlt := opFits_lt (allFit_get hall i o h0)
      simp only []
      rw [wants_eq hs]
      unfold Wops at h
      by_cases hw : wants o ops e = true
      · rw [if_pos hw] at h ⊢
        refine ⟨fun _ _ => trivial, ?_⟩
        rw [hs.eval]
        show Oper.uponIn (Fr r) 0 P o a _ _ ((o.semAt r (ev e)).run P w)
        generalize (o.semAt r (ev e)).run P w = res at h
        match res, h with
        | .ok (.value v) w', h => exact ih _ _ _ (hs.put o.dst v hlt) h
        | .ok .skip w', h => exact ih _ _ _ (hs.put o.dst undef hlt) h
        | .ok (.defer d) w', h =>
          refine ih _ _ _ (Sim.put (e := ⟨e.g, d :: e.ds⟩) (a := { a with defers := d :: a.defers }) ⟨?_, hs.2.1, hs.2.2⟩ o.dst undef hlt) h
          exact congrArg (d :: ·) hs.1
        | .ok (.enter f args) w', h =>
          refine ⟨(fun hc => by cases hc), ?_⟩
          have h' : CallsIn (Fr r) 0 P f args w' fun x w'' => ∃ v, x = .returned v ∧ Wops P r ops Q (picked ops idx) (put e o.dst v) w'' := h
          refine CallsIn.mono h' ?_
          rintro x w'' ⟨v, rfl, hv⟩
          exact ih _ _ _ (hs.put o.dst v hlt) hv
        | .ok (.round lo f tmps assign body) w', h =>
          refine ⟨(fun hc => by cases hc), ?_⟩
          have h' : RoundIn (Fr r) 0 P lo f tmps assign body w' fun x w'' => ∃ v, x = .returned v ∧ Wops P r ops Q (picked ops idx) (put e o.dst v) w'' := h
          refine RoundIn.mono h' ?_
          rintro x w'' ⟨v, rfl, hv⟩
          exact ih _ _ _ (hs.put o.dst v hlt) hv
        | .halt (.panic v) w', h => exact ⟨e, hs, h⟩
      · rw [if_neg hw] at h ⊢
        exact ⟨fun _ _ => trivial, ih _ _ _ (hs.put o.dst undef hlt) h⟩

def Qthen (K : Env → World → Prop) (Q : Exit → Env → World → Prop) : Exit → Env → World → Prop
  | .normal, e, w => K e w
  | x, e, w => Q x e w

def Qblock (id : Nat) (Q : Exit → Env → World → Prop) : Exit → Env → World → Prop
  | .exit id', e, w => bif Nat.beq id' id then Q .normal e w else Q (.exit id') e w
  | x, e, w => Q x e w

/-- No goto: a scope is only for those. -/
def Qscope (Q : Exit → Env → World → Prop) : Exit → Env → World → Prop
  | .goto _, _, _ => False
  | x, e, w => Q x e w

/-- One operation that leaves the world as it is, or within the class C; its value does not hang on the world. -/
def stepq (P : Program) (C : World → Prop) (w : World) (v : Value) : Result Next → Prop
  | .ok (.value u) w' => w' = w ∧ u = v
  | .ok .skip w' => w' = w ∧ v = undef
  | .ok (.enter f args) w' => w' = w ∧ Ret P f args w fun u w'' => u = v ∧ C w''
  | _ => False

/-- The operations of a region, in the text's order, each quiet. -/
def Wq (P : Program) (ops : List Oper) (C : World → Prop) (Q : Env → Prop) : List Oper → Env → Prop
  | [], e => Q e
  | o :: rest, e => if wants o ops e then ∃ v, (∀ w, C w → stepq P C w v ((execOp (ev e) o).run P w)) ∧ Wq P ops C Q rest (put e o.dst v) else Wq P ops C Q rest (put e o.dst undef)

/-- An operation that answers a value, or nothing. -/
def tailOp (o : Oper) : Bool :=
  match o.op with
  | .move _ | .assign _ | .alloc _ | .box _ _ | .build _ _ | .buildSlice _ _ _ | .load _ _ | .store _ _ _ | .binOp _ _ _ _ _ | .unOp _ _ _ | .convert _ _ _ | .makeFunc _ _ _ | .makeMap _ _ | .makeSlice _ _ _
  | .slice _ _ _ _ _ | .fieldAddr _ _ _ | .field _ _ _ | .indexAddr _ _ _ | .index _ _ _ | .lookup _ _ _ _ | .mapUpdate _ _ _ _ | .insert _ _ _ _ | .mapEntry _ _ _ | .entryStore _ _ _ _ | .extract _ _ => true
  | .call ⟨.builtin .append, _, _⟩ | .call ⟨.builtin .copy, _, _⟩ | .call ⟨.builtin .len, _, _⟩ | .call ⟨.builtin .delete, _, _⟩ => true
  | _ => false

def allTail : List Oper → Bool
  | [] => true
  | o :: l => tailOp o && allTail l

def plainRes : Result Next → Prop
  | .ok (.value _) _ => True
  | .ok .skip _ => True
  | .halt _ _ => True
  | _ => False

theorem plain_v {P : Program} {w : World} (s : Sem Value) : plainRes ((do pure (Next.value (← s)) : Sem Next).run P w) := by
  rw [Sem.run_bind]
  cases s.run P w <;> trivial
theorem plain_t {r : Result Value} : plainRes (r.andThen fun a w' => Result.ok (Next.value a) w') := by
  cases r <;> trivial
theorem plain_u {P : Program} {w : World} (s : Sem Unit) : plainRes ((do s; pure Next.skip : Sem Next).run P w) := by
  rw [Sem.run_bind]
  cases s.run P w <;> trivial

theorem tail_plain {P : Program} {w : World} (ρ : Operand → Value) {o : Oper} (h : tailOp o = true) : plainRes ((execOp ρ o).run P w) := by
  obtain ⟨dst, op, ty, pos, af, g⟩ := o
  cases op with
  | call c =>
    obtain ⟨cal, args, ats⟩ := c
    cases cal with
    | builtin b =>
      cases b <;> first | (cases h; done) | (simp only [execOp, resolve, invoke, builtin, Sem.run_bind, Sem.run_pure, Result.andThen_ok]; exact plain_t)
    | value f => cases h
    | invoke a b => cases h
  | move x => exact trivial
  | assign x => exact trivial
  | _ => first | (cases h; done) | exact plain_v _ | exact plain_u _

theorem wops_list {P : Program} {n : Nat} {ops : List Oper} {Q : Exit → Env → World → Prop} :
    ∀ (l : List Oper) (e : Env) (a : Act) (w : World), allFit n l = true → allTail l = true → Sim n e a → Wops P none ops Q l e w → wpList P ops.toArray (Lift n Q) l a w
  | [], e, a, w, _, _, hs, h => ⟨e, hs, h⟩
  | o :: l, e, a, w, hf, ht, hs, h => by
    simp only [allFit, Bool.and_eq_true] at hf
    simp only [allTail, Bool.and_eq_true] at ht
    have hlt := opFits_lt hf.1
    unfold Wops at h
    unfold wpList
    rw [wants_eq hs]
    by_cases hw : wants o ops e = true
    · rw [if_pos hw] at h ⊢
      refine .inl ?_
      have hp := tail_plain (P := P) (w := w) (ev e) ht.1
      unfold Oper.wp
      rw [hs.eval]
      have h2 : step1 P o e (Wops P none ops Q l) Q ((execOp (ev e) o).run P w) := h
      generalize (execOp (ev e) o).run P w = res at h2 hp
      match res, h2, hp with
      | .ok (.value v) w', h2, _ => exact wops_list l _ _ _ hf.2 ht.2 (hs.put o.dst v hlt) h2
      | .ok .skip w', h2, _ => exact wops_list l _ _ _ hf.2 ht.2 (hs.put o.dst undef hlt) h2
      | .halt (.panic v) w', h2, _ => exact ⟨e, hs, h2⟩
    · rw [if_neg hw] at h ⊢
      exact wops_list l _ _ _ hf.2 ht.2 (hs.put o.dst undef hlt) h

theorem wq_still {P : Program} {n : Nat} {ops : List Oper} {w0 : World} {Q : Env → Prop} {Q' : Act → Prop} (hQ : ∀ e a, Sim n e a → Q e → Q' a) :
    ∀ (l : List Oper) (e : Env) (a : Act), allFit n l = true → Sim n e a → Wq P ops (fun x => x = w0) Q l e → wpStill P ops.toArray w0 Q' l a
  | [], e, a, _, hs, h => hQ e a hs h
  | o :: l, e, a, hf, hs, h => by
    simp only [allFit, Bool.and_eq_true] at hf
    have hlt := opFits_lt hf.1
    unfold wpStill
    rw [wants_eq hs]
    unfold Wq at h
    by_cases hw : wants o ops e = true
    · rw [if_pos hw] at h ⊢
      obtain ⟨v, hv, h⟩ := h
      have hn := wq_still hQ l _ _ hf.2 (hs.put o.dst v hlt) h
      have h1 := hv w0 rfl
      unfold Oper.still
      rw [hs.eval]
      generalize (execOp (ev e) o).run P w0 = res at h1
      match res, h1 with
      | .ok (.value u) w', h1 => exact ⟨h1.1, h1.2 ▸ hn⟩
      | .ok .skip w', h1 => exact ⟨h1.1, h1.2 ▸ hn⟩
      | .ok (.enter f args) w', h1 => exact ⟨h1.1, v, Calls.mono (Ret.calls h1.2) (fun x w'' ⟨u, hu, hv, hw⟩ => ⟨hv ▸ hu, hw⟩), hn⟩
    · rw [if_neg hw] at h ⊢
      exact wq_still hQ l _ _ hf.2 (hs.put o.dst undef hlt) h

theorem allFit_app {n : Nat} : ∀ (a b : List Oper), allFit n (a ++ b) = (allFit n a && allFit n b)
  | [], _ => by simp [allFit]
  | o :: a, b => by simp [allFit, allFit_app a b, Bool.and_assoc]

theorem wq_in {P : Program} {n : Nat} {ops : List Oper} {C : World → Prop} {Q : Env → Prop} {Q' : Act → Prop} (hQ : ∀ e a, Sim n e a → Q e → Q' a) :
    ∀ (l : List Oper) (e : Env) (a : Act), allFit n l = true → Sim n e a → Wq P ops C Q l e → wpQuietIn (Fr none) 0 P ops.toArray C Q' l a
  | [], e, a, _, hs, h => hQ e a hs h
  | o :: l, e, a, hf, hs, h => by
    simp only [allFit, Bool.and_eq_true] at hf
    have hlt := opFits_lt hf.1
    refine ⟨fun _ _ _ _ => trivial, ?_⟩
    rw [wants_eq hs]
    unfold Wq at h
    by_cases hw : wants o ops e = true
    · rw [if_pos hw] at h ⊢
      obtain ⟨v, hv, h⟩ := h
      refine ⟨v, fun w hC => ?_, wq_in hQ l _ _ hf.2 (hs.put o.dst v hlt) h⟩
      have h1 := hv w hC
      unfold Oper.quietAtIn
      rw [hs.eval]
      generalize (execOp (ev e) o).run P w = res at h1
      match res, h1 with
      | .ok (.value u) w', h1 => exact h1
      | .ok .skip w', h1 => exact h1
      | .ok (.enter f args) w', h1 =>
        refine ⟨h1.1, (fun hc => by cases hc), ?_⟩
        have h2 : CallsIn (Fr none) 0 P f args w fun x w'' => ∃ u, x = .returned u ∧ u = v ∧ C w'' := h1.2
        refine CallsIn.mono h2 ?_
        rintro x w'' ⟨u, rfl, rfl, hC'⟩
        exact ⟨rfl, hC'⟩
    · rw [if_neg hw] at h ⊢
      exact wq_in hQ l _ _ hf.2 (hs.put o.dst undef hlt) h

/-- The jump that a round of a range over a function has left behind. -/
def jumped (Q : Exit → Env → World → Prop) (e : Env) (w : World) : Option Code → Prop
  | none => Q .normal e w
  | some .ret => Q .ret e w
  | some (.exit id) => Q (.exit id) e w
  | some (.goto l) => Q (.goto l) e w
  | some _ => False

/-- The block for the deferred calls of a range over a function, and its mark: at an outermost one alone. -/
def rfWorld (r : Option Nat) (w : World) : World := match r with | none => w.alloc (.deferred (some [])) | some _ => w
def rfMark (r : Option Nat) (w : World) : List Deferred := match r with | none => [{ target := .collected w.heap.size, args := #[] }] | some _ => []
def rfBlock (r : Option Nat) (w : World) (d : Nat) : Prop := match r with | none => d = w.heap.size | some l => ∃ lo, w.heap[l]? = some (.loop lo) ∧ d = lo.defers

/-- The weakest precondition over environments, by the form of the code. -/
def W (P : Program) (r : Option Nat) (n : Nat) : Code → (Exit → Env → World → Prop) → Env → World → Prop
  | .skip, Q => fun e w => Q .normal e w
  | .label _, Q => fun e w => Q .normal e w
  | .ret, Q => fun e w => Q .ret e w
  | .exit id, Q => fun e w => Q (.exit id) e w
  | .goto l, Q => fun e w => Q (.goto l) e w
  | .seq x y, Q => W P r n x (Qthen (W P r n y Q) Q)
  | .cond c x y, Q => fun e w => ∃ t, ev e c = .bool t ∧ (t = true → W P r n x Q e w) ∧ (t = false → W P r n y Q e w)
  | .block id c, Q => W P r n c (Qblock id Q)
  | .loop c, Q => fun e w => ∃ I : Nat → Env → World → Prop, (∃ k, I k e w) ∧ ∀ k e w, I k e w → W P r n c (Qthen (fun e' w' => ∃ k', k' < k ∧ I k' e' w') Q) e w
  | .region _ ops false, Q => Wops P r ops.toList Q ops.toList
  | .region _ ops true, Q => fun e w => (∀ t, Wops P r ops.toList Q (picked ops.toList (Region.schedule (P.follows .mixedOrders) ops t)) e { w with drawn := w.drawn + 1 }) ∨
      (r = none ∧ P.follows .mixedOrders = true ∧ Region.lexB .any ops = true ∧ ∃ C : World → Prop, C w.drew ∧ Wq P ops.toList C (fun e' => ∀ w', C w' → Q .normal e' w') ops.toList e) ∨
      (r = none ∧ P.follows .mixedOrders = true ∧ ∃ k, Region.lexTailB .any ops k = true ∧ allTail (ops.toList.drop k) = true ∧
        Wq P ops.toList (fun x => x = w.drew) (fun e' => Wops P r ops.toList Q (ops.toList.drop k) e' w.drew) (ops.toList.take k) e)
  | .rangeFunc f ps assign body, Q => fun e w => ∃ d, rfBlock r w d ∧ ∀ fn tmps, tmps.size = n → (∀ i, tmps.getD i undef = e.g i) →
      let w1 := rfWorld r w
      let w2 := w1.alloc (.loop { state := .ready, pending := none, fn, tmps, params := ps, assign, body, defers := d })
      ∃ g first captured, ev e f = .func (.func g) first captured ∧ (callFunc g (first ++ #[.func (.yield w1.heap.size) #[] #[]] ++ captured)).run P w2 = .ok (.enter g (first ++ #[.func (.yield w1.heap.size) #[] #[]] ++ captured)) w2 ∧
        Ret P g (first ++ #[.func (.yield w1.heap.size) #[] #[]] ++ captured) w2 fun _ w3 =>
          ∃ lo, w3.heap[w1.heap.size]? = some (.loop lo) ∧ lo.state ≠ .busy ∧ jumped Q ⟨e.g, rfMark r w ++ e.ds⟩ (w3.putObj w1.heap.size (.loop { lo with state := .exhausted })) lo.pending
  | .scope c, Q => W P r n c (Qscope Q)
  | .refuse _, _ => fun _ _ => False

section
variable {P : Program} {r : Option Nat} {n : Nat} {Q : Exit → Env → World → Prop} {e : Env} {w : World}

theorem lift_mono {Q' : Exit → Env → World → Prop} (h : ∀ x e w, Q x e w → Q' x e w) : ∀ x a w, Lift n Q x a w → Lift n Q' x a w :=
  fun _ _ _ ⟨e, hs, hq⟩ => ⟨e, hs, h _ _ _ hq⟩

theorem lift_then {K : Env → World → Prop} {K' : Act → World → Prop} (h : ∀ e a w, Sim n e a → K e w → K' a w) : ∀ x a w, Lift n (Qthen K Q) x a w → Exit.then K' (Lift n Q) x a w := by
  rintro z a' w' ⟨e', hs', hq⟩
  cases z with
  | normal => exact h _ _ _ hs' hq
  | exit id => exact ⟨e', hs', hq⟩
  | goto l => exact ⟨e', hs', hq⟩
  | ret => exact ⟨e', hs', hq⟩
  | panic c => exact ⟨e', hs', hq⟩
  | outgrown => exact ⟨e', hs', hq⟩

theorem wpIn_loopN {c : Code} {F : Fence} {Q : Exit → Act → World → Prop} (I : Nat → Act → World → Prop) (a : Act) (w : World) (h0 : ∃ k, I k a w)
    (round : ∀ k a w, I k a w → c.wpIn F 0 P (Exit.then (fun a' w' => ∃ k', k' < k ∧ I k' a' w') Q) a w) : (Code.loop c).wpIn F 0 P Q a w := by
  have hleast : ∀ a w, (∃ k, I k a w) → ∃ k, I k a w ∧ ∀ j, I j a w → k ≤ j := by
    intro a w ⟨k, hk⟩
    induction k using Nat.strongRecOn with
    | _ k ih =>
      by_cases hx : ∃ j, j < k ∧ I j a w
      · obtain ⟨j, hj, hjp⟩ := hx
        exact ih j hj hjp
      · refine ⟨k, hk, fun j hj => ?_⟩
        rcases Nat.lt_or_ge j k with h | h
        · exact absurd ⟨j, h, hj⟩ hx
        · exact h
  refine wpIn_loop (fun a w => ∃ k, I k a w) (fun a w => Classical.epsilon (fun k => I k a w ∧ ∀ j, I j a w → k ≤ j)) h0 ?_
  intro a w hI
  have hsp := Classical.epsilon_spec (hleast a w hI)
  refine wpIn_mono (round _ a w hsp.1) ?_
  intro x a' w' hq
  cases x with
  | normal =>
    obtain ⟨k', hk', hI'⟩ := hq
    refine ⟨⟨k', hI'⟩, ?_⟩
    have h3 := (Classical.epsilon_spec (hleast a' w' ⟨k', hI'⟩)).2 k' hI'
    exact Nat.lt_of_le_of_lt h3 hk'
  | exit id => exact hq
  | goto l => exact hq
  | ret => exact hq
  | panic c => exact hq
  | outgrown => exact hq


theorem stepR_scope {b : Frame} {a : Act} {k : List Item} {cs : List Frame} {c : Code} : step P (lone (b.atR a (.code (.scope c) :: k)) cs w) = .next (lone (b.atR a (.code c :: .inScope c :: k)) cs w) :=
  step_lone_go (by simp [stepG, stepG.exec, Frame.atR])
theorem stepR_inScope {b : Frame} {a : Act} {k : List Item} {cs : List Frame} {c : Code} : step P (lone (b.atR a (.inScope c :: k)) cs w) = .next (lone (b.atR a k) cs w) :=
  step_lone_go (by simp [stepG, stepG.exec, Frame.atR])

/-- A scope that no goto leaves. -/
def noGoto (Q : Exit → Act → World → Prop) : Exit → Act → World → Prop
  | .goto _, _, _ => False
  | x, a, w => Q x a w

theorem lift_scope : ∀ x a w, Lift n (Qscope Q) x a w → noGoto (Lift n Q) x a w := by
  rintro z a' w' ⟨e', hs', hq⟩
  cases z with
  | goto l => exact hq
  | normal => exact ⟨e', hs', hq⟩
  | exit id => exact ⟨e', hs', hq⟩
  | ret => exact ⟨e', hs', hq⟩
  | panic c => exact ⟨e', hs', hq⟩
  | outgrown => exact ⟨e', hs', hq⟩

theorem wpIn_scope {F : Fence} {c : Code} {Q : Exit → Act → World → Prop} {a : Act} (h : c.wpIn F 0 P (noGoto Q) a w) : (Code.scope c).wpIn F 0 P Q a w := by
  intro b k cs hro hb hr
  have h0 : (lone (b.atR a (.code (.scope c) :: k)) cs w).fenced P F := fenced_calm hb hr rfl
  obtain ⟨e, a₁, w₁, hq, harr⟩ := h b (.inScope c :: k) cs hro hb hr
  have hx : ∀ id, exitTo id (.inScope c :: k) = exitTo id k := fun id => by simp [exitTo]
  cases e with
  | normal => exact ⟨.normal, a₁, w₁, hq, .head h0 stepR_scope (StepsIn.trans harr (.one (fenced_calm hb hr rfl) stepR_inScope))⟩
  | exit id =>
    refine ⟨.exit id, a₁, w₁, hq, fun k' hk => .head h0 stepR_scope (harr.1 k' (by rw [hx]; exact hk)), fun hr' hk => ?_⟩
    obtain ⟨k₁, h1, h2⟩ := harr.2 hr' (by rw [hx]; exact hk)
    exact ⟨k₁, h1, .head h0 stepR_scope h2⟩
  | goto l => exact hq.elim
  | ret => exact ⟨_, a₁, w₁, hq, .of_steps (.one h0 stepR_scope) harr⟩
  | panic ch => exact ⟨_, a₁, w₁, hq, .of_steps (.one h0 stepR_scope) harr⟩
  | outgrown => exact ⟨_, a₁, w₁, hq, .of_steps (.one h0 stepR_scope) harr⟩

/-- The statement 'for .. := range f': what must be shown. -/
theorem rangeFunc_sound {f : Operand} {ps : Array Tmp} {assign body : Code} (h : W P r n (.rangeFunc f ps assign body) Q e w) (a : Act) (hs : Sim n e a) :
    (Code.rangeFunc f ps assign body).wpIn (Fr r) 0 P (Lift n Q) a w := by
  refine wpIn_rangeFunc ?_
  intro fn _
  have hev := hs.eval
  obtain ⟨d, hd, h⟩ := h
  obtain ⟨g, first, captured, hg, hcf, hret⟩ := h fn a.tmps hs.2.1 hs.2.2
  have hs' : Sim n ⟨e.g, rfMark r w ++ e.ds⟩ { a with defers := rfMark r w ++ a.defers } := ⟨congrArg (rfMark r w ++ ·) hs.1, hs.2.1, hs.2.2⟩
  have hent : (Instr.enterLoop fn a.tmps ps assign body r).run P w = .ok ((rfWorld r w).heap.size, rfMark r w)
      ((rfWorld r w).alloc (.loop { state := .ready, pending := none, fn, tmps := a.tmps, params := ps, assign, body, defers := d })) := by
    cases r with
    | none =>
      subst hd
      have := run_enterLoop_outer (P := P) (w := w) fn a.tmps ps assign body
      simp only [rfWorld, rfMark, World.size_alloc]
      exact this
    | some l =>
      obtain ⟨lo0, hl, rfl⟩ := hd
      show (Instr.enterLoop fn a.tmps ps assign body (some l)).run P w = _
      simp only [Instr.enterLoop, Sem.run_bind, run_getLoop hl, Result.andThen, Sem.run_pure, run_newObj_alloc, rfWorld, rfMark]
  generalize hw1 : rfWorld r w = w1 at hent hcf hret
  generalize hw2 : w1.alloc (.loop { state := .ready, pending := none, fn, tmps := a.tmps, params := ps, assign, body, defers := d }) = w2 at hent hcf hret
  refine ⟨w1.heap.size, rfMark r w, w2, { target := .fn (.func g) captured, args := first ++ #[.func (.yield w1.heap.size) #[] #[]] }, w2, g, first ++ #[.func (.yield w1.heap.size) #[] #[]] ++ captured, w2, hent, ?_, (fun _ _ => trivial), (by simp only [invoke]; exact hcf), (fun hc => by cases hc), ?_⟩
  · rw [hev]
    simp only [resolve, List.map_toArray, List.map_cons, List.map_nil, hg]
    rfl
  · refine CallsIn.mono hret ?_
    rintro x w3 ⟨v, rfl, lo, hlo, hb, hj⟩
    refine ⟨_, _, run_endLoop hlo hb, ?_⟩
    generalize lo.pending = jump at hj
    match jump, hj with
    | none, hj => exact ⟨_, hs', hj⟩
    | some .ret, hj => exact wpIn_ret ⟨_, hs', hj⟩
    | some (.exit id), hj => exact wpIn_exit ⟨_, hs', hj⟩
    | some (.goto l), hj => exact wpIn_goto ⟨_, hs', hj⟩

/-- **The rules are sound.** -/
theorem W_sound : ∀ (c : Code) (Q : Exit → Env → World → Prop) (e : Env) (w : World), W P r n c Q e w → fits n c = true → ∀ a, Sim n e a → c.wpIn (Fr r) 0 P (Lift n Q) a w
  | .skip, Q, e, w, h, _, a, hs => wpIn_skip ⟨e, hs, h⟩
  | .label _, Q, e, w, h, _, a, hs => wpIn_label ⟨e, hs, h⟩
  | .ret, Q, e, w, h, _, a, hs => wpIn_ret ⟨e, hs, h⟩
  | .exit _, Q, e, w, h, _, a, hs => wpIn_exit ⟨e, hs, h⟩
  | .goto _, Q, e, w, h, _, a, hs => wpIn_goto ⟨e, hs, h⟩
  | .seq x y, Q, e, w, h, hf, a, hs => by
    simp only [fits, Bool.and_eq_true] at hf
    exact wpIn_seq (wpIn_mono (W_sound x _ e w h hf.1 a hs) (lift_then fun e' a' w' hs' hk => W_sound y Q e' w' hk hf.2 a' hs'))
  | .cond c x y, Q, e, w, h, hf, a, hs => by
    simp only [fits, Bool.and_eq_true] at hf
    obtain ⟨t, hc, h1, h2⟩ := h
    exact wpIn_cond_split (t := t) (by rw [hs.eval]; exact hc) (fun ht => W_sound x Q e w (h1 ht) hf.1 a hs) (fun ht => W_sound y Q e w (h2 ht) hf.2 a hs)
  | .block id c, Q, e, w, h, hf, a, hs => by
    refine wpIn_block (wpIn_mono (W_sound c _ e w h hf a hs) ?_)
    rintro z a' w' ⟨e', hs', hq⟩
    cases z with
    | exit id' =>
      show (if id' = id then Lift n Q .normal a' w' else Lift n Q (.exit id') a' w')
      by_cases hi : id' = id
      · subst hi
        rw [if_pos rfl]
        have hb : Nat.beq id' id' = true := Nat.beq_refl id'
        simp only [Qblock, hb, cond_true] at hq
        exact ⟨e', hs', hq⟩
      · rw [if_neg hi]
        have hb : Nat.beq id' id = false := by
          cases hc : Nat.beq id' id with
          | false => rfl
          | true => exact absurd (Nat.eq_of_beq_eq_true hc) hi
        simp only [Qblock, hb, cond_false] at hq
        exact ⟨e', hs', hq⟩
    | normal => exact ⟨e', hs', hq⟩
    | goto l => exact ⟨e', hs', hq⟩
    | ret => exact ⟨e', hs', hq⟩
    | panic c => exact ⟨e', hs', hq⟩
    | outgrown => exact ⟨e', hs', hq⟩
  | .loop c, Q, e, w, h, hf, a, hs => by
    obtain ⟨I, ⟨k, h0⟩, hr⟩ := h
    refine wpIn_loopN (fun k a w => ∃ e, Sim n e a ∧ I k e w) a w ⟨k, e, hs, h0⟩ ?_
    rintro k a w ⟨e, hs, hI⟩
    refine wpIn_mono (W_sound c _ e w (hr k e w hI) hf a hs) (lift_then ?_)
    rintro e' a' w' hs' ⟨k', hk', hI'⟩
    exact ⟨k', hk', e', hs', hI'⟩
  | .region _ ops false, Q, e, w, h, hf, a, hs => by
    refine wpIn_region ?_
    have h2 : Wops P r ops.toList Q (picked ops.toList (List.range ops.size)) e w := by
      rw [List.range_eq_range', ← Array.length_toList, picked_range ops.toList ops.toList 0 (by simp)]
      exact h
    exact wops_in (n := n) (ops := ops.toList) hf _ e a w hs h2
  | .region id ops true, Q, e, w, h, hf, a, hs => by
    rcases h with h | ⟨rfl, hm, hB, C, hC, h⟩ | ⟨rfl, hm, k, hB, ht, h⟩
    · refine wpIn_region_draw fun t => ?_
      exact wops_in (n := n) (ops := ops.toList) hf _ e a _ hs (h t)
    · refine wpIn_region_quiet (C := C) rfl hm hB hC ?_
      have := wq_in (n := n) (C := C) (Q' := fun a' => ∀ w', C w' → Lift n Q .normal a' w') (fun e' a' hs' hq w' hw' => ⟨e', hs', hq w' hw'⟩) ops.toList e a hf hs h
      simpa using this
    · have hf2 : allFit n ops.toList = true := hf
      rw [← List.take_append_drop k ops.toList, allFit_app, Bool.and_eq_true] at hf2
      have h1 := wq_still (n := n) (Q' := fun a' => wpList P ops.toList.toArray (Lift n Q) (ops.toList.drop k) a' w.drew) (fun e' a' hs' hq => wops_list _ e' a' _ hf2.2 ht hs' hq) _ e a hf2.1 hs h
      rw [fr_none]
      refine wpIn_wide.2 ?_
      have h2 := wp_region_still_tail (P := P) (l := ops.toList) (Q := Lift n Q) (a := a) (w := w) (id := id) k hm (by simpa using hB) h1
      simpa using h2
  | .rangeFunc f ps assign body, Q, e, w, h, hf, a, hs => rangeFunc_sound h a hs
  | .scope c, Q, e, w, h, hf, a, hs => wpIn_scope (wpIn_mono (W_sound c _ e w h hf a hs) lift_scope)
  | .refuse _, Q, e, w, h, _, a, hs => h.elim
end
section
variable {P : Program} {r : Option Nat} {n : Nat} {Q : Exit → Env → World → Prop} {e : Env} {w : World}

/-- What must hold where a function's body is left: its results, no deferred call. -/
def Qret (P : Program) (fn : Func) (R : Value → World → Prop) : Exit → Env → World → Prop
  | .normal, e, w | .ret, e, w => e.ds = [] ∧ ∀ tmps : Array Value, (∀ i, tmps.getD i undef = e.g i) → ∃ v, (results fn tmps).run P w = .ok v w ∧ R v w
  | _, _, _ => False

theorem ret_of_W {f : FuncId} {fn : Func} {c : Code} {args : Array Value} {R : Value → World → Prop} (hf : P.funcs[f]? = some fn) (hb : fn.body = some c)
    (l : List Value) (hargs : args = l.toArray) (hfit : (Nat.ble l.length fn.ntmps && fits fn.ntmps c) = true)
    (h : W P none fn.ntmps c (Qret P fn R) ⟨fun i => l.getD i undef, []⟩ w) : Ret P f args w R := by
  simp only [Bool.and_eq_true] at hfit
  refine callsIn_of_wp hf hb trivial ?_
  refine wpIn_mono (W_sound (r := none) c _ _ w h hfit.2 _ ?_) ?_
  · refine ⟨rfl, ?_, fun i => ?_⟩
    · subst hargs
      have := Nat.le_of_ble_eq_true hfit.1
      simp; omega
    · subst hargs
      simp only [Array.getD_eq_getD_getElem?, List.getD_eq_getElem?_getD]
      rw [Array.getElem?_append]
      by_cases hi : i < l.length
      · simp [hi]
      · simp only [List.size_toArray, if_neg hi]
        rw [List.getElem?_eq_none (by omega)]
        rw [Array.getElem?_replicate]
        split <;> rfl
  · rintro x a' w' ⟨e', hs', hq⟩
    cases x with
    | normal => exact ⟨hs'.1.trans hq.1, let ⟨v, h1, h2⟩ := hq.2 _ hs'.2.2; ⟨v, h1, _, rfl, h2⟩⟩
    | ret => exact ⟨hs'.1.trans hq.1, let ⟨v, h1, h2⟩ := hq.2 _ hs'.2.2; ⟨v, h1, _, rfl, h2⟩⟩
    | exit id => exact hq.elim
    | goto l => exact hq.elim
    | panic c => exact hq.elim
    | outgrown => exact hq.elim

theorem leave0 {fn : Func} {R : Value → World → Prop} (hr : fn.results = #[]) (hd : e.ds = []) (h : R (.tuple #[]) w) : Qret P fn R .ret e w :=
  ⟨hd, fun tmps _ => ⟨_, by simp [results, hr], h⟩⟩
theorem leave0n {fn : Func} {R : Value → World → Prop} (hr : fn.results = #[]) (hd : e.ds = []) (h : R (.tuple #[]) w) : Qret P fn R .normal e w :=
  ⟨hd, fun tmps _ => ⟨_, by simp [results, hr], h⟩⟩
theorem leave1 {fn : Func} {R : Value → World → Prop} {t : Tmp} {v : Value} (hr : fn.results = #[.tmp t]) (hd : e.ds = []) (hv : e.g t = v) (h : R v w) : Qret P fn R .ret e w :=
  ⟨hd, fun tmps ht => by
    have h1 := (ht t).trans hv
    rw [Array.getD_eq_getD_getElem?] at h1
    exact ⟨v, by simp [results, hr, h1], h⟩⟩
theorem leave2 {fn : Func} {R : Value → World → Prop} {t u : Tmp} {v1 v2 : Value} (hr : fn.results = #[.tmp t, .tmp u]) (hd : e.ds = []) (h1 : e.g t = v1) (h2 : e.g u = v2)
    (h : R (.tuple #[v1, v2]) w) : Qret P fn R .ret e w :=
  ⟨hd, fun tmps ht => by
    have g1 := (ht t).trans h1
    have g2 := (ht u).trans h2
    rw [Array.getD_eq_getD_getElem?] at g1 g2
    exact ⟨_, by simp [results, hr, g1, g2], h⟩⟩
theorem leave3 {fn : Func} {R : Value → World → Prop} {t u s : Tmp} {v1 v2 v3 : Value} (hr : fn.results = #[.tmp t, .tmp u, .tmp s]) (hd : e.ds = []) (h1 : e.g t = v1) (h2 : e.g u = v2) (h3 : e.g s = v3)
    (h : R (.tuple #[v1, v2, v3]) w) : Qret P fn R .ret e w :=
  ⟨hd, fun tmps ht => by
    have g1 := (ht t).trans h1
    have g2 := (ht u).trans h2
    have g3 := (ht s).trans h3
    rw [Array.getD_eq_getD_getElem?] at g1 g2 g3
    exact ⟨_, by simp [results, hr, g1, g2, g3], h⟩⟩
end
end Go.GV
