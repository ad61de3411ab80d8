/- Maps whose keys are integers, as association lists. It holds for every program. -/
import Derived.Test.YtogaoppnoibgdaaGVLib
namespace Go.GV
open Go

/-- The entries in their order. -/
def mget {α : Type} (m : List (Int × α)) (k : Int) : Option α := (m.find? fun p => p.1 == k).map (·.2)
def mset {α : Type} : List (Int × α) → Int → α → List (Int × α)
  | [], k, v => [(k, v)]
  | p :: m, k, v => if p.1 = k then (k, v) :: m else p :: mset m k v
def mdel {α : Type} : List (Int × α) → Int → List (Int × α)
  | [], _ => []
  | p :: m, k => if p.1 = k then m else p :: mdel m k

theorem mget_nil {α : Type} (k : Int) : mget ([] : List (Int × α)) k = none := rfl
theorem mget_mset {α : Type} (m : List (Int × α)) (k : Int) (v : α) (k' : Int) : mget (mset m k v) k' = if k' = k then some v else mget m k' := by
  induction m with
  | nil =>
    unfold mset mget
    by_cases h : k' = k
    · subst h; simp
    · simp [h, Ne.symm h]
  | cons p m ih =>
    unfold mset
    by_cases hp : p.1 = k
    · rw [if_pos hp]
      unfold mget
      by_cases h : k' = k
      · subst h; simp
      · have h1 : (k == k') = false := by simpa using Ne.symm h
        have h2 : (p.1 == k') = false := by rw [hp]; exact h1
        simp [h1, h2, h]
    · rw [if_neg hp]
      unfold mget at ih ⊢
      by_cases h : p.1 = k'
      · have h2 : ¬ k' = k := fun e => hp (h.trans e)
        simp [h, h2]
      · have h1 : (p.1 == k') = false := by simpa using h
        simp only [List.find?_cons, h1]
        exact ih
theorem mset_keys {α : Type} (m : List (Int × α)) (k : Int) (v : α) : ∀ x, x ∈ (mset m k v).map (·.1) ↔ x = k ∨ x ∈ m.map (·.1) := by
  induction m with
  | nil => intro x; simp [mset]
  | cons p m ih =>
    intro x
    unfold mset
    by_cases hp : p.1 = k
    · rw [if_pos hp]; simp [hp]
    · rw [if_neg hp]
      simp only [List.map_cons, List.mem_cons, ih]
      constructor
      · rintro (h | h | h)
        · exact .inr (.inl h)
        · exact .inl h
        · exact .inr (.inr h)
      · rintro (h | h | h)
        · exact .inr (.inl h)
        · exact .inl h
        · exact .inr (.inr h)

/-- The object is a map that reads as m. -/
def MapO (kk : IntKind) (m : List (Int × Value)) (o : Obj) : Prop :=
  ∃ es clock, o = .map es clock ∧ es.toList.map (fun e => (e.key, e.val)) = m.map (fun p => (Value.int kk p.1, p.2)) ∧ (∀ e ∈ es.toList, e.born < clock) ∧ (es.toList.map (·.born)).Nodup

theorem findNow_at (kk : IntKind) (n : Int) : ∀ (es : List MapEntry) (m : List (Int × Value)) (i : Nat), es.map (fun e => (e.key, e.val)) = m.map (fun p => (Value.int kk p.1, p.2)) →
    (mget m n = none → Instr.findNow (.int kk) (.int kk n) es i = some none) ∧
    (∀ v, mget m n = some v → ∃ j, Instr.findNow (.int kk) (.int kk n) es i = some (some (i + j, v)) ∧ j < es.length ∧ ∀ (v' : Value), (es.modify j fun e => { e with key := .int kk n, val := v' }).map (fun e => (e.key, e.val)) = (mset m n v').map (fun p => (Value.int kk p.1, p.2)) ∧ ((es[j]?).map (·.key)) = some (.int kk n) ∧
      (es.eraseIdx j).map (fun e => (e.key, e.val)) = (mdel m n).map (fun p => (Value.int kk p.1, p.2)))
  | [], m, i, h => by
    cases m with
    | nil => exact ⟨fun _ => rfl, fun v hv => by cases hv⟩
    | cons p m => cases h
  | e :: es, m, i, h => by
    cases m with
    | nil => cases h
    | cons p m =>
      simp only [List.map_cons, List.cons.injEq, Prod.mk.injEq] at h
      obtain ⟨⟨hk, hv⟩, ht⟩ := h
      have ih := findNow_at kk n es m (i + 1) ht
      have hs : Instr.sameNow (.int kk) (.int kk n) e.key = some (n == p.1) := by rw [hk]; simp [Instr.sameNow]
      by_cases hn : p.1 = n
      · have hb : (n == p.1) = true := by simp [hn]
        have hg : mget (p :: m) n = some p.2 := by simp [mget, hn]
        refine ⟨(fun h => by rw [hg] at h; cases h), fun v hv' => ?_⟩
        rw [hg] at hv'
        injection hv' with hv'
        subst hv'
        refine ⟨0, by simp [Instr.findNow, hs, hb, hv], by simp, fun v' => ⟨?_, by simp [hk, hn], ?_⟩⟩
        · simp [mset, hn, ht, List.modify]
        · simp [mdel, hn, ht]
      · have hb : (n == p.1) = false := by simpa using Ne.symm hn
        have hb2 : (p.1 == n) = false := by simpa using hn
        have hg : mget (p :: m) n = mget m n := by simp [mget, hb2]
        rw [hg]
        refine ⟨fun h => by simp [Instr.findNow, hs, hb, ih.1 h], fun v hv' => ?_⟩
        obtain ⟨j, h1, h2, h3⟩ := ih.2 v hv'
        refine ⟨j + 1, by simp [Instr.findNow, hs, hb, h1]; omega, by simp; omega, fun v' => ?_⟩
        obtain ⟨a1, a2, a3⟩ := h3 v'
        refine ⟨?_, by simpa using a2, ?_⟩
        · simp only [List.modify_succ_cons, List.map_cons, mset, if_neg hn, a1, hk, hv]
        · simp only [List.eraseIdx_cons_succ, List.map_cons, mdel, if_neg hn, a3, hk, hv]

def mapT (P : Program) (t : TypeId) : Option (TypeId × TypeId) := match P.underlying t with | some (.map k e) => some (k, e) | _ => none
theorem mapT_u {P : Program} {t k e : TypeId} (h : mapT P t = some (k, e)) : P.underlying t = some (.map k e) := by
  unfold mapT at h
  split at h
  · rename_i hu; injection h with h; cases h; exact hu
  · cases h

section
variable {P : Program} {r : Option Nat} {ops rest : List Oper} {Q : Exit → Env → World → Prop} {e : Env} {w w0 : World} {S : List Nat} {L : List (Nat × Obj)}
  {dst : Option Tmp} {ty : TypeId} {pos : String} {af : Array Edge} {g : Option (Nat × Bool)}

theorem run_checkKey {b : Bool} {k : TypeId} {kk : IntKind} (hk : P.underlying k = some (.int kk)) (v : Value) (w : World) (d : Nat) : (Instr.checkKey b (d + 1) k v).run P w = .ok () w := by
  simp [Instr.checkKey, run_under hk]

theorem op_makeMap {t : TypeId} (kk : IntKind) (hg : wants ⟨dst, .makeMap t none, ty, pos, af, g⟩ ops e = true) (H : Ctx w0 S w L)
    (h : ∀ b o w', MapO kk [] o → Ctx w0 S w' ((b, o) :: L) → Wops P r ops Q rest (put e dst (.map (some b))) w') :
    Wops P r ops Q (⟨dst, .makeMap t none, ty, pos, af, g⟩ :: rest) e w := by
  refine op_val (w' := w.alloc (.map #[] 0)) (v := .map (some w.heap.size)) hg rfl ?_ (h _ _ _ ⟨#[], 0, rfl, rfl, by simp, by simp⟩ (H.alloc _))
  simp [execOp, Instr.makeMap, newObj, Sem.run]

theorem op_lookup {t k el : TypeId} {kk : IntKind} {x y : Operand} {b j : Nat} {o : Obj} {m : List (Int × Value)} {n : Int} {z : Value} (hg : wants ⟨dst, .lookup t x y false, ty, pos, af, g⟩ ops e = true)
    (ht : mapT P t = some (k, el)) (hk : P.underlying k = some (.int kk)) (hz : (P.info? el).bind (·.zero) = some z) (hx : ev e x = .map (some b)) (hy : ev e y = .int kk n) (H : Ctx w0 S w L) (hl : L[j]? = some (b, o)) (hM : MapO kk m o)
    (h : Wops P r ops Q rest (put e dst ((mget m n).getD z)) w) : Wops P r ops Q (⟨dst, .lookup t x y false, ty, pos, af, g⟩ :: rest) e w := by
  obtain ⟨es, clock, rfl, hes, _⟩ := hM
  have hb := H.get hl
  have hf := findNow_at kk n es.toList m 0 hes
  have hgo : (getObj b).run P w = .ok (.map es clock) w := by simp [getObj, Sem.run, hb]
  have hzr : (zeroValue el).run P w = .ok z w := by
    cases hi : P.info? el with
    | none => rw [hi] at hz; cases hz
    | some i => rw [hi] at hz; simp at hz; simp [zeroValue, typeInfo, program, Sem.run, hi, hz]
  refine op_val hg rfl ?_ h
  cases hm : mget m n with
  | none => simp [execOp, Instr.lookup, run_under (mapT_u ht), hx, hy, hgo, run_checkKey hk, Instr.findKey, run_under hk, hf.1 hm, hzr]
  | some v =>
    obtain ⟨i, hi, _⟩ := hf.2 v hm
    simp [execOp, Instr.lookup, run_under (mapT_u ht), hx, hy, hgo, run_checkKey hk, Instr.findKey, run_under hk, hi]

theorem op_lookupOk {t k el : TypeId} {kk : IntKind} {x y : Operand} {b j : Nat} {o : Obj} {m : List (Int × Value)} {n : Int} {z : Value} (hg : wants ⟨dst, .lookup t x y true, ty, pos, af, g⟩ ops e = true)
    (ht : mapT P t = some (k, el)) (hk : P.underlying k = some (.int kk)) (hz : (P.info? el).bind (·.zero) = some z) (hx : ev e x = .map (some b)) (hy : ev e y = .int kk n) (H : Ctx w0 S w L) (hl : L[j]? = some (b, o)) (hM : MapO kk m o)
    (h : Wops P r ops Q rest (put e dst (.tuple #[(mget m n).getD z, .bool (mget m n).isSome])) w) : Wops P r ops Q (⟨dst, .lookup t x y true, ty, pos, af, g⟩ :: rest) e w := by
  obtain ⟨es, clock, rfl, hes, _⟩ := hM
  have hb := H.get hl
  have hf := findNow_at kk n es.toList m 0 hes
  have hgo : (getObj b).run P w = .ok (.map es clock) w := by simp [getObj, Sem.run, hb]
  have hzr : (zeroValue el).run P w = .ok z w := by
    cases hi : P.info? el with
    | none => rw [hi] at hz; cases hz
    | some i => rw [hi] at hz; simp at hz; simp [zeroValue, typeInfo, program, Sem.run, hi, hz]
  refine op_val hg rfl ?_ h
  cases hm : mget m n with
  | none => simp [execOp, Instr.lookup, run_under (mapT_u ht), hx, hy, hgo, run_checkKey hk, Instr.findKey, run_under hk, hf.1 hm, hzr]
  | some v =>
    obtain ⟨i, hi, _⟩ := hf.2 v hm
    simp [execOp, Instr.lookup, run_under (mapT_u ht), hx, hy, hgo, run_checkKey hk, Instr.findKey, run_under hk, hi]

theorem run_mapUpdate {t k el : TypeId} {kk : IntKind} {b j : Nat} {o : Obj} {m : List (Int × Value)} {n : Int} (v : Value) (ht : mapT P t = some (k, el)) (hk : P.underlying k = some (.int kk)) (H : Ctx w0 S w L) (hl : L[j]? = some (b, o)) (hM : MapO kk m o) :
    ∃ o' w', (Instr.mapUpdate t (.map (some b)) (.int kk n) v).run P w = .ok () w' ∧ MapO kk (mset m n v) o' ∧ Ctx w0 S w' (L.set j (b, o')) := by
  obtain ⟨es, clock, rfl, hes, hbn, hnd⟩ := hM
  have hb := H.get hl
  have hf := findNow_at kk n es.toList m 0 hes
  have hgo : (getObj b).run P w = .ok (.map es clock) w := by simp [getObj, Sem.run, hb]
  have hso : ∀ o', (setObj b o').run P w = .ok () (w.putObj b o') := fun o' => by simp [setObj, Sem.run, hb, World.putObj]
  cases hm : mget m n with
  | none =>
    refine ⟨.map (es.push { key := .int kk n, val := v, born := clock }) (clock + 1), w.putObj b _, ?_, ⟨_, _, rfl, ?_, ?_, ?_⟩, H.setB hl _⟩
    · simp [Instr.mapUpdate, run_under (mapT_u ht), hgo, run_checkKey hk, Instr.findKey, run_under hk, hf.1 hm, hso]
    · have hms : mset m n v = m ++ [(n, v)] := by
        clear hes hf
        induction m with
        | nil => rfl
        | cons p m ih =>
          have hp : ¬ p.1 = n := by
            intro hp
            simp [mget, hp] at hm
          have hb2 : (p.1 == n) = false := by simpa using hp
          have hm2 : mget m n = none := by rw [← hm]; simp [mget, hb2]
          simp [mset, hp, ih hm2]
      rw [hms]
      simp [hes]
    · intro x hx
      simp only [Array.toList_push, List.mem_append, List.mem_singleton] at hx
      rcases hx with hx | rfl
      · have := hbn x hx; omega
      · simp
    · simp only [Array.toList_push, List.map_append, List.map_cons, List.map_nil]
      rw [List.nodup_append]
      refine ⟨hnd, by simp, ?_⟩
      intro x hx y hy
      simp only [List.mem_singleton] at hy
      subst hy
      rw [List.mem_map] at hx
      obtain ⟨e', he', rfl⟩ := hx
      have := hbn e' he'
      omega
  | some v0 =>
    obtain ⟨i, hi, hil, h3⟩ := hf.2 v0 hm
    obtain ⟨a1, a2, _⟩ := h3 v
    have hkts : (Instr.keyThatStays (.int kk n) (.int kk n)).run P w = .ok (.int kk n) w := by simp [Instr.keyThatStays, Instr.sameBits]
    have hold : ((es[i]?).map (·.key)).getD (.int kk n) = .int kk n := by
      have : es[i]? = es.toList[i]? := by rw [Array.getElem?_toList]
      rw [this, a2]; rfl
    refine ⟨.map (es.modify i fun e => { e with key := .int kk n, val := v }) clock, w.putObj b _, ?_, ⟨_, _, rfl, ?_, ?_, ?_⟩, H.setB hl _⟩
    · simp [Instr.mapUpdate, run_under (mapT_u ht), hgo, run_checkKey hk, Instr.findKey, run_under hk, hi, hold, hkts, hso]
    · rw [Array.toList_modify]; exact a1
    · intro x hx
      rw [Array.toList_modify, List.mem_iff_getElem?] at hx
      obtain ⟨q, hq⟩ := hx
      rw [List.getElem?_modify] at hq
      cases hq2 : es.toList[q]? with
      | none => rw [hq2] at hq; simp at hq
      | some y =>
        rw [hq2] at hq
        have hy := hbn y (List.mem_of_getElem? hq2)
        injection hq with hq
        subst hq
        dsimp only
        split <;> exact hy
    · rw [Array.toList_modify]
      have : (es.toList.modify i fun e => { e with key := .int kk n, val := v }).map (·.born) = es.toList.map (·.born) := by
        apply List.ext_getElem?
        intro q
        rw [List.getElem?_map, List.getElem?_map, List.getElem?_modify]
        cases es.toList[q]? with
        | none => rfl
        | some y => show some (Value.map none, (if i = q then _ else y).born).2 = some y.born; split <;> rfl
      rw [this]; exact hnd

theorem op_mapUpdate {t k el : TypeId} {kk : IntKind} {x y z : Operand} {b j : Nat} {o : Obj} {m : List (Int × Value)} {n : Int} (v : Value) (hg : wants ⟨dst, .mapUpdate t x y z, ty, pos, af, g⟩ ops e = true)
    (ht : mapT P t = some (k, el)) (hk : P.underlying k = some (.int kk)) (hx : ev e x = .map (some b)) (hy : ev e y = .int kk n) (hv : ev e z = v) (H : Ctx w0 S w L) (hl : L[j]? = some (b, o)) (hM : MapO kk m o)
    (h : ∀ o' w', MapO kk (mset m n v) o' → Ctx w0 S w' (L.set j (b, o')) → Wops P r ops Q rest (put e dst undef) w') : Wops P r ops Q (⟨dst, .mapUpdate t x y z, ty, pos, af, g⟩ :: rest) e w := by
  obtain ⟨o', w', hr, hM', H'⟩ := run_mapUpdate (n := n) v ht hk H hl hM
  exact op_unit hg rfl (by simp [execOp, hx, hy, hv, hr]) (h o' w' hM' H')
end
section
variable {P : Program} {r : Option Nat} {n : Nat} {Q : Exit → Env → World → Prop} {e : Env} {w : World}
/-- A test of a slot that is tested again further on. -/
theorem W_csplit {x y : Code} (d : Tmp) {b : Bool} (hd : e.g d = .bool b) (h1 : b = true → W P r n x Q (put e (some d) (.bool true)) w) (h2 : b = false → W P r n y Q (put e (some d) (.bool false)) w) :
    W P r n (.cond (.tmp d) x y) Q e w := by
  refine W_cond b hd (fun h => ?_) (fun h => ?_)
  · have h3 := h1 h; rw [put_same_val (by rw [hd, h])] at h3; exact h3
  · have h3 := h2 h; rw [put_same_val (by rw [hd, h])] at h3; exact h3
end
end Go.GV
