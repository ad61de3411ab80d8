/- Part 2 of the proof. -/
import Derived.Test.YtkmbcpgnafmnpaaDoorPart1
import Derived.Laws.Tables
import Derived.Laws.AppendOwn
import Derived.Laws.IdiomStrings
import Derived.Laws.Strings
import Derived.Test.YtkmbcpgnafmnpaaDoorProg
import Derived.KernelRfl
/- Maps whose keys are integers, as association lists. It holds for every program. -/
namespace Go.GV
open Go

/-- The entries in their order. -/
def mget {α : Type} (m : List (Int × α)) (k : Int) : Option α := (m.find? fun p => p.1 == k).map (·.2)
def mset {α : Type} : List (Int × α) → Int → α → List (Int × α)
  | [], k, v => [(k, v)]
  | p :: m, k, v => if p.1 = k then (k, v) :: m else p :: mset m k v
def mdel {α : Type} : List (Int × α) → Int → List (Int × α)
  | [], _ => []
  | p :: m, k => if p.1 = k then m else p :: mdel m k

theorem mget_nil {α : Type} (k : Int) : mget ([] : List (Int × α)) k = none := rfl
theorem mget_mset {α : Type} (m : List (Int × α)) (k : Int) (v : α) (k' : Int) : mget (mset m k v) k' = if k' = k then some v else mget m k' := by
  induction m with
  | nil =>
    unfold mset mget
    by_cases h : k' = k
    · subst h; simp
    · simp [h, Ne.symm h]
  | cons p m ih =>
    unfold mset
    by_cases hp : p.1 = k
    · rw [if_pos hp]
      unfold mget
      by_cases h : k' = k
      · subst h; simp
      · have h1 : (k == k') = false := by simpa using Ne.symm h
        have h2 : (p.1 == k') = false := by rw [hp]; exact h1
        simp [h1, h2, h]
    · rw [if_neg hp]
      unfold mget at ih ⊢
      by_cases h : p.1 = k'
      · have h2 : ¬ k' = k := fun e => hp (h.trans e)
        simp [h, h2]
      · have h1 : (p.1 == k') = false := by simpa using h
        simp only [List.find?_cons, h1]
        exact ih
theorem mset_keys {α : Type} (m : List (Int × α)) (k : Int) (v : α) : ∀ x, x ∈ (mset m k v).map (·.1) ↔ x = k ∨ x ∈ m.map (·.1) := by
  induction m with
  | nil => intro x; simp [mset]
  | cons p m ih =>
    intro x
    unfold mset
    by_cases hp : p.1 = k
    · rw [if_pos hp]; simp [hp]
    · rw [if_neg hp]
      simp only [List.map_cons, List.mem_cons, ih]
      constructor
      · rintro (h | h | h)
        · exact .inr (.inl h)
        · exact .inl h
        · exact .inr (.inr h)
      · rintro (h | h | h)
        · exact .inr (.inl h)
        · exact .inl h
        · exact .inr (.inr h)

/-- The object is a map that reads as m. -/
def MapO (kk : IntKind) (m : List (Int × Value)) (o : Obj) : Prop :=
  ∃ es clock, o = .map es clock ∧ es.toList.map (fun e => (e.key, e.val)) = m.map (fun p => (Value.int kk p.1, p.2)) ∧ (∀ e ∈ es.toList, e.born < clock) ∧ (es.toList.map (·.born)).Nodup

theorem findNow_at (kk : IntKind) (n : Int) : ∀ (es : List MapEntry) (m : List (Int × Value)) (i : Nat), es.map (fun e => (e.key, e.val)) = m.map (fun p => (Value.int kk p.1, p.2)) →
    (mget m n = none → Instr.findNow (.int kk) (.int kk n) es i = some none) ∧
    (∀ v, mget m n = some v → ∃ j, Instr.findNow (.int kk) (.int kk n) es i = some (some (i + j, v)) ∧ j < es.length ∧ ∀ (v' : Value), (es.modify j fun e => { e with key := .int kk n, val := v' }).map (fun e => (e.key, e.val)) = (mset m n v').map (fun p => (Value.int kk p.1, p.2)) ∧ ((es[j]?).map (·.key)) = some (.int kk n) ∧
      (es.eraseIdx j).map (fun e => (e.key, e.val)) = (mdel m n).map (fun p => (Value.int kk p.1, p.2)))
  | [], m, i, h => by
    cases m with
    | nil => exact ⟨fun _ => rfl, fun v hv => by cases hv⟩
    | cons p m => cases h
  | e :: es, m, i, h => by
    cases m with
    | nil => cases h
    | cons p m =>
      simp only [List.map_cons, List.cons.injEq, Prod.mk.injEq] at h
      obtain ⟨⟨hk, hv⟩, ht⟩ := h
      have ih := findNow_at kk n es m (i + 1) ht
      have hs : Instr.sameNow (.int kk) (.int kk n) e.key = some (n == p.1) := by rw [hk]; simp [Instr.sameNow]
      by_cases hn : p.1 = n
      · have hb : (n == p.1) = true := by simp [hn]
        have hg : mget (p :: m) n = some p.2 := by simp [mget, hn]
        refine ⟨(fun h => by rw [hg] at h; cases h), fun v hv' => ?_⟩
        rw [hg] at hv'
        injection hv' with hv'
        subst hv'
        refine ⟨0, by simp [Instr.findNow, hs, hb, hv], by simp, fun v' => ⟨?_, by simp [hk, hn], ?_⟩⟩
        · simp [mset, hn, ht, List.modify]
        · simp [mdel, hn, ht]
      · have hb : (n == p.1) = false := by simpa using Ne.symm hn
        have hb2 : (p.1 == n) = false := by simpa using hn
        have hg : mget (p :: m) n = mget m n := by simp [mget, hb2]
        rw [hg]
        refine ⟨fun h => by simp [Instr.findNow, hs, hb, ih.1 h], fun v hv' => ?_⟩
        obtain ⟨j, h1, h2, h3⟩ := ih.2 v hv'
        refine ⟨j + 1, by simp [Instr.findNow, hs, hb, h1]; omega, by simp; omega, fun v' => ?_⟩
        obtain ⟨a1, a2, a3⟩ := h3 v'
        refine ⟨?_, by simpa using a2, ?_⟩
        · simp only [List.modify_succ_cons, List.map_cons, mset, if_neg hn, a1, hk, hv]
        · simp only [List.eraseIdx_cons_succ, List.map_cons, mdel, if_neg hn, a3, hk, hv]

def mapT (P : Program) (t : TypeId) : Option (TypeId × TypeId) := match P.underlying t with | some (.map k e) => some (k, e) | _ => none
theorem mapT_u {P : Program} {t k e : TypeId} (h : mapT P t = some (k, e)) : P.underlying t = some (.map k e) := by
  unfold mapT at h
  split at h
  · rename_i hu; injection h with h; cases h; exact hu
  · cases h

section
variable {P : Program} {r : Option Nat} {ops rest : List Oper} {Q : Exit → Env → World → Prop} {e : Env} {w w0 : World} {S : List Nat} {L : List (Nat × Obj)}
  {dst : Option Tmp} {ty : TypeId} {pos : String} {af : Array Edge} {g : Option (Nat × Bool)}

theorem run_checkKey {b : Bool} {k : TypeId} {kk : IntKind} (hk : P.underlying k = some (.int kk)) (v : Value) (w : World) (d : Nat) : (Instr.checkKey b (d + 1) k v).run P w = .ok () w := by
  simp [Instr.checkKey, run_under hk]

theorem op_makeMap {t : TypeId} (kk : IntKind) (hg : wants ⟨dst, .makeMap t none, ty, pos, af, g⟩ ops e = true) (H : Ctx w0 S w L)
    (h : ∀ b o w', MapO kk [] o → Ctx w0 S w' ((b, o) :: L) → Wops P r ops Q rest (put e dst (.map (some b))) w') :
    Wops P r ops Q (⟨dst, .makeMap t none, ty, pos, af, g⟩ :: rest) e w := by
  refine op_val (w' := w.alloc (.map #[] 0)) (v := .map (some w.heap.size)) hg rfl ?_ (h _ _ _ ⟨#[], 0, rfl, rfl, by simp, by simp⟩ (H.alloc _))
  simp [execOp, Instr.makeMap, newObj, Sem.run]

theorem op_lookup {t k el : TypeId} {kk : IntKind} {x y : Operand} {b j : Nat} {o : Obj} {m : List (Int × Value)} {n : Int} {z : Value} (hg : wants ⟨dst, .lookup t x y false, ty, pos, af, g⟩ ops e = true)
    (ht : mapT P t = some (k, el)) (hk : P.underlying k = some (.int kk)) (hz : (P.info? el).bind (·.zero) = some z) (hx : ev e x = .map (some b)) (hy : ev e y = .int kk n) (H : Ctx w0 S w L) (hl : L[j]? = some (b, o)) (hM : MapO kk m o)
    (h : Wops P r ops Q rest (put e dst ((mget m n).getD z)) w) : Wops P r ops Q (⟨dst, .lookup t x y false, ty, pos, af, g⟩ :: rest) e w := by
  obtain ⟨es, clock, rfl, hes, _⟩ := hM
  have hb := H.get hl
  have hf := findNow_at kk n es.toList m 0 hes
  have hgo : (getObj b).run P w = .ok (.map es clock) w := by simp [getObj, Sem.run, hb]
  have hzr : (zeroValue el).run P w = .ok z w := by
    cases hi : P.info? el with
    | none => rw [hi] at hz; cases hz
    | some i => rw [hi] at hz; simp at hz; simp [zeroValue, typeInfo, program, Sem.run, hi, hz]
  refine op_val hg rfl ?_ h
  cases hm : mget m n with
  | none => simp [execOp, Instr.lookup, run_under (mapT_u ht), hx, hy, hgo, run_checkKey hk, Instr.findKey, run_under hk, hf.1 hm, hzr]
  | some v =>
    obtain ⟨i, hi, _⟩ := hf.2 v hm
    simp [execOp, Instr.lookup, run_under (mapT_u ht), hx, hy, hgo, run_checkKey hk, Instr.findKey, run_under hk, hi]

theorem op_lookupOk {t k el : TypeId} {kk : IntKind} {x y : Operand} {b j : Nat} {o : Obj} {m : List (Int × Value)} {n : Int} {z : Value} (hg : wants ⟨dst, .lookup t x y true, ty, pos, af, g⟩ ops e = true)
    (ht : mapT P t = some (k, el)) (hk : P.underlying k = some (.int kk)) (hz : (P.info? el).bind (·.zero) = some z) (hx : ev e x = .map (some b)) (hy : ev e y = .int kk n) (H : Ctx w0 S w L) (hl : L[j]? = some (b, o)) (hM : MapO kk m o)
    (h : Wops P r ops Q rest (put e dst (.tuple #[(mget m n).getD z, .bool (mget m n).isSome])) w) : Wops P r ops Q (⟨dst, .lookup t x y true, ty, pos, af, g⟩ :: rest) e w := by
  obtain ⟨es, clock, rfl, hes, _⟩ := hM
  have hb := H.get hl
  have hf := findNow_at kk n es.toList m 0 hes
  have hgo : (getObj b).run P w = .ok (.map es clock) w := by simp [getObj, Sem.run, hb]
  have hzr : (zeroValue el).run P w = .ok z w := by
    cases hi : P.info? el with
    | none => rw [hi] at hz; cases hz
    | some i => rw [hi] at hz; simp at hz; simp [zeroValue, typeInfo, program, Sem.run, hi, hz]
  refine op_val hg rfl ?_ h
  cases hm : mget m n with
  | none => simp [execOp, Instr.lookup, run_under (mapT_u ht), hx, hy, hgo, run_checkKey hk, Instr.findKey, run_under hk, hf.1 hm, hzr]
  | some v =>
    obtain ⟨i, hi, _⟩ := hf.2 v hm
    simp [execOp, Instr.lookup, run_under (mapT_u ht), hx, hy, hgo, run_checkKey hk, Instr.findKey, run_under hk, hi]

theorem run_mapUpdate {t k el : TypeId} {kk : IntKind} {b j : Nat} {o : Obj} {m : List (Int × Value)} {n : Int} (v : Value) (ht : mapT P t = some (k, el)) (hk : P.underlying k = some (.int kk)) (H : Ctx w0 S w L) (hl : L[j]? = some (b, o)) (hM : MapO kk m o) :
    ∃ o' w', (Instr.mapUpdate t (.map (some b)) (.int kk n) v).run P w = .ok () w' ∧ MapO kk (mset m n v) o' ∧ Ctx w0 S w' (L.set j (b, o')) := by
  obtain ⟨es, clock, rfl, hes, hbn, hnd⟩ := hM
  have hb := H.get hl
  have hf := findNow_at kk n es.toList m 0 hes
  have hgo : (getObj b).run P w = .ok (.map es clock) w := by simp [getObj, Sem.run, hb]
  have hso : ∀ o', (setObj b o').run P w = .ok () (w.putObj b o') := fun o' => by simp [setObj, Sem.run, hb, World.putObj]
  cases hm : mget m n with
  | none =>
    refine ⟨.map (es.push { key := .int kk n, val := v, born := clock }) (clock + 1), w.putObj b _, ?_, ⟨_, _, rfl, ?_, ?_, ?_⟩, H.setB hl _⟩
    · simp [Instr.mapUpdate, run_under (mapT_u ht), hgo, run_checkKey hk, Instr.findKey, run_under hk, hf.1 hm, hso]
    · have hms : mset m n v = m ++ [(n, v)] := by
        clear hes hf
        induction m with
        | nil => rfl
        | cons p m ih =>
          have hp : ¬ p.1 = n := by
            intro hp
            simp [mget, hp] at hm
          have hb2 : (p.1 == n) = false := by simpa using hp
          have hm2 : mget m n = none := by rw [← hm]; simp [mget, hb2]
          simp [mset, hp, ih hm2]
      rw [hms]
      simp [hes]
    · intro x hx
      simp only [Array.toList_push, List.mem_append, List.mem_singleton] at hx
      rcases hx with hx | rfl
      · have := hbn x hx; omega
      · simp
    · simp only [Array.toList_push, List.map_append, List.map_cons, List.map_nil]
      rw [List.nodup_append]
      refine ⟨hnd, by simp, ?_⟩
      intro x hx y hy
      simp only [List.mem_singleton] at hy
      subst hy
      rw [List.mem_map] at hx
      obtain ⟨e', he', rfl⟩ := hx
      have := hbn e' he'
      omega
  | some v0 =>
    obtain ⟨i, hi, hil, h3⟩ := hf.2 v0 hm
    obtain ⟨a1, a2, _⟩ := h3 v
    have hkts : (Instr.keyThatStays (.int kk n) (.int kk n)).run P w = .ok (.int kk n) w := by simp [Instr.keyThatStays, Instr.sameBits]
    have hold : ((es[i]?).map (·.key)).getD (.int kk n) = .int kk n := by
      have : es[i]? = es.toList[i]? := by rw [Array.getElem?_toList]
      rw [this, a2]; rfl
    refine ⟨.map (es.modify i fun e => { e with key := .int kk n, val := v }) clock, w.putObj b _, ?_, ⟨_, _, rfl, ?_, ?_, ?_⟩, H.setB hl _⟩
    · simp [Instr.mapUpdate, run_under (mapT_u ht), hgo, run_checkKey hk, Instr.findKey, run_under hk, hi, hold, hkts, hso]
    · rw [Array.toList_modify]; exact a1
    · intro x hx
      rw [Array.toList_modify, List.mem_iff_getElem?] at hx
      obtain ⟨q, hq⟩ := hx
      rw [List.getElem?_modify] at hq
      cases hq2 : es.toList[q]? with
      | none => rw [hq2] at hq; simp at hq
      | some y =>
        rw [hq2] at hq
        have hy := hbn y (List.mem_of_getElem? hq2)
        injection hq with hq
        subst hq
        dsimp only
        split <;> exact hy
    · rw [Array.toList_modify]
      have : (es.toList.modify i fun e => { e with key := .int kk n, val := v }).map (·.born) = es.toList.map (·.born) := by
        apply List.ext_getElem?
        intro q
        rw [List.getElem?_map, List.getElem?_map, List.getElem?_modify]
        cases es.toList[q]? with
        | none => rfl
        | some y => show some (Value.map none, (if i = q then _ else y).born).2 = some y.born; split <;> rfl
      rw [this]; exact hnd

theorem op_mapUpdate {t k el : TypeId} {kk : IntKind} {x y z : Operand} {b j : Nat} {o : Obj} {m : List (Int × Value)} {n : Int} (v : Value) (hg : wants ⟨dst, .mapUpdate t x y z, ty, pos, af, g⟩ ops e = true)
    (ht : mapT P t = some (k, el)) (hk : P.underlying k = some (.int kk)) (hx : ev e x = .map (some b)) (hy : ev e y = .int kk n) (hv : ev e z = v) (H : Ctx w0 S w L) (hl : L[j]? = some (b, o)) (hM : MapO kk m o)
    (h : ∀ o' w', MapO kk (mset m n v) o' → Ctx w0 S w' (L.set j (b, o')) → Wops P r ops Q rest (put e dst undef) w') : Wops P r ops Q (⟨dst, .mapUpdate t x y z, ty, pos, af, g⟩ :: rest) e w := by
  obtain ⟨o', w', hr, hM', H'⟩ := run_mapUpdate (n := n) v ht hk H hl hM
  exact op_unit hg rfl (by simp [execOp, hx, hy, hv, hr]) (h o' w' hM' H')
end
section
variable {P : Program} {r : Option Nat} {n : Nat} {Q : Exit → Env → World → Prop} {e : Env} {w : World}
/-- A test of a slot that is tested again further on. -/
theorem W_csplit {x y : Code} (d : Tmp) {b : Bool} (hd : e.g d = .bool b) (h1 : b = true → W P r n x Q (put e (some d) (.bool true)) w) (h2 : b = false → W P r n y Q (put e (some d) (.bool false)) w) :
    W P r n (.cond (.tmp d) x y) Q e w := by
  refine W_cond b hd (fun h => ?_) (fun h => ?_)
  · have h3 := h1 h; rw [put_same_val (by rw [hd, h])] at h3; exact h3
  · have h3 := h2 h; rw [put_same_val (by rw [hd, h])] at h3; exact h3
end
end Go.GV

/- Joins and slices that are built of more than one part. It holds for every program. -/
namespace Go.GV
open Go

def placesB (P : Program) (t : TypeId) : Option (List (Nat × Nat)) :=
  match P.underlying t with
  | some (.struct fs) => fs.toList.mapM (fun f => (P.info? f.type).map fun i => (f.offset, i.size))
  | _ => none

section
variable {P : Program} {r : Option Nat} {ops rest : List Oper} {Q : Exit → Env → World → Prop} {e : Env} {w w0 : World} {S : List Nat} {L : List (Nat × Obj)}
  {dst : Option Tmp} {ty : TypeId} {pos : String} {af : Array Edge} {g : Option (Nat × Bool)}

theorem built_of {t : TypeId} {pl : List (Nat × Nat)} {zl : List Value} {ps : List (Nat × Value)} {l : Array Value} (hp : placesB P t = some pl) (hz : zcells P t = some zl)
    (hl : Instr.fill (fun i => pl.toArray[i]?) zl.toArray ps = some l) : P.built t ps = some l := by
  unfold placesB at hp
  unfold zcells at hz
  unfold Program.built
  cases hu : P.underlying t with
  | none => rw [hu] at hp; cases hp
  | some d =>
    rw [hu] at hp
    cases hi : P.info? t with
    | none => rw [hi] at hz; cases hz
    | some it =>
      rw [hi] at hz
      cases hzz : it.zero with
      | none => simp [hzz] at hz
      | some z =>
        simp only [Option.bind_some, hzz, Option.map_some, Option.some.injEq] at hz
        subst hz
        cases d <;> first | (cases hp; done) | skip
        rename_i fields
        have hp' : fields.toList.mapM (fun f => (P.info? f.type).map fun i => (f.offset, i.size)) = some pl := hp
        simp only [hzz, hp']
        simpa using hl

theorem op_buildS {t : TypeId} {parts : Array (Nat × Operand)} {pl : List (Nat × Nat)} {zl : List Value} (l : List Value) (hg : wants ⟨dst, .build t parts, ty, pos, af, g⟩ ops e = true) (hp : placesB P t = some pl) (hz : zcells P t = some zl)
    (hl : Instr.fill (fun i => pl.toArray[i]?) zl.toArray (parts.toList.map fun p => (p.1, ev e p.2)) = some l.toArray) (h : Wops P r ops Q rest (put e dst (.agg l.toArray)) w) :
    Wops P r ops Q (⟨dst, .build t parts, ty, pos, af, g⟩ :: rest) e w := by
  refine op_val hg rfl ?_ h
  have hb : P.built t (parts.map fun (i, x) => (i, ev e x)).toList = some l.toArray := built_of hp hz (by rw [Array.toList_map]; exact hl)
  simp [execOp, run_build w t _ _ hb]

theorem op_buildL {t el : TypeId} {n : Nat} {parts : Array (Nat × Operand)} {s : Nat} {zl : List Value} (l : List Value) (hg : wants ⟨dst, .buildSlice t n parts, ty, pos, af, g⟩ ops e = true)
    (hu : elemT P t = some el) (hs : tsize P el = some s) (hz : zcells P el = some zl) (hn : ¬ n * s = 0) (hbig : ¬ 16777216 < n * s)
    (hl : Instr.fill (fun i => some (i * s, s)) ((Array.range (n * s)).map fun k => zl.toArray[k % zl.toArray.size]!) (parts.toList.map fun p => (p.1, ev e p.2)) = some l.toArray) (H : Ctx w0 S w L)
    (h : ∀ b w', w.heap.size = b → Ctx w0 S w' ((b, Bl el l) :: L) → Wops P r ops Q rest (put e dst (.slice (some ⟨b, 0, none⟩) n n)) w') :
    Wops P r ops Q (⟨dst, .buildSlice t n parts, ty, pos, af, g⟩ :: rest) e w := by
  obtain ⟨z, hz1, hz2⟩ := run_zero hz w
  have hzc : z.cells = zl.toArray := by apply Array.ext'; rw [hz2]
  refine op_val (w' := w.alloc (Bl el l)) (v := .slice (some ⟨w.heap.size, 0, none⟩) n n) hg rfl ?_ (h _ _ rfl (H.alloc _))
  have hf : Instr.fill (fun i => some (i * s, s)) ((Array.range (n * s)).map fun k => zl.toArray[k % zl.toArray.size]!) (parts.map fun (i, x) => (i, ev e x)).toList = some l.toArray := by rw [Array.toList_map]; exact hl
  simp only [execOp, Instr.buildSlice, Sem.run_bind, run_under (elemT_u hu), run_size hs, Result.andThen_ok, if_neg hbig, if_neg hn, hz1, Sem.run_pure, hzc]
  rw [hf]
  simp [newRow, newObj, Sem.run]
  rfl

/-- A result that lies in a block. -/
theorem leave1c {fn : Func} {R : Value → World → Prop} {a : Tmp} {t : TypeId} {p : Addr} {v : Value} (hr : fn.results = #[.cell a t]) (hd : e.ds = []) (ha : e.g a = .pointer (some p)) (hv : (loadVar t p).run P w = .ok v w) (h : R v w) : Qret P fn R .ret e w :=
  ⟨hd, fun tmps ht => by
    have h1 := (ht a).trans ha
    rw [Array.getD_eq_getD_getElem?] at h1
    exact ⟨v, by simp [results, hr, h1, asAddr, hv], h⟩⟩
theorem leave1b {fn : Func} {R : Value → World → Prop} {a : Tmp} {t t2 : TypeId} {b k s : Nat} {l : List Value} (hr : fn.results = #[.cell a t]) (hd : e.ds = []) (ha : e.g a = .pointer (some ⟨b, 0, none⟩)) (hag : aggB P t = some true) (hs : tsize P t = some s)
    (H : Ctx w0 S w L) (hk : L[k]? = some (b, Bl t2 l)) (hl : l.length = s) (h : R (.agg l.toArray) w) : Qret P fn R .ret e w :=
  leave1c hr hd ha (run_loadN hag hs hl (fun j v hv => by rw [cell_bl (H.get hk), Nat.zero_add]; exact hv)) h
end
end Go.GV

/- Rules for unsigned numbers that are written as naturals: bits, shifts, sums that wrap, conversions; rules for strings; printed by mkbits.py. They hold for every program. -/
namespace Go.GV
open Go

theorem wrap_nat {k : IntKind} (hk : k.signed = false) (a : Nat) : k.wrap (a : Int) = ((a % 2 ^ k.bits : Nat) : Int) := by
  unfold IntKind.wrap
  rw [hk]
  simp
theorem ofInt_nat (n a : Nat) : BitVec.ofInt n (a : Int) = BitVec.ofNat n a := by
  apply BitVec.eq_of_toNat_eq
  rw [BitVec.toNat_ofInt, BitVec.toNat_ofNat]
  norm_cast
theorem bits_and {k : IntKind} (hk : k.signed = false) {a b : Nat} (ha : a < 2 ^ k.bits) (hb : b < 2 ^ k.bits) : Op.intBits .and k a b = pure (.int k ((a &&& b : Nat) : Int)) := by
  have hx : a &&& b < 2 ^ k.bits := Nat.lt_of_le_of_lt Nat.and_le_left ha
  simp only [Op.intBits, ofInt_nat]
  rw [wrap_nat hk, BitVec.toNat_and, BitVec.toNat_ofNat, BitVec.toNat_ofNat, Nat.mod_eq_of_lt ha, Nat.mod_eq_of_lt hb, Nat.mod_eq_of_lt hx]
theorem bits_or {k : IntKind} (hk : k.signed = false) {a b : Nat} (ha : a < 2 ^ k.bits) (hb : b < 2 ^ k.bits) : Op.intBits .or k a b = pure (.int k ((a ||| b : Nat) : Int)) := by
  have hx : a ||| b < 2 ^ k.bits := Nat.or_lt_two_pow ha hb
  simp only [Op.intBits, ofInt_nat]
  rw [wrap_nat hk, BitVec.toNat_or, BitVec.toNat_ofNat, BitVec.toNat_ofNat, Nat.mod_eq_of_lt ha, Nat.mod_eq_of_lt hb, Nat.mod_eq_of_lt hx]
theorem bits_xor {k : IntKind} (hk : k.signed = false) {a b : Nat} (ha : a < 2 ^ k.bits) (hb : b < 2 ^ k.bits) : Op.intBits .xor k a b = pure (.int k ((a ^^^ b : Nat) : Int)) := by
  have hx : a ^^^ b < 2 ^ k.bits := Nat.xor_lt_two_pow ha hb
  simp only [Op.intBits, ofInt_nat]
  rw [wrap_nat hk, BitVec.toNat_xor, BitVec.toNat_ofNat, BitVec.toNat_ofNat, Nat.mod_eq_of_lt ha, Nat.mod_eq_of_lt hb, Nat.mod_eq_of_lt hx]
theorem run_shr {k k2 : IntKind} {a n : Nat} (hn : n ≤ k.bits) : Op.shift .shr k (a : Int) k2 (n : Int) = pure (.int k ((a / 2 ^ n : Nat) : Int)) := by
  unfold Op.shift
  rw [if_neg (by omega)]
  have hm : min ((n : Int)).toNat k.bits = n := by rw [Int.toNat_natCast]; exact Nat.min_eq_left hn
  simp only [hm]
  congr 2
  have : ((2 : Int) ^ n) = ((2 ^ n : Nat) : Int) := by norm_cast
  rw [this, Int.fdiv_eq_ediv_of_nonneg _ (Int.natCast_nonneg _)]
  norm_cast
theorem run_shl {k k2 : IntKind} (hk : k.signed = false) {a n : Nat} (hn : n ≤ k.bits) : Op.shift .shl k (a : Int) k2 (n : Int) = pure (.int k ((a * 2 ^ n % 2 ^ k.bits : Nat) : Int)) := by
  unfold Op.shift
  rw [if_neg (by omega)]
  have hm : min ((n : Int)).toNat k.bits = n := by rw [Int.toNat_natCast]; exact Nat.min_eq_left hn
  simp only [hm]
  congr 2
  have : (a : Int) * (2 : Int) ^ n = ((a * 2 ^ n : Nat) : Int) := by norm_cast
  rw [this, wrap_nat hk]
theorem run_addw {P : Program} {k : IntKind} (hk : k.signed = false) (t : TypeId) (a b : Nat) (w : World) : (binOp .add t (.int k (a : Int)) (.int k (b : Int))).run P w = .ok (.int k (((a + b) % 2 ^ k.bits : Nat) : Int)) w := by
  have h1 : (a : Int) + (b : Int) = ((a + b : Nat) : Int) := by norm_cast
  simp only [binOp, ne_eq, not_true_eq_false, if_false, Op.intArith, h1, wrap_nat hk]; rfl
theorem run_mulw {P : Program} {k : IntKind} (hk : k.signed = false) (t : TypeId) (a b : Nat) (w : World) : (binOp .mul t (.int k (a : Int)) (.int k (b : Int))).run P w = .ok (.int k (((a * b) % 2 ^ k.bits : Nat) : Int)) w := by
  have h1 : (a : Int) * (b : Int) = ((a * b : Nat) : Int) := by norm_cast
  simp only [binOp, ne_eq, not_true_eq_false, if_false, Op.intArith, h1, wrap_nat hk]; rfl

section
variable {P : Program} {r : Option Nat} {ops rest : List Oper} {Q : Exit → Env → World → Prop} {e : Env} {w w0 : World} {S : List Nat} {L : List (Nat × Obj)}
  {dst : Option Tmp} {ty : TypeId} {pos : String} {af : Array Edge} {g : Option (Nat × Bool)} {C : World → Prop} {K : Env → Prop} {t t2 : TypeId} {x y : Operand} {a b n : Nat} {s d : TypeId}
theorem run_comw {k : IntKind} (hk : k.signed = false) (hx : ev e x = .int k a) (ha : a < 2 ^ k.bits) :
    (execOp (ev e) ⟨dst, .unOp .xor t x, ty, pos, af, g⟩).run P w = .ok (.value (.int k (((2 ^ k.bits - 1) ^^^ a : Nat) : Int))) w := by
  have hp := Nat.two_pow_pos k.bits
  have h1 := bits_xor hk (a := 2 ^ k.bits - 1) (b := a) (by omega) ha
  have h2 : (if k.signed then (-1 : Int) else k.max) = ((2 ^ k.bits - 1 : Nat) : Int) := by
    rw [hk]
    simp only [Bool.false_eq_true, if_false, IntKind.max, hk]
    rw [Int.natCast_sub hp]
    norm_cast
  simp [execOp, hx, Op.unary, h2, h1]
theorem run_convn {k k1 : IntKind} {ds : TypeDesc} (hk : k.signed = false) (hx : ev e x = .int k1 a) (hs : P.underlying s = some ds) (hd : P.underlying d = some (.int k)) :
    (execOp (ev e) ⟨dst, .convert s d x, ty, pos, af, g⟩).run P w = .ok (.value (.int k ((a % 2 ^ k.bits : Nat) : Int))) w := by
  simp [execOp, hx, convert, run_under hs, run_under hd, Conv.intToInt, wrap_nat hk]
theorem op_and_u8 (hg : wants ⟨dst, .binOp .and t x y t2, ty, pos, af, g⟩ ops e = true) (hx : ev e x = .int .u8 a) (hy : ev e y = .int .u8 b) (ha : a < 256) (hb : b < 256)
    (h : Wops P r ops Q rest (put e dst (.int .u8 ((a &&& b : Nat) : Int))) w) : Wops P r ops Q (⟨dst, .binOp .and t x y t2, ty, pos, af, g⟩ :: rest) e w :=
  op_val hg rfl (run_bin hx hy (by show (Op.intBits .and .u8 (a : Int) (b : Int)).run P w = _; rw [bits_and rfl (by exact ha) (by exact hb)]; rfl)) h
theorem q_and_u8 (hg : wants ⟨dst, .binOp .and t x y t2, ty, pos, af, g⟩ ops e = true) (hx : ev e x = .int .u8 a) (hy : ev e y = .int .u8 b) (ha : a < 256) (hb : b < 256)
    (h : Wq P ops C K rest (put e dst (.int .u8 ((a &&& b : Nat) : Int)))) : Wq P ops C K (⟨dst, .binOp .and t x y t2, ty, pos, af, g⟩ :: rest) e :=
  q_val hg (fun w _ => run_bin hx hy (by show (Op.intBits .and .u8 (a : Int) (b : Int)).run P w = _; rw [bits_and rfl (by exact ha) (by exact hb)]; rfl)) h
theorem op_or_u8 (hg : wants ⟨dst, .binOp .or t x y t2, ty, pos, af, g⟩ ops e = true) (hx : ev e x = .int .u8 a) (hy : ev e y = .int .u8 b) (ha : a < 256) (hb : b < 256)
    (h : Wops P r ops Q rest (put e dst (.int .u8 ((a ||| b : Nat) : Int))) w) : Wops P r ops Q (⟨dst, .binOp .or t x y t2, ty, pos, af, g⟩ :: rest) e w :=
  op_val hg rfl (run_bin hx hy (by show (Op.intBits .or .u8 (a : Int) (b : Int)).run P w = _; rw [bits_or rfl (by exact ha) (by exact hb)]; rfl)) h
theorem q_or_u8 (hg : wants ⟨dst, .binOp .or t x y t2, ty, pos, af, g⟩ ops e = true) (hx : ev e x = .int .u8 a) (hy : ev e y = .int .u8 b) (ha : a < 256) (hb : b < 256)
    (h : Wq P ops C K rest (put e dst (.int .u8 ((a ||| b : Nat) : Int)))) : Wq P ops C K (⟨dst, .binOp .or t x y t2, ty, pos, af, g⟩ :: rest) e :=
  q_val hg (fun w _ => run_bin hx hy (by show (Op.intBits .or .u8 (a : Int) (b : Int)).run P w = _; rw [bits_or rfl (by exact ha) (by exact hb)]; rfl)) h
theorem op_xor_u8 (hg : wants ⟨dst, .binOp .xor t x y t2, ty, pos, af, g⟩ ops e = true) (hx : ev e x = .int .u8 a) (hy : ev e y = .int .u8 b) (ha : a < 256) (hb : b < 256)
    (h : Wops P r ops Q rest (put e dst (.int .u8 ((a ^^^ b : Nat) : Int))) w) : Wops P r ops Q (⟨dst, .binOp .xor t x y t2, ty, pos, af, g⟩ :: rest) e w :=
  op_val hg rfl (run_bin hx hy (by show (Op.intBits .xor .u8 (a : Int) (b : Int)).run P w = _; rw [bits_xor rfl (by exact ha) (by exact hb)]; rfl)) h
theorem q_xor_u8 (hg : wants ⟨dst, .binOp .xor t x y t2, ty, pos, af, g⟩ ops e = true) (hx : ev e x = .int .u8 a) (hy : ev e y = .int .u8 b) (ha : a < 256) (hb : b < 256)
    (h : Wq P ops C K rest (put e dst (.int .u8 ((a ^^^ b : Nat) : Int)))) : Wq P ops C K (⟨dst, .binOp .xor t x y t2, ty, pos, af, g⟩ :: rest) e :=
  q_val hg (fun w _ => run_bin hx hy (by show (Op.intBits .xor .u8 (a : Int) (b : Int)).run P w = _; rw [bits_xor rfl (by exact ha) (by exact hb)]; rfl)) h
theorem op_shr_u8 (hg : wants ⟨dst, .binOp .shr t x y t2, ty, pos, af, g⟩ ops e = true) {k2 : IntKind} (hx : ev e x = .int .u8 a) (hy : ev e y = .int k2 n) (hn : n ≤ 8)
    (h : Wops P r ops Q rest (put e dst (.int .u8 ((a / 2 ^ n : Nat) : Int))) w) : Wops P r ops Q (⟨dst, .binOp .shr t x y t2, ty, pos, af, g⟩ :: rest) e w :=
  op_val hg rfl (run_bin hx hy (by show (Op.shift .shr .u8 (a : Int) k2 (n : Int)).run P w = _; rw [run_shr (by exact hn)]; rfl)) h
theorem q_shr_u8 (hg : wants ⟨dst, .binOp .shr t x y t2, ty, pos, af, g⟩ ops e = true) {k2 : IntKind} (hx : ev e x = .int .u8 a) (hy : ev e y = .int k2 n) (hn : n ≤ 8)
    (h : Wq P ops C K rest (put e dst (.int .u8 ((a / 2 ^ n : Nat) : Int)))) : Wq P ops C K (⟨dst, .binOp .shr t x y t2, ty, pos, af, g⟩ :: rest) e :=
  q_val hg (fun w _ => run_bin hx hy (by show (Op.shift .shr .u8 (a : Int) k2 (n : Int)).run P w = _; rw [run_shr (by exact hn)]; rfl)) h
theorem op_shl_u8 (hg : wants ⟨dst, .binOp .shl t x y t2, ty, pos, af, g⟩ ops e = true) {k2 : IntKind} (hx : ev e x = .int .u8 a) (hy : ev e y = .int k2 n) (hn : n ≤ 8)
    (h : Wops P r ops Q rest (put e dst (.int .u8 ((a * 2 ^ n % 256 : Nat) : Int))) w) : Wops P r ops Q (⟨dst, .binOp .shl t x y t2, ty, pos, af, g⟩ :: rest) e w :=
  op_val hg rfl (run_bin hx hy (by show (Op.shift .shl .u8 (a : Int) k2 (n : Int)).run P w = _; rw [run_shl rfl (by exact hn)]; rfl)) h
theorem q_shl_u8 (hg : wants ⟨dst, .binOp .shl t x y t2, ty, pos, af, g⟩ ops e = true) {k2 : IntKind} (hx : ev e x = .int .u8 a) (hy : ev e y = .int k2 n) (hn : n ≤ 8)
    (h : Wq P ops C K rest (put e dst (.int .u8 ((a * 2 ^ n % 256 : Nat) : Int)))) : Wq P ops C K (⟨dst, .binOp .shl t x y t2, ty, pos, af, g⟩ :: rest) e :=
  q_val hg (fun w _ => run_bin hx hy (by show (Op.shift .shl .u8 (a : Int) k2 (n : Int)).run P w = _; rw [run_shl rfl (by exact hn)]; rfl)) h
theorem op_addw_u8 (hg : wants ⟨dst, .binOp .add t x y t2, ty, pos, af, g⟩ ops e = true) (hx : ev e x = .int .u8 a) (hy : ev e y = .int .u8 b)
    (h : Wops P r ops Q rest (put e dst (.int .u8 (((a + b) % 256 : Nat) : Int))) w) : Wops P r ops Q (⟨dst, .binOp .add t x y t2, ty, pos, af, g⟩ :: rest) e w :=
  op_val hg rfl (run_bin hx hy (run_addw (k := .u8) rfl t a b _)) h
theorem q_addw_u8 (hg : wants ⟨dst, .binOp .add t x y t2, ty, pos, af, g⟩ ops e = true) (hx : ev e x = .int .u8 a) (hy : ev e y = .int .u8 b)
    (h : Wq P ops C K rest (put e dst (.int .u8 (((a + b) % 256 : Nat) : Int)))) : Wq P ops C K (⟨dst, .binOp .add t x y t2, ty, pos, af, g⟩ :: rest) e :=
  q_val hg (fun _ _ => run_bin hx hy (run_addw (k := .u8) rfl t a b _)) h
theorem op_mulw_u8 (hg : wants ⟨dst, .binOp .mul t x y t2, ty, pos, af, g⟩ ops e = true) (hx : ev e x = .int .u8 a) (hy : ev e y = .int .u8 b)
    (h : Wops P r ops Q rest (put e dst (.int .u8 (((a * b) % 256 : Nat) : Int))) w) : Wops P r ops Q (⟨dst, .binOp .mul t x y t2, ty, pos, af, g⟩ :: rest) e w :=
  op_val hg rfl (run_bin hx hy (run_mulw (k := .u8) rfl t a b _)) h
theorem q_mulw_u8 (hg : wants ⟨dst, .binOp .mul t x y t2, ty, pos, af, g⟩ ops e = true) (hx : ev e x = .int .u8 a) (hy : ev e y = .int .u8 b)
    (h : Wq P ops C K rest (put e dst (.int .u8 (((a * b) % 256 : Nat) : Int)))) : Wq P ops C K (⟨dst, .binOp .mul t x y t2, ty, pos, af, g⟩ :: rest) e :=
  q_val hg (fun _ _ => run_bin hx hy (run_mulw (k := .u8) rfl t a b _)) h
theorem op_com_u8 (hg : wants ⟨dst, .unOp .xor t x, ty, pos, af, g⟩ ops e = true) (hx : ev e x = .int .u8 a) (ha : a < 256)
    (h : Wops P r ops Q rest (put e dst (.int .u8 ((255 ^^^ a : Nat) : Int))) w) : Wops P r ops Q (⟨dst, .unOp .xor t x, ty, pos, af, g⟩ :: rest) e w :=
  op_val hg rfl (run_comw (k := .u8) rfl hx (by exact ha)) h
theorem q_com_u8 (hg : wants ⟨dst, .unOp .xor t x, ty, pos, af, g⟩ ops e = true) (hx : ev e x = .int .u8 a) (ha : a < 256)
    (h : Wq P ops C K rest (put e dst (.int .u8 ((255 ^^^ a : Nat) : Int)))) : Wq P ops C K (⟨dst, .unOp .xor t x, ty, pos, af, g⟩ :: rest) e :=
  q_val hg (fun _ _ => run_comw (k := .u8) rfl hx (by exact ha)) h
theorem op_convn_u8 (hg : wants ⟨dst, .convert s d x, ty, pos, af, g⟩ ops e = true) {k1 : IntKind} {ds : TypeDesc} (hx : ev e x = .int k1 a) (hs : P.underlying s = some ds) (hd : P.underlying d = some (.int .u8))
    (h : Wops P r ops Q rest (put e dst (.int .u8 ((a % 256 : Nat) : Int))) w) : Wops P r ops Q (⟨dst, .convert s d x, ty, pos, af, g⟩ :: rest) e w :=
  op_val hg rfl (run_convn (k := .u8) rfl hx hs hd) h
theorem q_convn_u8 (hg : wants ⟨dst, .convert s d x, ty, pos, af, g⟩ ops e = true) {k1 : IntKind} {ds : TypeDesc} (hx : ev e x = .int k1 a) (hs : P.underlying s = some ds) (hd : P.underlying d = some (.int .u8))
    (h : Wq P ops C K rest (put e dst (.int .u8 ((a % 256 : Nat) : Int)))) : Wq P ops C K (⟨dst, .convert s d x, ty, pos, af, g⟩ :: rest) e :=
  q_val hg (fun _ _ => run_convn (k := .u8) rfl hx hs hd) h
theorem op_and_u16 (hg : wants ⟨dst, .binOp .and t x y t2, ty, pos, af, g⟩ ops e = true) (hx : ev e x = .int .u16 a) (hy : ev e y = .int .u16 b) (ha : a < 65536) (hb : b < 65536)
    (h : Wops P r ops Q rest (put e dst (.int .u16 ((a &&& b : Nat) : Int))) w) : Wops P r ops Q (⟨dst, .binOp .and t x y t2, ty, pos, af, g⟩ :: rest) e w :=
  op_val hg rfl (run_bin hx hy (by show (Op.intBits .and .u16 (a : Int) (b : Int)).run P w = _; rw [bits_and rfl (by exact ha) (by exact hb)]; rfl)) h
theorem q_and_u16 (hg : wants ⟨dst, .binOp .and t x y t2, ty, pos, af, g⟩ ops e = true) (hx : ev e x = .int .u16 a) (hy : ev e y = .int .u16 b) (ha : a < 65536) (hb : b < 65536)
    (h : Wq P ops C K rest (put e dst (.int .u16 ((a &&& b : Nat) : Int)))) : Wq P ops C K (⟨dst, .binOp .and t x y t2, ty, pos, af, g⟩ :: rest) e :=
  q_val hg (fun w _ => run_bin hx hy (by show (Op.intBits .and .u16 (a : Int) (b : Int)).run P w = _; rw [bits_and rfl (by exact ha) (by exact hb)]; rfl)) h
theorem op_or_u16 (hg : wants ⟨dst, .binOp .or t x y t2, ty, pos, af, g⟩ ops e = true) (hx : ev e x = .int .u16 a) (hy : ev e y = .int .u16 b) (ha : a < 65536) (hb : b < 65536)
    (h : Wops P r ops Q rest (put e dst (.int .u16 ((a ||| b : Nat) : Int))) w) : Wops P r ops Q (⟨dst, .binOp .or t x y t2, ty, pos, af, g⟩ :: rest) e w :=
  op_val hg rfl (run_bin hx hy (by show (Op.intBits .or .u16 (a : Int) (b : Int)).run P w = _; rw [bits_or rfl (by exact ha) (by exact hb)]; rfl)) h
theorem q_or_u16 (hg : wants ⟨dst, .binOp .or t x y t2, ty, pos, af, g⟩ ops e = true) (hx : ev e x = .int .u16 a) (hy : ev e y = .int .u16 b) (ha : a < 65536) (hb : b < 65536)
    (h : Wq P ops C K rest (put e dst (.int .u16 ((a ||| b : Nat) : Int)))) : Wq P ops C K (⟨dst, .binOp .or t x y t2, ty, pos, af, g⟩ :: rest) e :=
  q_val hg (fun w _ => run_bin hx hy (by show (Op.intBits .or .u16 (a : Int) (b : Int)).run P w = _; rw [bits_or rfl (by exact ha) (by exact hb)]; rfl)) h
theorem op_xor_u16 (hg : wants ⟨dst, .binOp .xor t x y t2, ty, pos, af, g⟩ ops e = true) (hx : ev e x = .int .u16 a) (hy : ev e y = .int .u16 b) (ha : a < 65536) (hb : b < 65536)
    (h : Wops P r ops Q rest (put e dst (.int .u16 ((a ^^^ b : Nat) : Int))) w) : Wops P r ops Q (⟨dst, .binOp .xor t x y t2, ty, pos, af, g⟩ :: rest) e w :=
  op_val hg rfl (run_bin hx hy (by show (Op.intBits .xor .u16 (a : Int) (b : Int)).run P w = _; rw [bits_xor rfl (by exact ha) (by exact hb)]; rfl)) h
theorem q_xor_u16 (hg : wants ⟨dst, .binOp .xor t x y t2, ty, pos, af, g⟩ ops e = true) (hx : ev e x = .int .u16 a) (hy : ev e y = .int .u16 b) (ha : a < 65536) (hb : b < 65536)
    (h : Wq P ops C K rest (put e dst (.int .u16 ((a ^^^ b : Nat) : Int)))) : Wq P ops C K (⟨dst, .binOp .xor t x y t2, ty, pos, af, g⟩ :: rest) e :=
  q_val hg (fun w _ => run_bin hx hy (by show (Op.intBits .xor .u16 (a : Int) (b : Int)).run P w = _; rw [bits_xor rfl (by exact ha) (by exact hb)]; rfl)) h
theorem op_shr_u16 (hg : wants ⟨dst, .binOp .shr t x y t2, ty, pos, af, g⟩ ops e = true) {k2 : IntKind} (hx : ev e x = .int .u16 a) (hy : ev e y = .int k2 n) (hn : n ≤ 16)
    (h : Wops P r ops Q rest (put e dst (.int .u16 ((a / 2 ^ n : Nat) : Int))) w) : Wops P r ops Q (⟨dst, .binOp .shr t x y t2, ty, pos, af, g⟩ :: rest) e w :=
  op_val hg rfl (run_bin hx hy (by show (Op.shift .shr .u16 (a : Int) k2 (n : Int)).run P w = _; rw [run_shr (by exact hn)]; rfl)) h
theorem q_shr_u16 (hg : wants ⟨dst, .binOp .shr t x y t2, ty, pos, af, g⟩ ops e = true) {k2 : IntKind} (hx : ev e x = .int .u16 a) (hy : ev e y = .int k2 n) (hn : n ≤ 16)
    (h : Wq P ops C K rest (put e dst (.int .u16 ((a / 2 ^ n : Nat) : Int)))) : Wq P ops C K (⟨dst, .binOp .shr t x y t2, ty, pos, af, g⟩ :: rest) e :=
  q_val hg (fun w _ => run_bin hx hy (by show (Op.shift .shr .u16 (a : Int) k2 (n : Int)).run P w = _; rw [run_shr (by exact hn)]; rfl)) h
theorem op_shl_u16 (hg : wants ⟨dst, .binOp .shl t x y t2, ty, pos, af, g⟩ ops e = true) {k2 : IntKind} (hx : ev e x = .int .u16 a) (hy : ev e y = .int k2 n) (hn : n ≤ 16)
    (h : Wops P r ops Q rest (put e dst (.int .u16 ((a * 2 ^ n % 65536 : Nat) : Int))) w) : Wops P r ops Q (⟨dst, .binOp .shl t x y t2, ty, pos, af, g⟩ :: rest) e w :=
  op_val hg rfl (run_bin hx hy (by show (Op.shift .shl .u16 (a : Int) k2 (n : Int)).run P w = _; rw [run_shl rfl (by exact hn)]; rfl)) h
theorem q_shl_u16 (hg : wants ⟨dst, .binOp .shl t x y t2, ty, pos, af, g⟩ ops e = true) {k2 : IntKind} (hx : ev e x = .int .u16 a) (hy : ev e y = .int k2 n) (hn : n ≤ 16)
    (h : Wq P ops C K rest (put e dst (.int .u16 ((a * 2 ^ n % 65536 : Nat) : Int)))) : Wq P ops C K (⟨dst, .binOp .shl t x y t2, ty, pos, af, g⟩ :: rest) e :=
  q_val hg (fun w _ => run_bin hx hy (by show (Op.shift .shl .u16 (a : Int) k2 (n : Int)).run P w = _; rw [run_shl rfl (by exact hn)]; rfl)) h
theorem op_addw_u16 (hg : wants ⟨dst, .binOp .add t x y t2, ty, pos, af, g⟩ ops e = true) (hx : ev e x = .int .u16 a) (hy : ev e y = .int .u16 b)
    (h : Wops P r ops Q rest (put e dst (.int .u16 (((a + b) % 65536 : Nat) : Int))) w) : Wops P r ops Q (⟨dst, .binOp .add t x y t2, ty, pos, af, g⟩ :: rest) e w :=
  op_val hg rfl (run_bin hx hy (run_addw (k := .u16) rfl t a b _)) h
theorem q_addw_u16 (hg : wants ⟨dst, .binOp .add t x y t2, ty, pos, af, g⟩ ops e = true) (hx : ev e x = .int .u16 a) (hy : ev e y = .int .u16 b)
    (h : Wq P ops C K rest (put e dst (.int .u16 (((a + b) % 65536 : Nat) : Int)))) : Wq P ops C K (⟨dst, .binOp .add t x y t2, ty, pos, af, g⟩ :: rest) e :=
  q_val hg (fun _ _ => run_bin hx hy (run_addw (k := .u16) rfl t a b _)) h
theorem op_mulw_u16 (hg : wants ⟨dst, .binOp .mul t x y t2, ty, pos, af, g⟩ ops e = true) (hx : ev e x = .int .u16 a) (hy : ev e y = .int .u16 b)
    (h : Wops P r ops Q rest (put e dst (.int .u16 (((a * b) % 65536 : Nat) : Int))) w) : Wops P r ops Q (⟨dst, .binOp .mul t x y t2, ty, pos, af, g⟩ :: rest) e w :=
  op_val hg rfl (run_bin hx hy (run_mulw (k := .u16) rfl t a b _)) h
theorem q_mulw_u16 (hg : wants ⟨dst, .binOp .mul t x y t2, ty, pos, af, g⟩ ops e = true) (hx : ev e x = .int .u16 a) (hy : ev e y = .int .u16 b)
    (h : Wq P ops C K rest (put e dst (.int .u16 (((a * b) % 65536 : Nat) : Int)))) : Wq P ops C K (⟨dst, .binOp .mul t x y t2, ty, pos, af, g⟩ :: rest) e :=
  q_val hg (fun _ _ => run_bin hx hy (run_mulw (k := .u16) rfl t a b _)) h
theorem op_com_u16 (hg : wants ⟨dst, .unOp .xor t x, ty, pos, af, g⟩ ops e = true) (hx : ev e x = .int .u16 a) (ha : a < 65536)
    (h : Wops P r ops Q rest (put e dst (.int .u16 ((65535 ^^^ a : Nat) : Int))) w) : Wops P r ops Q (⟨dst, .unOp .xor t x, ty, pos, af, g⟩ :: rest) e w :=
  op_val hg rfl (run_comw (k := .u16) rfl hx (by exact ha)) h
theorem q_com_u16 (hg : wants ⟨dst, .unOp .xor t x, ty, pos, af, g⟩ ops e = true) (hx : ev e x = .int .u16 a) (ha : a < 65536)
    (h : Wq P ops C K rest (put e dst (.int .u16 ((65535 ^^^ a : Nat) : Int)))) : Wq P ops C K (⟨dst, .unOp .xor t x, ty, pos, af, g⟩ :: rest) e :=
  q_val hg (fun _ _ => run_comw (k := .u16) rfl hx (by exact ha)) h
theorem op_convn_u16 (hg : wants ⟨dst, .convert s d x, ty, pos, af, g⟩ ops e = true) {k1 : IntKind} {ds : TypeDesc} (hx : ev e x = .int k1 a) (hs : P.underlying s = some ds) (hd : P.underlying d = some (.int .u16))
    (h : Wops P r ops Q rest (put e dst (.int .u16 ((a % 65536 : Nat) : Int))) w) : Wops P r ops Q (⟨dst, .convert s d x, ty, pos, af, g⟩ :: rest) e w :=
  op_val hg rfl (run_convn (k := .u16) rfl hx hs hd) h
theorem q_convn_u16 (hg : wants ⟨dst, .convert s d x, ty, pos, af, g⟩ ops e = true) {k1 : IntKind} {ds : TypeDesc} (hx : ev e x = .int k1 a) (hs : P.underlying s = some ds) (hd : P.underlying d = some (.int .u16))
    (h : Wq P ops C K rest (put e dst (.int .u16 ((a % 65536 : Nat) : Int)))) : Wq P ops C K (⟨dst, .convert s d x, ty, pos, af, g⟩ :: rest) e :=
  q_val hg (fun _ _ => run_convn (k := .u16) rfl hx hs hd) h
theorem op_and_u32 (hg : wants ⟨dst, .binOp .and t x y t2, ty, pos, af, g⟩ ops e = true) (hx : ev e x = .int .u32 a) (hy : ev e y = .int .u32 b) (ha : a < 4294967296) (hb : b < 4294967296)
    (h : Wops P r ops Q rest (put e dst (.int .u32 ((a &&& b : Nat) : Int))) w) : Wops P r ops Q (⟨dst, .binOp .and t x y t2, ty, pos, af, g⟩ :: rest) e w :=
  op_val hg rfl (run_bin hx hy (by show (Op.intBits .and .u32 (a : Int) (b : Int)).run P w = _; rw [bits_and rfl (by exact ha) (by exact hb)]; rfl)) h
theorem q_and_u32 (hg : wants ⟨dst, .binOp .and t x y t2, ty, pos, af, g⟩ ops e = true) (hx : ev e x = .int .u32 a) (hy : ev e y = .int .u32 b) (ha : a < 4294967296) (hb : b < 4294967296)
    (h : Wq P ops C K rest (put e dst (.int .u32 ((a &&& b : Nat) : Int)))) : Wq P ops C K (⟨dst, .binOp .and t x y t2, ty, pos, af, g⟩ :: rest) e :=
  q_val hg (fun w _ => run_bin hx hy (by show (Op.intBits .and .u32 (a : Int) (b : Int)).run P w = _; rw [bits_and rfl (by exact ha) (by exact hb)]; rfl)) h
theorem op_or_u32 (hg : wants ⟨dst, .binOp .or t x y t2, ty, pos, af, g⟩ ops e = true) (hx : ev e x = .int .u32 a) (hy : ev e y = .int .u32 b) (ha : a < 4294967296) (hb : b < 4294967296)
    (h : Wops P r ops Q rest (put e dst (.int .u32 ((a ||| b : Nat) : Int))) w) : Wops P r ops Q (⟨dst, .binOp .or t x y t2, ty, pos, af, g⟩ :: rest) e w :=
  op_val hg rfl (run_bin hx hy (by show (Op.intBits .or .u32 (a : Int) (b : Int)).run P w = _; rw [bits_or rfl (by exact ha) (by exact hb)]; rfl)) h
theorem q_or_u32 (hg : wants ⟨dst, .binOp .or t x y t2, ty, pos, af, g⟩ ops e = true) (hx : ev e x = .int .u32 a) (hy : ev e y = .int .u32 b) (ha : a < 4294967296) (hb : b < 4294967296)
    (h : Wq P ops C K rest (put e dst (.int .u32 ((a ||| b : Nat) : Int)))) : Wq P ops C K (⟨dst, .binOp .or t x y t2, ty, pos, af, g⟩ :: rest) e :=
  q_val hg (fun w _ => run_bin hx hy (by show (Op.intBits .or .u32 (a : Int) (b : Int)).run P w = _; rw [bits_or rfl (by exact ha) (by exact hb)]; rfl)) h
theorem op_xor_u32 (hg : wants ⟨dst, .binOp .xor t x y t2, ty, pos, af, g⟩ ops e = true) (hx : ev e x = .int .u32 a) (hy : ev e y = .int .u32 b) (ha : a < 4294967296) (hb : b < 4294967296)
    (h : Wops P r ops Q rest (put e dst (.int .u32 ((a ^^^ b : Nat) : Int))) w) : Wops P r ops Q (⟨dst, .binOp .xor t x y t2, ty, pos, af, g⟩ :: rest) e w :=
  op_val hg rfl (run_bin hx hy (by show (Op.intBits .xor .u32 (a : Int) (b : Int)).run P w = _; rw [bits_xor rfl (by exact ha) (by exact hb)]; rfl)) h
theorem q_xor_u32 (hg : wants ⟨dst, .binOp .xor t x y t2, ty, pos, af, g⟩ ops e = true) (hx : ev e x = .int .u32 a) (hy : ev e y = .int .u32 b) (ha : a < 4294967296) (hb : b < 4294967296)
    (h : Wq P ops C K rest (put e dst (.int .u32 ((a ^^^ b : Nat) : Int)))) : Wq P ops C K (⟨dst, .binOp .xor t x y t2, ty, pos, af, g⟩ :: rest) e :=
  q_val hg (fun w _ => run_bin hx hy (by show (Op.intBits .xor .u32 (a : Int) (b : Int)).run P w = _; rw [bits_xor rfl (by exact ha) (by exact hb)]; rfl)) h
theorem op_shr_u32 (hg : wants ⟨dst, .binOp .shr t x y t2, ty, pos, af, g⟩ ops e = true) {k2 : IntKind} (hx : ev e x = .int .u32 a) (hy : ev e y = .int k2 n) (hn : n ≤ 32)
    (h : Wops P r ops Q rest (put e dst (.int .u32 ((a / 2 ^ n : Nat) : Int))) w) : Wops P r ops Q (⟨dst, .binOp .shr t x y t2, ty, pos, af, g⟩ :: rest) e w :=
  op_val hg rfl (run_bin hx hy (by show (Op.shift .shr .u32 (a : Int) k2 (n : Int)).run P w = _; rw [run_shr (by exact hn)]; rfl)) h
theorem q_shr_u32 (hg : wants ⟨dst, .binOp .shr t x y t2, ty, pos, af, g⟩ ops e = true) {k2 : IntKind} (hx : ev e x = .int .u32 a) (hy : ev e y = .int k2 n) (hn : n ≤ 32)
    (h : Wq P ops C K rest (put e dst (.int .u32 ((a / 2 ^ n : Nat) : Int)))) : Wq P ops C K (⟨dst, .binOp .shr t x y t2, ty, pos, af, g⟩ :: rest) e :=
  q_val hg (fun w _ => run_bin hx hy (by show (Op.shift .shr .u32 (a : Int) k2 (n : Int)).run P w = _; rw [run_shr (by exact hn)]; rfl)) h
theorem op_shl_u32 (hg : wants ⟨dst, .binOp .shl t x y t2, ty, pos, af, g⟩ ops e = true) {k2 : IntKind} (hx : ev e x = .int .u32 a) (hy : ev e y = .int k2 n) (hn : n ≤ 32)
    (h : Wops P r ops Q rest (put e dst (.int .u32 ((a * 2 ^ n % 4294967296 : Nat) : Int))) w) : Wops P r ops Q (⟨dst, .binOp .shl t x y t2, ty, pos, af, g⟩ :: rest) e w :=
  op_val hg rfl (run_bin hx hy (by show (Op.shift .shl .u32 (a : Int) k2 (n : Int)).run P w = _; rw [run_shl rfl (by exact hn)]; rfl)) h
theorem q_shl_u32 (hg : wants ⟨dst, .binOp .shl t x y t2, ty, pos, af, g⟩ ops e = true) {k2 : IntKind} (hx : ev e x = .int .u32 a) (hy : ev e y = .int k2 n) (hn : n ≤ 32)
    (h : Wq P ops C K rest (put e dst (.int .u32 ((a * 2 ^ n % 4294967296 : Nat) : Int)))) : Wq P ops C K (⟨dst, .binOp .shl t x y t2, ty, pos, af, g⟩ :: rest) e :=
  q_val hg (fun w _ => run_bin hx hy (by show (Op.shift .shl .u32 (a : Int) k2 (n : Int)).run P w = _; rw [run_shl rfl (by exact hn)]; rfl)) h
theorem op_addw_u32 (hg : wants ⟨dst, .binOp .add t x y t2, ty, pos, af, g⟩ ops e = true) (hx : ev e x = .int .u32 a) (hy : ev e y = .int .u32 b)
    (h : Wops P r ops Q rest (put e dst (.int .u32 (((a + b) % 4294967296 : Nat) : Int))) w) : Wops P r ops Q (⟨dst, .binOp .add t x y t2, ty, pos, af, g⟩ :: rest) e w :=
  op_val hg rfl (run_bin hx hy (run_addw (k := .u32) rfl t a b _)) h
theorem q_addw_u32 (hg : wants ⟨dst, .binOp .add t x y t2, ty, pos, af, g⟩ ops e = true) (hx : ev e x = .int .u32 a) (hy : ev e y = .int .u32 b)
    (h : Wq P ops C K rest (put e dst (.int .u32 (((a + b) % 4294967296 : Nat) : Int)))) : Wq P ops C K (⟨dst, .binOp .add t x y t2, ty, pos, af, g⟩ :: rest) e :=
  q_val hg (fun _ _ => run_bin hx hy (run_addw (k := .u32) rfl t a b _)) h
theorem op_mulw_u32 (hg : wants ⟨dst, .binOp .mul t x y t2, ty, pos, af, g⟩ ops e = true) (hx : ev e x = .int .u32 a) (hy : ev e y = .int .u32 b)
    (h : Wops P r ops Q rest (put e dst (.int .u32 (((a * b) % 4294967296 : Nat) : Int))) w) : Wops P r ops Q (⟨dst, .binOp .mul t x y t2, ty, pos, af, g⟩ :: rest) e w :=
  op_val hg rfl (run_bin hx hy (run_mulw (k := .u32) rfl t a b _)) h
theorem q_mulw_u32 (hg : wants ⟨dst, .binOp .mul t x y t2, ty, pos, af, g⟩ ops e = true) (hx : ev e x = .int .u32 a) (hy : ev e y = .int .u32 b)
    (h : Wq P ops C K rest (put e dst (.int .u32 (((a * b) % 4294967296 : Nat) : Int)))) : Wq P ops C K (⟨dst, .binOp .mul t x y t2, ty, pos, af, g⟩ :: rest) e :=
  q_val hg (fun _ _ => run_bin hx hy (run_mulw (k := .u32) rfl t a b _)) h
theorem op_com_u32 (hg : wants ⟨dst, .unOp .xor t x, ty, pos, af, g⟩ ops e = true) (hx : ev e x = .int .u32 a) (ha : a < 4294967296)
    (h : Wops P r ops Q rest (put e dst (.int .u32 ((4294967295 ^^^ a : Nat) : Int))) w) : Wops P r ops Q (⟨dst, .unOp .xor t x, ty, pos, af, g⟩ :: rest) e w :=
  op_val hg rfl (run_comw (k := .u32) rfl hx (by exact ha)) h
theorem q_com_u32 (hg : wants ⟨dst, .unOp .xor t x, ty, pos, af, g⟩ ops e = true) (hx : ev e x = .int .u32 a) (ha : a < 4294967296)
    (h : Wq P ops C K rest (put e dst (.int .u32 ((4294967295 ^^^ a : Nat) : Int)))) : Wq P ops C K (⟨dst, .unOp .xor t x, ty, pos, af, g⟩ :: rest) e :=
  q_val hg (fun _ _ => run_comw (k := .u32) rfl hx (by exact ha)) h
theorem op_convn_u32 (hg : wants ⟨dst, .convert s d x, ty, pos, af, g⟩ ops e = true) {k1 : IntKind} {ds : TypeDesc} (hx : ev e x = .int k1 a) (hs : P.underlying s = some ds) (hd : P.underlying d = some (.int .u32))
    (h : Wops P r ops Q rest (put e dst (.int .u32 ((a % 4294967296 : Nat) : Int))) w) : Wops P r ops Q (⟨dst, .convert s d x, ty, pos, af, g⟩ :: rest) e w :=
  op_val hg rfl (run_convn (k := .u32) rfl hx hs hd) h
theorem q_convn_u32 (hg : wants ⟨dst, .convert s d x, ty, pos, af, g⟩ ops e = true) {k1 : IntKind} {ds : TypeDesc} (hx : ev e x = .int k1 a) (hs : P.underlying s = some ds) (hd : P.underlying d = some (.int .u32))
    (h : Wq P ops C K rest (put e dst (.int .u32 ((a % 4294967296 : Nat) : Int)))) : Wq P ops C K (⟨dst, .convert s d x, ty, pos, af, g⟩ :: rest) e :=
  q_val hg (fun _ _ => run_convn (k := .u32) rfl hx hs hd) h
theorem op_and_u64 (hg : wants ⟨dst, .binOp .and t x y t2, ty, pos, af, g⟩ ops e = true) (hx : ev e x = .int .u64 a) (hy : ev e y = .int .u64 b) (ha : a < 18446744073709551616) (hb : b < 18446744073709551616)
    (h : Wops P r ops Q rest (put e dst (.int .u64 ((a &&& b : Nat) : Int))) w) : Wops P r ops Q (⟨dst, .binOp .and t x y t2, ty, pos, af, g⟩ :: rest) e w :=
  op_val hg rfl (run_bin hx hy (by show (Op.intBits .and .u64 (a : Int) (b : Int)).run P w = _; rw [bits_and rfl (by exact ha) (by exact hb)]; rfl)) h
theorem q_and_u64 (hg : wants ⟨dst, .binOp .and t x y t2, ty, pos, af, g⟩ ops e = true) (hx : ev e x = .int .u64 a) (hy : ev e y = .int .u64 b) (ha : a < 18446744073709551616) (hb : b < 18446744073709551616)
    (h : Wq P ops C K rest (put e dst (.int .u64 ((a &&& b : Nat) : Int)))) : Wq P ops C K (⟨dst, .binOp .and t x y t2, ty, pos, af, g⟩ :: rest) e :=
  q_val hg (fun w _ => run_bin hx hy (by show (Op.intBits .and .u64 (a : Int) (b : Int)).run P w = _; rw [bits_and rfl (by exact ha) (by exact hb)]; rfl)) h
theorem op_or_u64 (hg : wants ⟨dst, .binOp .or t x y t2, ty, pos, af, g⟩ ops e = true) (hx : ev e x = .int .u64 a) (hy : ev e y = .int .u64 b) (ha : a < 18446744073709551616) (hb : b < 18446744073709551616)
    (h : Wops P r ops Q rest (put e dst (.int .u64 ((a ||| b : Nat) : Int))) w) : Wops P r ops Q (⟨dst, .binOp .or t x y t2, ty, pos, af, g⟩ :: rest) e w :=
  op_val hg rfl (run_bin hx hy (by show (Op.intBits .or .u64 (a : Int) (b : Int)).run P w = _; rw [bits_or rfl (by exact ha) (by exact hb)]; rfl)) h
theorem q_or_u64 (hg : wants ⟨dst, .binOp .or t x y t2, ty, pos, af, g⟩ ops e = true) (hx : ev e x = .int .u64 a) (hy : ev e y = .int .u64 b) (ha : a < 18446744073709551616) (hb : b < 18446744073709551616)
    (h : Wq P ops C K rest (put e dst (.int .u64 ((a ||| b : Nat) : Int)))) : Wq P ops C K (⟨dst, .binOp .or t x y t2, ty, pos, af, g⟩ :: rest) e :=
  q_val hg (fun w _ => run_bin hx hy (by show (Op.intBits .or .u64 (a : Int) (b : Int)).run P w = _; rw [bits_or rfl (by exact ha) (by exact hb)]; rfl)) h
theorem op_xor_u64 (hg : wants ⟨dst, .binOp .xor t x y t2, ty, pos, af, g⟩ ops e = true) (hx : ev e x = .int .u64 a) (hy : ev e y = .int .u64 b) (ha : a < 18446744073709551616) (hb : b < 18446744073709551616)
    (h : Wops P r ops Q rest (put e dst (.int .u64 ((a ^^^ b : Nat) : Int))) w) : Wops P r ops Q (⟨dst, .binOp .xor t x y t2, ty, pos, af, g⟩ :: rest) e w :=
  op_val hg rfl (run_bin hx hy (by show (Op.intBits .xor .u64 (a : Int) (b : Int)).run P w = _; rw [bits_xor rfl (by exact ha) (by exact hb)]; rfl)) h
theorem q_xor_u64 (hg : wants ⟨dst, .binOp .xor t x y t2, ty, pos, af, g⟩ ops e = true) (hx : ev e x = .int .u64 a) (hy : ev e y = .int .u64 b) (ha : a < 18446744073709551616) (hb : b < 18446744073709551616)
    (h : Wq P ops C K rest (put e dst (.int .u64 ((a ^^^ b : Nat) : Int)))) : Wq P ops C K (⟨dst, .binOp .xor t x y t2, ty, pos, af, g⟩ :: rest) e :=
  q_val hg (fun w _ => run_bin hx hy (by show (Op.intBits .xor .u64 (a : Int) (b : Int)).run P w = _; rw [bits_xor rfl (by exact ha) (by exact hb)]; rfl)) h
theorem op_shr_u64 (hg : wants ⟨dst, .binOp .shr t x y t2, ty, pos, af, g⟩ ops e = true) {k2 : IntKind} (hx : ev e x = .int .u64 a) (hy : ev e y = .int k2 n) (hn : n ≤ 64)
    (h : Wops P r ops Q rest (put e dst (.int .u64 ((a / 2 ^ n : Nat) : Int))) w) : Wops P r ops Q (⟨dst, .binOp .shr t x y t2, ty, pos, af, g⟩ :: rest) e w :=
  op_val hg rfl (run_bin hx hy (by show (Op.shift .shr .u64 (a : Int) k2 (n : Int)).run P w = _; rw [run_shr (by exact hn)]; rfl)) h
theorem q_shr_u64 (hg : wants ⟨dst, .binOp .shr t x y t2, ty, pos, af, g⟩ ops e = true) {k2 : IntKind} (hx : ev e x = .int .u64 a) (hy : ev e y = .int k2 n) (hn : n ≤ 64)
    (h : Wq P ops C K rest (put e dst (.int .u64 ((a / 2 ^ n : Nat) : Int)))) : Wq P ops C K (⟨dst, .binOp .shr t x y t2, ty, pos, af, g⟩ :: rest) e :=
  q_val hg (fun w _ => run_bin hx hy (by show (Op.shift .shr .u64 (a : Int) k2 (n : Int)).run P w = _; rw [run_shr (by exact hn)]; rfl)) h
theorem op_shl_u64 (hg : wants ⟨dst, .binOp .shl t x y t2, ty, pos, af, g⟩ ops e = true) {k2 : IntKind} (hx : ev e x = .int .u64 a) (hy : ev e y = .int k2 n) (hn : n ≤ 64)
    (h : Wops P r ops Q rest (put e dst (.int .u64 ((a * 2 ^ n % 18446744073709551616 : Nat) : Int))) w) : Wops P r ops Q (⟨dst, .binOp .shl t x y t2, ty, pos, af, g⟩ :: rest) e w :=
  op_val hg rfl (run_bin hx hy (by show (Op.shift .shl .u64 (a : Int) k2 (n : Int)).run P w = _; rw [run_shl rfl (by exact hn)]; rfl)) h
theorem q_shl_u64 (hg : wants ⟨dst, .binOp .shl t x y t2, ty, pos, af, g⟩ ops e = true) {k2 : IntKind} (hx : ev e x = .int .u64 a) (hy : ev e y = .int k2 n) (hn : n ≤ 64)
    (h : Wq P ops C K rest (put e dst (.int .u64 ((a * 2 ^ n % 18446744073709551616 : Nat) : Int)))) : Wq P ops C K (⟨dst, .binOp .shl t x y t2, ty, pos, af, g⟩ :: rest) e :=
  q_val hg (fun w _ => run_bin hx hy (by show (Op.shift .shl .u64 (a : Int) k2 (n : Int)).run P w = _; rw [run_shl rfl (by exact hn)]; rfl)) h
theorem op_addw_u64 (hg : wants ⟨dst, .binOp .add t x y t2, ty, pos, af, g⟩ ops e = true) (hx : ev e x = .int .u64 a) (hy : ev e y = .int .u64 b)
    (h : Wops P r ops Q rest (put e dst (.int .u64 (((a + b) % 18446744073709551616 : Nat) : Int))) w) : Wops P r ops Q (⟨dst, .binOp .add t x y t2, ty, pos, af, g⟩ :: rest) e w :=
  op_val hg rfl (run_bin hx hy (run_addw (k := .u64) rfl t a b _)) h
theorem q_addw_u64 (hg : wants ⟨dst, .binOp .add t x y t2, ty, pos, af, g⟩ ops e = true) (hx : ev e x = .int .u64 a) (hy : ev e y = .int .u64 b)
    (h : Wq P ops C K rest (put e dst (.int .u64 (((a + b) % 18446744073709551616 : Nat) : Int)))) : Wq P ops C K (⟨dst, .binOp .add t x y t2, ty, pos, af, g⟩ :: rest) e :=
  q_val hg (fun _ _ => run_bin hx hy (run_addw (k := .u64) rfl t a b _)) h
theorem op_mulw_u64 (hg : wants ⟨dst, .binOp .mul t x y t2, ty, pos, af, g⟩ ops e = true) (hx : ev e x = .int .u64 a) (hy : ev e y = .int .u64 b)
    (h : Wops P r ops Q rest (put e dst (.int .u64 (((a * b) % 18446744073709551616 : Nat) : Int))) w) : Wops P r ops Q (⟨dst, .binOp .mul t x y t2, ty, pos, af, g⟩ :: rest) e w :=
  op_val hg rfl (run_bin hx hy (run_mulw (k := .u64) rfl t a b _)) h
theorem q_mulw_u64 (hg : wants ⟨dst, .binOp .mul t x y t2, ty, pos, af, g⟩ ops e = true) (hx : ev e x = .int .u64 a) (hy : ev e y = .int .u64 b)
    (h : Wq P ops C K rest (put e dst (.int .u64 (((a * b) % 18446744073709551616 : Nat) : Int)))) : Wq P ops C K (⟨dst, .binOp .mul t x y t2, ty, pos, af, g⟩ :: rest) e :=
  q_val hg (fun _ _ => run_bin hx hy (run_mulw (k := .u64) rfl t a b _)) h
theorem op_com_u64 (hg : wants ⟨dst, .unOp .xor t x, ty, pos, af, g⟩ ops e = true) (hx : ev e x = .int .u64 a) (ha : a < 18446744073709551616)
    (h : Wops P r ops Q rest (put e dst (.int .u64 ((18446744073709551615 ^^^ a : Nat) : Int))) w) : Wops P r ops Q (⟨dst, .unOp .xor t x, ty, pos, af, g⟩ :: rest) e w :=
  op_val hg rfl (run_comw (k := .u64) rfl hx (by exact ha)) h
theorem q_com_u64 (hg : wants ⟨dst, .unOp .xor t x, ty, pos, af, g⟩ ops e = true) (hx : ev e x = .int .u64 a) (ha : a < 18446744073709551616)
    (h : Wq P ops C K rest (put e dst (.int .u64 ((18446744073709551615 ^^^ a : Nat) : Int)))) : Wq P ops C K (⟨dst, .unOp .xor t x, ty, pos, af, g⟩ :: rest) e :=
  q_val hg (fun _ _ => run_comw (k := .u64) rfl hx (by exact ha)) h
theorem op_convn_u64 (hg : wants ⟨dst, .convert s d x, ty, pos, af, g⟩ ops e = true) {k1 : IntKind} {ds : TypeDesc} (hx : ev e x = .int k1 a) (hs : P.underlying s = some ds) (hd : P.underlying d = some (.int .u64))
    (h : Wops P r ops Q rest (put e dst (.int .u64 ((a % 18446744073709551616 : Nat) : Int))) w) : Wops P r ops Q (⟨dst, .convert s d x, ty, pos, af, g⟩ :: rest) e w :=
  op_val hg rfl (run_convn (k := .u64) rfl hx hs hd) h
theorem q_convn_u64 (hg : wants ⟨dst, .convert s d x, ty, pos, af, g⟩ ops e = true) {k1 : IntKind} {ds : TypeDesc} (hx : ev e x = .int k1 a) (hs : P.underlying s = some ds) (hd : P.underlying d = some (.int .u64))
    (h : Wq P ops C K rest (put e dst (.int .u64 ((a % 18446744073709551616 : Nat) : Int)))) : Wq P ops C K (⟨dst, .convert s d x, ty, pos, af, g⟩ :: rest) e :=
  q_val hg (fun _ _ => run_convn (k := .u64) rfl hx hs hd) h
end
end Go.GV

/- The rules for operations that are carried out ahead within a region that draws its order; printed by mkmore.py. They hold for every program. -/
namespace Go.GV
open Go
section
variable {P : Program} {r : Option Nat} {ops rest : List Oper} {Q : Exit → Env → World → Prop} {e : Env} {w w0 : World} {S : List Nat} {L : List (Nat × Obj)}
  {dst : Option Tmp} {ty : TypeId} {pos : String} {af : Array Edge} {g : Option (Nat × Bool)} {C : World → Prop} {K : Env → Prop}

theorem t_val {o : Oper} {v : Value} (hg : wants o ops e = true) (hrun : ∀ w, C w → (execOp (ev e) o).run P w = .ok (.value v) w) (h : Wt P ops C K rest (put e o.dst v)) : Wt P ops C K (o :: rest) e := by
  unfold Wt
  rw [if_pos hg]
  exact ⟨v, hrun, h⟩
theorem t_skip {o : Oper} (hg : wants o ops e = false) (h : Wt P ops C K rest (put e o.dst undef)) : Wt P ops C K (o :: rest) e := by
  unfold Wt
  rw [if_neg (by rw [hg]; simp)]
  exact h
theorem t_nil (h : K e) : Wt P ops C K [] e := h
theorem Wt_known {l : List Oper} (d : Tmp) {b : Bool} (c : Bool) (hd : e.g d = .bool b) (hb : b = c) (h : Wt P ops C K l (put e (some d) (.bool c))) : Wt P ops C K l e := by
  subst hb
  rw [put_same_val hd] at h
  exact h
theorem Wt_split {l : List Oper} (d : Tmp) {b : Bool} (hd : e.g d = .bool b) (h1 : b = true → Wt P ops C K l (put e (some d) (.bool true)))
    (h2 : b = false → Wt P ops C K l (put e (some d) (.bool false))) : Wt P ops C K l e := by
  cases b with
  | true => exact Wt_known d true hd rfl (h1 rfl)
  | false => exact Wt_known d false hd rfl (h2 rfl)
section
variable {t t2 : TypeId} {x y : Operand} {k : IntKind} {a b : Int}
theorem t_ld {t : TypeId} {x : Operand} {p : Addr} {v : Value} (hg : wants ⟨dst, .load t x, ty, pos, af, g⟩ ops e = true) (ha : aggB P t = some false) (hx : ev e x = .pointer (some p)) (hc : ∀ w, C w → w.cell? p = some v)
    (h : Wt P ops C K rest (put e dst v)) : Wt P ops C K (⟨dst, .load t x, ty, pos, af, g⟩ :: rest) e :=
  t_val hg (fun w hw => by simp [execOp, hx, Instr.loadAt, Instr.sureAddr, run_load1 ha (hc w hw)]) h
theorem t_ldb {t t2 : TypeId} {x : Operand} {b i k : Nat} {l : List Value} {v : Value} (hg : wants ⟨dst, .load t x, ty, pos, af, g⟩ ops e = true) (ha : aggB P t = some false) (hx : ev e x = .pointer (some ⟨b, i, none⟩))
    (H : ∀ w, C w → Ctx w0 S w L) (hk : L[k]? = some (b, Bl t2 l)) (hc : l[i]? = some v)
    (h : Wt P ops C K rest (put e dst v)) : Wt P ops C K (⟨dst, .load t x, ty, pos, af, g⟩ :: rest) e :=
  t_ld hg ha hx (fun w hw => by rw [cell_bl ((H w hw).get hk)]; exact hc) h
theorem t_ldN {t : TypeId} {x : Operand} {b o s : Nat} (l : List Value) (hg : wants ⟨dst, .load t x, ty, pos, af, g⟩ ops e = true) (ha : aggB P t = some true) (hs : tsize P t = some s) (hx : ev e x = .pointer (some ⟨b, o, none⟩))
    (hl : l.length = s) (hc : ∀ w, C w → ∀ j v, l[j]? = some v → w.cell? ⟨b, o + j, none⟩ = some v)
    (h : Wt P ops C K rest (put e dst (.agg l.toArray))) : Wt P ops C K (⟨dst, .load t x, ty, pos, af, g⟩ :: rest) e :=
  t_val hg (fun w hw => by simp [execOp, hx, Instr.loadAt, Instr.sureAddr, run_loadN ha hs hl (hc w hw)]) h
theorem t_ldbN {t t2 : TypeId} {x : Operand} {b s k : Nat} {l : List Value} (hg : wants ⟨dst, .load t x, ty, pos, af, g⟩ ops e = true) (ha : aggB P t = some true) (hs : tsize P t = some s) (hx : ev e x = .pointer (some ⟨b, 0, none⟩))
    (H : ∀ w, C w → Ctx w0 S w L) (hk : L[k]? = some (b, Bl t2 l)) (hl : l.length = s)
    (h : Wt P ops C K rest (put e dst (.agg l.toArray))) : Wt P ops C K (⟨dst, .load t x, ty, pos, af, g⟩ :: rest) e :=
  t_ldN l hg ha hs hx hl (fun w hw j v hv => by rw [cell_bl ((H w hw).get hk), Nat.zero_add]; exact hv) h
theorem t_lss (hg : wants ⟨dst, .binOp .lss t x y t2, ty, pos, af, g⟩ ops e = true) (hx : ev e x = .int k a) (hy : ev e y = .int k b) (h : Wt P ops C K rest (put e dst (.bool (decide (a < b))))) :
    Wt P ops C K (⟨dst, .binOp .lss t x y t2, ty, pos, af, g⟩ :: rest) e := t_val hg (fun w _ => run_bin hx hy (by simp [binOp, Op.intCmp])) h
theorem t_leq (hg : wants ⟨dst, .binOp .leq t x y t2, ty, pos, af, g⟩ ops e = true) (hx : ev e x = .int k a) (hy : ev e y = .int k b) (h : Wt P ops C K rest (put e dst (.bool (decide (a ≤ b))))) :
    Wt P ops C K (⟨dst, .binOp .leq t x y t2, ty, pos, af, g⟩ :: rest) e := t_val hg (fun w _ => run_bin hx hy (by simp [binOp, Op.intCmp])) h
theorem t_gtr (hg : wants ⟨dst, .binOp .gtr t x y t2, ty, pos, af, g⟩ ops e = true) (hx : ev e x = .int k a) (hy : ev e y = .int k b) (h : Wt P ops C K rest (put e dst (.bool (decide (b < a))))) :
    Wt P ops C K (⟨dst, .binOp .gtr t x y t2, ty, pos, af, g⟩ :: rest) e := t_val hg (fun w _ => run_bin hx hy (by simp [binOp, Op.intCmp])) h
theorem t_geq (hg : wants ⟨dst, .binOp .geq t x y t2, ty, pos, af, g⟩ ops e = true) (hx : ev e x = .int k a) (hy : ev e y = .int k b) (h : Wt P ops C K rest (put e dst (.bool (decide (b ≤ a))))) :
    Wt P ops C K (⟨dst, .binOp .geq t x y t2, ty, pos, af, g⟩ :: rest) e := t_val hg (fun w _ => run_bin hx hy (by simp [binOp, Op.intCmp])) h
theorem t_eql (hg : wants ⟨dst, .binOp .eql t x y t2, ty, pos, af, g⟩ ops e = true) (hx : ev e x = .int k a) (hy : ev e y = .int k b) (h : Wt P ops C K rest (put e dst (.bool (decide (a = b))))) :
    Wt P ops C K (⟨dst, .binOp .eql t x y t2, ty, pos, af, g⟩ :: rest) e :=
  t_val hg (fun w _ => run_bin hx hy (v := .bool (decide (a = b))) (by simp [binOp, Op.intCmp]; rfl)) h
theorem t_neq (hg : wants ⟨dst, .binOp .neq t x y t2, ty, pos, af, g⟩ ops e = true) (hx : ev e x = .int k a) (hy : ev e y = .int k b) (h : Wt P ops C K rest (put e dst (.bool (!decide (a = b))))) :
    Wt P ops C K (⟨dst, .binOp .neq t x y t2, ty, pos, af, g⟩ :: rest) e :=
  t_val hg (fun w _ => run_bin hx hy (v := .bool (!decide (a = b))) (by simp [binOp, Op.intCmp]; rfl)) h

theorem t_quo (hg : wants ⟨dst, .binOp .quo t x y t2, ty, pos, af, g⟩ ops e = true) (hx : ev e x = .int k a) (hy : ev e y = .int k b) (h0 : 0 ≤ a) (hb : 0 < b) (h2 : a ≤ k.max)
    (h : Wt P ops C K rest (put e dst (.int k (a / b)))) : Wt P ops C K (⟨dst, .binOp .quo t x y t2, ty, pos, af, g⟩ :: rest) e := by
  refine t_val hg (fun w _ => run_bin hx hy (v := .int k (a / b)) ?_) h
  have h3 : a.tdiv b = a / b := Int.tdiv_eq_ediv_of_nonneg h0
  have h4 : 0 ≤ a / b := Int.ediv_nonneg h0 (by omega)
  have h5 : a / b ≤ a := Int.ediv_le_self _ h0
  have h6 : k.min ≤ 0 := by cases k <;> decide
  simp [binOp, Op.intDiv, h3, show ¬ b = 0 from by omega, wrap_in (k := k) (n := a / b) (by omega) (by omega)]
theorem t_rem (hg : wants ⟨dst, .binOp .rem t x y t2, ty, pos, af, g⟩ ops e = true) (hx : ev e x = .int k a) (hy : ev e y = .int k b) (h0 : 0 ≤ a) (hb : 0 < b)
    (h : Wt P ops C K rest (put e dst (.int k (a % b)))) : Wt P ops C K (⟨dst, .binOp .rem t x y t2, ty, pos, af, g⟩ :: rest) e := by
  refine t_val hg (fun w _ => run_bin hx hy (v := .int k (a % b)) ?_) h
  have h3 : a.tmod b = a % b := Int.tmod_eq_emod_of_nonneg h0
  simp [binOp, Op.intDiv, h3, show ¬ b = 0 from by omega]
theorem t_add_i64 (hg : wants ⟨dst, .binOp .add t x y t2, ty, pos, af, g⟩ ops e = true) (hx : ev e x = .int .i64 a) (hy : ev e y = .int .i64 b) (h1 : -9223372036854775808 ≤ a + b) (h2 : a + b ≤ 9223372036854775807)
    (h : Wt P ops C K rest (put e dst (.int .i64 (a + b)))) : Wt P ops C K (⟨dst, .binOp .add t x y t2, ty, pos, af, g⟩ :: rest) e := t_val hg (fun w _ => run_bin hx hy (by simp [binOp, Op.intArith, wrap_in (k := .i64) (n := a + b) h1 h2])) h
theorem t_sub_i64 (hg : wants ⟨dst, .binOp .sub t x y t2, ty, pos, af, g⟩ ops e = true) (hx : ev e x = .int .i64 a) (hy : ev e y = .int .i64 b) (h1 : -9223372036854775808 ≤ a - b) (h2 : a - b ≤ 9223372036854775807)
    (h : Wt P ops C K rest (put e dst (.int .i64 (a - b)))) : Wt P ops C K (⟨dst, .binOp .sub t x y t2, ty, pos, af, g⟩ :: rest) e := t_val hg (fun w _ => run_bin hx hy (by simp [binOp, Op.intArith, wrap_in (k := .i64) (n := a - b) h1 h2])) h
theorem t_mul_i64 (hg : wants ⟨dst, .binOp .mul t x y t2, ty, pos, af, g⟩ ops e = true) (hx : ev e x = .int .i64 a) (hy : ev e y = .int .i64 b) (h1 : -9223372036854775808 ≤ a * b) (h2 : a * b ≤ 9223372036854775807)
    (h : Wt P ops C K rest (put e dst (.int .i64 (a * b)))) : Wt P ops C K (⟨dst, .binOp .mul t x y t2, ty, pos, af, g⟩ :: rest) e := t_val hg (fun w _ => run_bin hx hy (by simp [binOp, Op.intArith, wrap_in (k := .i64) (n := a * b) h1 h2])) h
theorem t_neg_i64 (hg : wants ⟨dst, .unOp .neg t x, ty, pos, af, g⟩ ops e = true) (hx : ev e x = .int .i64 a) (h1 : -9223372036854775808 ≤ - a) (h2 : - a ≤ 9223372036854775807) (h : Wt P ops C K rest (put e dst (.int .i64 (- a)))) : Wt P ops C K (⟨dst, .unOp .neg t x, ty, pos, af, g⟩ :: rest) e := t_val hg (fun w _ => by simp [execOp, hx, Op.unary, Op.intArith, wrap_in (k := .i64) h1 h2]) h
theorem t_conv_i64 {s d : TypeId} {ds : TypeDesc} (hg : wants ⟨dst, .convert s d x, ty, pos, af, g⟩ ops e = true) (hx : ev e x = .int k a) (hs : P.underlying s = some ds) (hd : P.underlying d = some (.int .i64)) (h1 : -9223372036854775808 ≤ a) (h2 : a ≤ 9223372036854775807) (h : Wt P ops C K rest (put e dst (.int .i64 a))) : Wt P ops C K (⟨dst, .convert s d x, ty, pos, af, g⟩ :: rest) e :=
  t_val hg (fun w _ => by simp [execOp, hx, convert, run_under hs, run_under hd, Conv.intToInt, wrap_in (k := .i64) (n := a) h1 h2]) h
theorem t_add_i32 (hg : wants ⟨dst, .binOp .add t x y t2, ty, pos, af, g⟩ ops e = true) (hx : ev e x = .int .i32 a) (hy : ev e y = .int .i32 b) (h1 : -2147483648 ≤ a + b) (h2 : a + b ≤ 2147483647)
    (h : Wt P ops C K rest (put e dst (.int .i32 (a + b)))) : Wt P ops C K (⟨dst, .binOp .add t x y t2, ty, pos, af, g⟩ :: rest) e := t_val hg (fun w _ => run_bin hx hy (by simp [binOp, Op.intArith, wrap_in (k := .i32) (n := a + b) h1 h2])) h
theorem t_sub_i32 (hg : wants ⟨dst, .binOp .sub t x y t2, ty, pos, af, g⟩ ops e = true) (hx : ev e x = .int .i32 a) (hy : ev e y = .int .i32 b) (h1 : -2147483648 ≤ a - b) (h2 : a - b ≤ 2147483647)
    (h : Wt P ops C K rest (put e dst (.int .i32 (a - b)))) : Wt P ops C K (⟨dst, .binOp .sub t x y t2, ty, pos, af, g⟩ :: rest) e := t_val hg (fun w _ => run_bin hx hy (by simp [binOp, Op.intArith, wrap_in (k := .i32) (n := a - b) h1 h2])) h
theorem t_mul_i32 (hg : wants ⟨dst, .binOp .mul t x y t2, ty, pos, af, g⟩ ops e = true) (hx : ev e x = .int .i32 a) (hy : ev e y = .int .i32 b) (h1 : -2147483648 ≤ a * b) (h2 : a * b ≤ 2147483647)
    (h : Wt P ops C K rest (put e dst (.int .i32 (a * b)))) : Wt P ops C K (⟨dst, .binOp .mul t x y t2, ty, pos, af, g⟩ :: rest) e := t_val hg (fun w _ => run_bin hx hy (by simp [binOp, Op.intArith, wrap_in (k := .i32) (n := a * b) h1 h2])) h
theorem t_neg_i32 (hg : wants ⟨dst, .unOp .neg t x, ty, pos, af, g⟩ ops e = true) (hx : ev e x = .int .i32 a) (h1 : -2147483648 ≤ - a) (h2 : - a ≤ 2147483647) (h : Wt P ops C K rest (put e dst (.int .i32 (- a)))) : Wt P ops C K (⟨dst, .unOp .neg t x, ty, pos, af, g⟩ :: rest) e := t_val hg (fun w _ => by simp [execOp, hx, Op.unary, Op.intArith, wrap_in (k := .i32) h1 h2]) h
theorem t_conv_i32 {s d : TypeId} {ds : TypeDesc} (hg : wants ⟨dst, .convert s d x, ty, pos, af, g⟩ ops e = true) (hx : ev e x = .int k a) (hs : P.underlying s = some ds) (hd : P.underlying d = some (.int .i32)) (h1 : -2147483648 ≤ a) (h2 : a ≤ 2147483647) (h : Wt P ops C K rest (put e dst (.int .i32 a))) : Wt P ops C K (⟨dst, .convert s d x, ty, pos, af, g⟩ :: rest) e :=
  t_val hg (fun w _ => by simp [execOp, hx, convert, run_under hs, run_under hd, Conv.intToInt, wrap_in (k := .i32) (n := a) h1 h2]) h
theorem t_add_u8 (hg : wants ⟨dst, .binOp .add t x y t2, ty, pos, af, g⟩ ops e = true) (hx : ev e x = .int .u8 a) (hy : ev e y = .int .u8 b) (h1 : 0 ≤ a + b) (h2 : a + b ≤ 255)
    (h : Wt P ops C K rest (put e dst (.int .u8 (a + b)))) : Wt P ops C K (⟨dst, .binOp .add t x y t2, ty, pos, af, g⟩ :: rest) e := t_val hg (fun w _ => run_bin hx hy (by simp [binOp, Op.intArith, wrap_in (k := .u8) (n := a + b) h1 h2])) h
theorem t_sub_u8 (hg : wants ⟨dst, .binOp .sub t x y t2, ty, pos, af, g⟩ ops e = true) (hx : ev e x = .int .u8 a) (hy : ev e y = .int .u8 b) (h1 : 0 ≤ a - b) (h2 : a - b ≤ 255)
    (h : Wt P ops C K rest (put e dst (.int .u8 (a - b)))) : Wt P ops C K (⟨dst, .binOp .sub t x y t2, ty, pos, af, g⟩ :: rest) e := t_val hg (fun w _ => run_bin hx hy (by simp [binOp, Op.intArith, wrap_in (k := .u8) (n := a - b) h1 h2])) h
theorem t_mul_u8 (hg : wants ⟨dst, .binOp .mul t x y t2, ty, pos, af, g⟩ ops e = true) (hx : ev e x = .int .u8 a) (hy : ev e y = .int .u8 b) (h1 : 0 ≤ a * b) (h2 : a * b ≤ 255)
    (h : Wt P ops C K rest (put e dst (.int .u8 (a * b)))) : Wt P ops C K (⟨dst, .binOp .mul t x y t2, ty, pos, af, g⟩ :: rest) e := t_val hg (fun w _ => run_bin hx hy (by simp [binOp, Op.intArith, wrap_in (k := .u8) (n := a * b) h1 h2])) h
theorem t_conv_u8 {s d : TypeId} {ds : TypeDesc} (hg : wants ⟨dst, .convert s d x, ty, pos, af, g⟩ ops e = true) (hx : ev e x = .int k a) (hs : P.underlying s = some ds) (hd : P.underlying d = some (.int .u8)) (h1 : 0 ≤ a) (h2 : a ≤ 255) (h : Wt P ops C K rest (put e dst (.int .u8 a))) : Wt P ops C K (⟨dst, .convert s d x, ty, pos, af, g⟩ :: rest) e :=
  t_val hg (fun w _ => by simp [execOp, hx, convert, run_under hs, run_under hd, Conv.intToInt, wrap_in (k := .u8) (n := a) h1 h2]) h
theorem t_add_u16 (hg : wants ⟨dst, .binOp .add t x y t2, ty, pos, af, g⟩ ops e = true) (hx : ev e x = .int .u16 a) (hy : ev e y = .int .u16 b) (h1 : 0 ≤ a + b) (h2 : a + b ≤ 65535)
    (h : Wt P ops C K rest (put e dst (.int .u16 (a + b)))) : Wt P ops C K (⟨dst, .binOp .add t x y t2, ty, pos, af, g⟩ :: rest) e := t_val hg (fun w _ => run_bin hx hy (by simp [binOp, Op.intArith, wrap_in (k := .u16) (n := a + b) h1 h2])) h
theorem t_sub_u16 (hg : wants ⟨dst, .binOp .sub t x y t2, ty, pos, af, g⟩ ops e = true) (hx : ev e x = .int .u16 a) (hy : ev e y = .int .u16 b) (h1 : 0 ≤ a - b) (h2 : a - b ≤ 65535)
    (h : Wt P ops C K rest (put e dst (.int .u16 (a - b)))) : Wt P ops C K (⟨dst, .binOp .sub t x y t2, ty, pos, af, g⟩ :: rest) e := t_val hg (fun w _ => run_bin hx hy (by simp [binOp, Op.intArith, wrap_in (k := .u16) (n := a - b) h1 h2])) h
theorem t_mul_u16 (hg : wants ⟨dst, .binOp .mul t x y t2, ty, pos, af, g⟩ ops e = true) (hx : ev e x = .int .u16 a) (hy : ev e y = .int .u16 b) (h1 : 0 ≤ a * b) (h2 : a * b ≤ 65535)
    (h : Wt P ops C K rest (put e dst (.int .u16 (a * b)))) : Wt P ops C K (⟨dst, .binOp .mul t x y t2, ty, pos, af, g⟩ :: rest) e := t_val hg (fun w _ => run_bin hx hy (by simp [binOp, Op.intArith, wrap_in (k := .u16) (n := a * b) h1 h2])) h
theorem t_conv_u16 {s d : TypeId} {ds : TypeDesc} (hg : wants ⟨dst, .convert s d x, ty, pos, af, g⟩ ops e = true) (hx : ev e x = .int k a) (hs : P.underlying s = some ds) (hd : P.underlying d = some (.int .u16)) (h1 : 0 ≤ a) (h2 : a ≤ 65535) (h : Wt P ops C K rest (put e dst (.int .u16 a))) : Wt P ops C K (⟨dst, .convert s d x, ty, pos, af, g⟩ :: rest) e :=
  t_val hg (fun w _ => by simp [execOp, hx, convert, run_under hs, run_under hd, Conv.intToInt, wrap_in (k := .u16) (n := a) h1 h2]) h
theorem t_add_u32 (hg : wants ⟨dst, .binOp .add t x y t2, ty, pos, af, g⟩ ops e = true) (hx : ev e x = .int .u32 a) (hy : ev e y = .int .u32 b) (h1 : 0 ≤ a + b) (h2 : a + b ≤ 4294967295)
    (h : Wt P ops C K rest (put e dst (.int .u32 (a + b)))) : Wt P ops C K (⟨dst, .binOp .add t x y t2, ty, pos, af, g⟩ :: rest) e := t_val hg (fun w _ => run_bin hx hy (by simp [binOp, Op.intArith, wrap_in (k := .u32) (n := a + b) h1 h2])) h
theorem t_sub_u32 (hg : wants ⟨dst, .binOp .sub t x y t2, ty, pos, af, g⟩ ops e = true) (hx : ev e x = .int .u32 a) (hy : ev e y = .int .u32 b) (h1 : 0 ≤ a - b) (h2 : a - b ≤ 4294967295)
    (h : Wt P ops C K rest (put e dst (.int .u32 (a - b)))) : Wt P ops C K (⟨dst, .binOp .sub t x y t2, ty, pos, af, g⟩ :: rest) e := t_val hg (fun w _ => run_bin hx hy (by simp [binOp, Op.intArith, wrap_in (k := .u32) (n := a - b) h1 h2])) h
theorem t_mul_u32 (hg : wants ⟨dst, .binOp .mul t x y t2, ty, pos, af, g⟩ ops e = true) (hx : ev e x = .int .u32 a) (hy : ev e y = .int .u32 b) (h1 : 0 ≤ a * b) (h2 : a * b ≤ 4294967295)
    (h : Wt P ops C K rest (put e dst (.int .u32 (a * b)))) : Wt P ops C K (⟨dst, .binOp .mul t x y t2, ty, pos, af, g⟩ :: rest) e := t_val hg (fun w _ => run_bin hx hy (by simp [binOp, Op.intArith, wrap_in (k := .u32) (n := a * b) h1 h2])) h
theorem t_conv_u32 {s d : TypeId} {ds : TypeDesc} (hg : wants ⟨dst, .convert s d x, ty, pos, af, g⟩ ops e = true) (hx : ev e x = .int k a) (hs : P.underlying s = some ds) (hd : P.underlying d = some (.int .u32)) (h1 : 0 ≤ a) (h2 : a ≤ 4294967295) (h : Wt P ops C K rest (put e dst (.int .u32 a))) : Wt P ops C K (⟨dst, .convert s d x, ty, pos, af, g⟩ :: rest) e :=
  t_val hg (fun w _ => by simp [execOp, hx, convert, run_under hs, run_under hd, Conv.intToInt, wrap_in (k := .u32) (n := a) h1 h2]) h
theorem t_add_u64 (hg : wants ⟨dst, .binOp .add t x y t2, ty, pos, af, g⟩ ops e = true) (hx : ev e x = .int .u64 a) (hy : ev e y = .int .u64 b) (h1 : 0 ≤ a + b) (h2 : a + b ≤ 18446744073709551615)
    (h : Wt P ops C K rest (put e dst (.int .u64 (a + b)))) : Wt P ops C K (⟨dst, .binOp .add t x y t2, ty, pos, af, g⟩ :: rest) e := t_val hg (fun w _ => run_bin hx hy (by simp [binOp, Op.intArith, wrap_in (k := .u64) (n := a + b) h1 h2])) h
theorem t_sub_u64 (hg : wants ⟨dst, .binOp .sub t x y t2, ty, pos, af, g⟩ ops e = true) (hx : ev e x = .int .u64 a) (hy : ev e y = .int .u64 b) (h1 : 0 ≤ a - b) (h2 : a - b ≤ 18446744073709551615)
    (h : Wt P ops C K rest (put e dst (.int .u64 (a - b)))) : Wt P ops C K (⟨dst, .binOp .sub t x y t2, ty, pos, af, g⟩ :: rest) e := t_val hg (fun w _ => run_bin hx hy (by simp [binOp, Op.intArith, wrap_in (k := .u64) (n := a - b) h1 h2])) h
theorem t_mul_u64 (hg : wants ⟨dst, .binOp .mul t x y t2, ty, pos, af, g⟩ ops e = true) (hx : ev e x = .int .u64 a) (hy : ev e y = .int .u64 b) (h1 : 0 ≤ a * b) (h2 : a * b ≤ 18446744073709551615)
    (h : Wt P ops C K rest (put e dst (.int .u64 (a * b)))) : Wt P ops C K (⟨dst, .binOp .mul t x y t2, ty, pos, af, g⟩ :: rest) e := t_val hg (fun w _ => run_bin hx hy (by simp [binOp, Op.intArith, wrap_in (k := .u64) (n := a * b) h1 h2])) h
theorem t_conv_u64 {s d : TypeId} {ds : TypeDesc} (hg : wants ⟨dst, .convert s d x, ty, pos, af, g⟩ ops e = true) (hx : ev e x = .int k a) (hs : P.underlying s = some ds) (hd : P.underlying d = some (.int .u64)) (h1 : 0 ≤ a) (h2 : a ≤ 18446744073709551615) (h : Wt P ops C K rest (put e dst (.int .u64 a))) : Wt P ops C K (⟨dst, .convert s d x, ty, pos, af, g⟩ :: rest) e :=
  t_val hg (fun w _ => by simp [execOp, hx, convert, run_under hs, run_under hd, Conv.intToInt, wrap_in (k := .u64) (n := a) h1 h2]) h
theorem t_move {x : Operand} (hg : wants ⟨dst, .move x, ty, pos, af, g⟩ ops e = true) (v : Value) (hx : ev e x = v) (h : Wt P ops C K rest (put e dst v)) :
    Wt P ops C K (⟨dst, .move x, ty, pos, af, g⟩ :: rest) e := t_val hg (fun w _ => by simp [execOp, hx]) h
theorem t_assign {x : Operand} (hg : wants ⟨dst, .assign x, ty, pos, af, g⟩ ops e = true) (v : Value) (hx : ev e x = v) (h : Wt P ops C K rest (put e dst v)) :
    Wt P ops C K (⟨dst, .assign x, ty, pos, af, g⟩ :: rest) e := t_val hg (fun w _ => by simp [execOp, hx]) h
theorem t_pick1 {c a b : Operand} (hg : wants ⟨dst, .pick c a b, ty, pos, af, g⟩ ops e = true) (hc : ev e c = .bool true) (v : Value) (hx : ev e a = v) (h : Wt P ops C K rest (put e dst v)) :
    Wt P ops C K (⟨dst, .pick c a b, ty, pos, af, g⟩ :: rest) e := t_val hg (fun w _ => by simp [execOp, hc, hx, asBool]) h
theorem t_pick0 {c a b : Operand} (hg : wants ⟨dst, .pick c a b, ty, pos, af, g⟩ ops e = true) (hc : ev e c = .bool false) (v : Value) (hx : ev e b = v) (h : Wt P ops C K rest (put e dst v)) :
    Wt P ops C K (⟨dst, .pick c a b, ty, pos, af, g⟩ :: rest) e := t_val hg (fun w _ => by simp [execOp, hc, hx, asBool]) h

theorem t_not {t : TypeId} {x : Operand} {b : Bool} (hg : wants ⟨dst, .unOp .not t x, ty, pos, af, g⟩ ops e = true) (hx : ev e x = .bool b) (h : Wt P ops C K rest (put e dst (.bool (!b)))) :
    Wt P ops C K (⟨dst, .unOp .not t x, ty, pos, af, g⟩ :: rest) e := t_val hg (fun w _ => by simp [execOp, hx, Op.unary]) h
theorem t_nilCheck {x : Operand} {p : Addr} (hg : wants ⟨dst, .nilCheck x, ty, pos, af, g⟩ ops e = true) (hx : ev e x = .pointer (some p)) (h : Wt P ops C K rest (put e dst (.pointer (some p)))) :
    Wt P ops C K (⟨dst, .nilCheck x, ty, pos, af, g⟩ :: rest) e := t_val hg (fun w _ => by simp [execOp, hx]) h
theorem t_indexAddr {t el : TypeId} {x y : Operand} {b o n c s : Nat} {k : IntKind} {i : Int} (hg : wants ⟨dst, .indexAddr t x y, ty, pos, af, g⟩ ops e = true) (hu : elemT P t = some el) (hs : tsize P el = some s)
    (hx : ev e x = .slice (some ⟨b, o, none⟩) n c) (hy : ev e y = .int k i) (h0 : 0 ≤ i) (h1 : i < n)
    (h : Wt P ops C K rest (put e dst (.pointer (some ⟨b, o + i.toNat * s, none⟩)))) :
    Wt P ops C K (⟨dst, .indexAddr t x y, ty, pos, af, g⟩ :: rest) e :=
  t_val hg (fun w _ => by simp [execOp, hx, hy, Instr.indexAt, asIntOf, run_under (elemT_u hu), h0, h1, run_size hs, add_none]) h
theorem t_indexRd {t el : TypeId} {x y : Operand} {a : Option Addr} {n c s : Nat} {k : IntKind} {i : Int} {α : Type} {enc : α → List Value} {xs : List α} {w1 : World} (R : Rd w1 a s enc xs)
    (hg : wants ⟨dst, .indexAddr t x y, ty, pos, af, g⟩ ops e = true) (hu : elemT P t = some el) (hs : tsize P el = some s)
    (hx : ev e x = .slice a n c) (hy : ev e y = .int k i) (h0 : 0 ≤ i) (h1 : i < n) (hn : n = xs.length)
    (h : Wt P ops C K rest (put e dst (.pointer (some ⟨(adr a).block, (adr a).off + i.toNat * s, none⟩)))) :
    Wt P ops C K (⟨dst, .indexAddr t x y, ty, pos, af, g⟩ :: rest) e := by
  obtain ⟨b, o, rfl⟩ := R.some' (by rintro rfl; simp at hn; omega)
  exact t_indexAddr hg hu hs hx hy h0 h1 h
theorem t_indexArr {t el : TypeId} {x y : Operand} {b o n s : Nat} {k : IntKind} {i : Int} (hg : wants ⟨dst, .indexAddr t x y, ty, pos, af, g⟩ ops e = true) (hu : arrT P t = some (n, el)) (hs : tsize P el = some s)
    (hx : ev e x = .pointer (some ⟨b, o, none⟩)) (hy : ev e y = .int k i) (h0 : 0 ≤ i) (h1 : i < n)
    (h : Wt P ops C K rest (put e dst (.pointer (some ⟨b, o + i.toNat * s, none⟩)))) :
    Wt P ops C K (⟨dst, .indexAddr t x y, ty, pos, af, g⟩ :: rest) e :=
  t_val hg (fun w _ => by simp [execOp, hx, hy, Instr.indexAt, asIntOf, run_under (arrT_u hu), Instr.sureAddr, h0, h1, run_size hs, add_none]) h
theorem t_len {t : TypeId} {x : Operand} {a : Option Addr} {n c : Nat} {el : TypeId} (hg : wants ⟨dst, .call ⟨.builtin .len, #[x], #[t]⟩, ty, pos, af, g⟩ ops e = true) (hu : elemT P t = some el) (hx : ev e x = .slice a n c)
    (h : Wt P ops C K rest (put e dst (.int .i64 n))) :
    Wt P ops C K (⟨dst, .call ⟨.builtin .len, #[x], #[t]⟩, ty, pos, af, g⟩ :: rest) e :=
  t_val hg (fun w _ => by simp [execOp, resolve, invoke, builtin, hx, Builtin.len_, run_under (elemT_u hu), goInt]) h
theorem t_cap {t : TypeId} {x : Operand} {a : Option Addr} {n c : Nat} {el : TypeId} (hg : wants ⟨dst, .call ⟨.builtin .cap, #[x], #[t]⟩, ty, pos, af, g⟩ ops e = true) (hu : elemT P t = some el) (hx : ev e x = .slice a n c)
    (h : Wt P ops C K rest (put e dst (.int .i64 c))) :
    Wt P ops C K (⟨dst, .call ⟨.builtin .cap, #[x], #[t]⟩, ty, pos, af, g⟩ :: rest) e :=
  t_val hg (fun w _ => by simp [execOp, resolve, invoke, builtin, hx, Builtin.cap_, run_under (elemT_u hu), goInt]) h
theorem t_min2 {t1 t2 : TypeId} {x y : Operand} {k : IntKind} {a b : Int} (hg : wants ⟨dst, .call ⟨.builtin .min, #[x, y], #[t1, t2]⟩, ty, pos, af, g⟩ ops e = true) (hx : ev e x = .int k a) (hy : ev e y = .int k b)
    (h : Wt P ops C K rest (put e dst (.int k (min a b)))) :
    Wt P ops C K (⟨dst, .call ⟨.builtin .min, #[x, y], #[t1, t2]⟩, ty, pos, af, g⟩ :: rest) e :=
  t_val hg (fun w _ => by
    have : (if b < a then b else a) = min a b := by rw [Int.min_def]; split <;> split <;> omega
    simp [execOp, resolve, invoke, builtin, hx, hy, Builtin.min_, Builtin.min2, this]) h
theorem t_max2 {t1 t2 : TypeId} {x y : Operand} {k : IntKind} {a b : Int} (hg : wants ⟨dst, .call ⟨.builtin .max, #[x, y], #[t1, t2]⟩, ty, pos, af, g⟩ ops e = true) (hx : ev e x = .int k a) (hy : ev e y = .int k b)
    (h : Wt P ops C K rest (put e dst (.int k (max a b)))) :
    Wt P ops C K (⟨dst, .call ⟨.builtin .max, #[x, y], #[t1, t2]⟩, ty, pos, af, g⟩ :: rest) e :=
  t_val hg (fun w _ => by
    have : (if a < b then b else a) = max a b := by rw [Int.max_def]; split <;> split <;> omega
    simp [execOp, resolve, invoke, builtin, hx, hy, Builtin.max_, Builtin.max2, this]) h
theorem t_extract {x : Operand} {i : Nat} {vs : Array Value} {v : Value} (hg : wants ⟨dst, .extract x i, ty, pos, af, g⟩ ops e = true) (hx : ev e x = .tuple vs) (hv : vs[i]? = some v) (h : Wt P ops C K rest (put e dst v)) :
    Wt P ops C K (⟨dst, .extract x i, ty, pos, af, g⟩ :: rest) e :=
  t_val hg (fun w _ => by simp [execOp, hx, Instr.extract, hv]) h
theorem t_slice_lo {t el : TypeId} {x y : Operand} {s : Nat} {a : Option Addr} {n c : Nat} {k : IntKind} {i : Int} (hg : wants ⟨dst, .slice t x (some y) none none, ty, pos, af, g⟩ ops e = true)
    (hu : elemT P t = some el) (hs : tsize P el = some s) (hx : ev e x = .slice a n c) (hy : ev e y = .int k i) (h0 : 0 ≤ i) (h1 : i ≤ n)
    (h : Wt P ops C K rest (put e dst (.slice (cutA a c i.toNat s) (n - i.toNat) (c - i.toNat)))) :
    Wt P ops C K (⟨dst, .slice t x (some y) none none, ty, pos, af, g⟩ :: rest) e :=
  t_val hg (fun w _ => by simp [execOp, Instr.sliceAt, Instr.slice, Instr.sliceBounds, run_under (elemT_u hu), hx, hy, sliceB h0 h1, run_size hs, cutA]) h
theorem t_slice_hi {t el : TypeId} {x y : Operand} {s : Nat} {a : Option Addr} {n c : Nat} {k : IntKind} {j : Int} (hg : wants ⟨dst, .slice t x none (some y) none, ty, pos, af, g⟩ ops e = true)
    (hu : elemT P t = some el) (hs : tsize P el = some s) (hx : ev e x = .slice a n c) (hy : ev e y = .int k j) (h0 : 0 ≤ j) (h1 : j ≤ c)
    (h : Wt P ops C K rest (put e dst (.slice a j.toNat c))) :
    Wt P ops C K (⟨dst, .slice t x none (some y) none, ty, pos, af, g⟩ :: rest) e :=
  t_val hg (fun w _ => by
    have : ∀ a : Option Addr, (if c = 0 then a else a.map (·.add (0 * s))) = a := by
      intro a; split
      · rfl
      · cases a with
        | none => rfl
        | some p => simp [Addr.add]
    simp [execOp, Instr.sliceAt, Instr.slice, Instr.sliceBounds, run_under (elemT_u hu), hx, hy, sliceB h0 h1, run_size hs]
    simpa using this a) h
theorem t_slice_lohi {t el : TypeId} {x y z : Operand} {s : Nat} {a : Option Addr} {n c : Nat} {k k2 : IntKind} {i j : Int} (hg : wants ⟨dst, .slice t x (some y) (some z) none, ty, pos, af, g⟩ ops e = true)
    (hu : elemT P t = some el) (hs : tsize P el = some s) (hx : ev e x = .slice a n c) (hy : ev e y = .int k i) (hz : ev e z = .int k2 j) (h0 : 0 ≤ i) (h1 : i ≤ j) (h2 : j ≤ c)
    (h : Wt P ops C K rest (put e dst (.slice (cutA a c i.toNat s) (j.toNat - i.toNat) (c - i.toNat)))) :
    Wt P ops C K (⟨dst, .slice t x (some y) (some z) none, ty, pos, af, g⟩ :: rest) e :=
  t_val hg (fun w _ => by
    have h3 : i ≤ (j.toNat : Nat) := by omega
    simp [execOp, Instr.sliceAt, Instr.slice, Instr.sliceBounds, run_under (elemT_u hu), hx, hy, hz, sliceB (show 0 ≤ j from by omega) h2, sliceB h0 h3, run_size hs, cutA]) h

theorem t_neqnil {t t2 : TypeId} {x : Operand} {a : Option Addr} {n c c2 : Nat} {el : TypeId} (hg : wants ⟨dst, .binOp .neq t x (.const (.slice none 0 c2)) t2, ty, pos, af, g⟩ ops e = true) (hu : elemT P t = some el) (hx : ev e x = .slice a n c)
    (h : Wt P ops C K rest (put e dst (.bool a.isSome))) : Wt P ops C K (⟨dst, .binOp .neq t x (.const (.slice none 0 c2)) t2, ty, pos, af, g⟩ :: rest) e :=
  t_val hg (fun w _ => by
    have hq : eqGuard .neq t x (.const (.slice none 0 c2)) (.slice a n c) (.slice none 0 c2) = pure () := rfl
    have he : ev e (.const (.slice none 0 c2)) = .slice none 0 c2 := rfl
    simp only [execOp, hx, he, hq, Sem.run_bind, Sem.run_pure, Result.andThen_ok, run_neqnil hu]) h
theorem t_eqlnil {t t2 : TypeId} {x : Operand} {a : Option Addr} {n c c2 : Nat} {el : TypeId} (hg : wants ⟨dst, .binOp .eql t x (.const (.slice none 0 c2)) t2, ty, pos, af, g⟩ ops e = true) (hu : elemT P t = some el) (hx : ev e x = .slice a n c)
    (h : Wt P ops C K rest (put e dst (.bool a.isNone))) : Wt P ops C K (⟨dst, .binOp .eql t x (.const (.slice none 0 c2)) t2, ty, pos, af, g⟩ :: rest) e :=
  t_val hg (fun w _ => by
    have hq : eqGuard .eql t x (.const (.slice none 0 c2)) (.slice a n c) (.slice none 0 c2) = pure () := rfl
    have he : ev e (.const (.slice none 0 c2)) = .slice none 0 c2 := rfl
    simp only [execOp, hx, he, hq, Sem.run_bind, Sem.run_pure, Result.andThen_ok, run_eqlnil hu]) h
theorem t_fieldAddr {t : TypeId} {x : Operand} {i b o off : Nat} (hg : wants ⟨dst, .fieldAddr t x i, ty, pos, af, g⟩ ops e = true) (hf : fieldO P t i = some off) (hx : ev e x = .pointer (some ⟨b, o, none⟩))
    (h : Wt P ops C K rest (put e dst (.pointer (some ⟨b, o + off, none⟩)))) :
    Wt P ops C K (⟨dst, .fieldAddr t x i, ty, pos, af, g⟩ :: rest) e := by
  unfold fieldO at hf
  split at hf
  · rename_i fs hu
    split at hf
    · rename_i f hf1
      split at hf
      · rename_i s hs
        injection hf with hf
        subst hf
        exact t_val hg (fun w _ => by simp [execOp, hx, Instr.fieldAt, run_under hu, hf1, Instr.sureAddr, fieldPlace, run_size hs, add_none]) h
      · cases hf
    · cases hf
  · cases hf
theorem t_ldr {t t2 : TypeId} {x : Operand} {b i j n : Nat} {f : Nat → Value} (k : Nat) (v : Value) (hg : wants ⟨dst, .load t x, ty, pos, af, g⟩ ops e = true) (ha : aggB P t = some false) (hx : ev e x = .pointer (some ⟨b, i, none⟩))
    (H : ∀ w, C w → Ctx w0 S w L) (hj : L[j]? = some (b, Bl t2 ((List.range n).map f))) (hi : i = k) (hk : k < n) (hv : f k = v)
    (h : Wt P ops C K rest (put e dst v)) : Wt P ops C K (⟨dst, .load t x, ty, pos, af, g⟩ :: rest) e := by
  subst hi hv
  exact t_ldb hg ha hx H hj (range_get hk) h
end
section
variable {t t2 : TypeId} {x y : Operand} {a b n : Nat} {s d : TypeId}
theorem t_and_u8 (hg : wants ⟨dst, .binOp .and t x y t2, ty, pos, af, g⟩ ops e = true) (hx : ev e x = .int .u8 a) (hy : ev e y = .int .u8 b) (ha : a < 256) (hb : b < 256)
    (h : Wt P ops C K rest (put e dst (.int .u8 ((a &&& b : Nat) : Int)))) : Wt P ops C K (⟨dst, .binOp .and t x y t2, ty, pos, af, g⟩ :: rest) e :=
  t_val hg (fun w _ => run_bin hx hy (by show (Op.intBits .and .u8 (a : Int) (b : Int)).run P w = _; rw [bits_and rfl (by exact ha) (by exact hb)]; rfl)) h
theorem t_or_u8 (hg : wants ⟨dst, .binOp .or t x y t2, ty, pos, af, g⟩ ops e = true) (hx : ev e x = .int .u8 a) (hy : ev e y = .int .u8 b) (ha : a < 256) (hb : b < 256)
    (h : Wt P ops C K rest (put e dst (.int .u8 ((a ||| b : Nat) : Int)))) : Wt P ops C K (⟨dst, .binOp .or t x y t2, ty, pos, af, g⟩ :: rest) e :=
  t_val hg (fun w _ => run_bin hx hy (by show (Op.intBits .or .u8 (a : Int) (b : Int)).run P w = _; rw [bits_or rfl (by exact ha) (by exact hb)]; rfl)) h
theorem t_xor_u8 (hg : wants ⟨dst, .binOp .xor t x y t2, ty, pos, af, g⟩ ops e = true) (hx : ev e x = .int .u8 a) (hy : ev e y = .int .u8 b) (ha : a < 256) (hb : b < 256)
    (h : Wt P ops C K rest (put e dst (.int .u8 ((a ^^^ b : Nat) : Int)))) : Wt P ops C K (⟨dst, .binOp .xor t x y t2, ty, pos, af, g⟩ :: rest) e :=
  t_val hg (fun w _ => run_bin hx hy (by show (Op.intBits .xor .u8 (a : Int) (b : Int)).run P w = _; rw [bits_xor rfl (by exact ha) (by exact hb)]; rfl)) h
theorem t_shr_u8 (hg : wants ⟨dst, .binOp .shr t x y t2, ty, pos, af, g⟩ ops e = true) {k2 : IntKind} (hx : ev e x = .int .u8 a) (hy : ev e y = .int k2 n) (hn : n ≤ 8)
    (h : Wt P ops C K rest (put e dst (.int .u8 ((a / 2 ^ n : Nat) : Int)))) : Wt P ops C K (⟨dst, .binOp .shr t x y t2, ty, pos, af, g⟩ :: rest) e :=
  t_val hg (fun w _ => run_bin hx hy (by show (Op.shift .shr .u8 (a : Int) k2 (n : Int)).run P w = _; rw [run_shr (by exact hn)]; rfl)) h
theorem t_shl_u8 (hg : wants ⟨dst, .binOp .shl t x y t2, ty, pos, af, g⟩ ops e = true) {k2 : IntKind} (hx : ev e x = .int .u8 a) (hy : ev e y = .int k2 n) (hn : n ≤ 8)
    (h : Wt P ops C K rest (put e dst (.int .u8 ((a * 2 ^ n % 256 : Nat) : Int)))) : Wt P ops C K (⟨dst, .binOp .shl t x y t2, ty, pos, af, g⟩ :: rest) e :=
  t_val hg (fun w _ => run_bin hx hy (by show (Op.shift .shl .u8 (a : Int) k2 (n : Int)).run P w = _; rw [run_shl rfl (by exact hn)]; rfl)) h
theorem t_addw_u8 (hg : wants ⟨dst, .binOp .add t x y t2, ty, pos, af, g⟩ ops e = true) (hx : ev e x = .int .u8 a) (hy : ev e y = .int .u8 b)
    (h : Wt P ops C K rest (put e dst (.int .u8 (((a + b) % 256 : Nat) : Int)))) : Wt P ops C K (⟨dst, .binOp .add t x y t2, ty, pos, af, g⟩ :: rest) e :=
  t_val hg (fun _ _ => run_bin hx hy (run_addw (k := .u8) rfl t a b _)) h
theorem t_mulw_u8 (hg : wants ⟨dst, .binOp .mul t x y t2, ty, pos, af, g⟩ ops e = true) (hx : ev e x = .int .u8 a) (hy : ev e y = .int .u8 b)
    (h : Wt P ops C K rest (put e dst (.int .u8 (((a * b) % 256 : Nat) : Int)))) : Wt P ops C K (⟨dst, .binOp .mul t x y t2, ty, pos, af, g⟩ :: rest) e :=
  t_val hg (fun _ _ => run_bin hx hy (run_mulw (k := .u8) rfl t a b _)) h
theorem t_com_u8 (hg : wants ⟨dst, .unOp .xor t x, ty, pos, af, g⟩ ops e = true) (hx : ev e x = .int .u8 a) (ha : a < 256)
    (h : Wt P ops C K rest (put e dst (.int .u8 ((255 ^^^ a : Nat) : Int)))) : Wt P ops C K (⟨dst, .unOp .xor t x, ty, pos, af, g⟩ :: rest) e :=
  t_val hg (fun _ _ => run_comw (k := .u8) rfl hx (by exact ha)) h
theorem t_convn_u8 (hg : wants ⟨dst, .convert s d x, ty, pos, af, g⟩ ops e = true) {k1 : IntKind} {ds : TypeDesc} (hx : ev e x = .int k1 a) (hs : P.underlying s = some ds) (hd : P.underlying d = some (.int .u8))
    (h : Wt P ops C K rest (put e dst (.int .u8 ((a % 256 : Nat) : Int)))) : Wt P ops C K (⟨dst, .convert s d x, ty, pos, af, g⟩ :: rest) e :=
  t_val hg (fun _ _ => run_convn (k := .u8) rfl hx hs hd) h
theorem t_and_u16 (hg : wants ⟨dst, .binOp .and t x y t2, ty, pos, af, g⟩ ops e = true) (hx : ev e x = .int .u16 a) (hy : ev e y = .int .u16 b) (ha : a < 65536) (hb : b < 65536)
    (h : Wt P ops C K rest (put e dst (.int .u16 ((a &&& b : Nat) : Int)))) : Wt P ops C K (⟨dst, .binOp .and t x y t2, ty, pos, af, g⟩ :: rest) e :=
  t_val hg (fun w _ => run_bin hx hy (by show (Op.intBits .and .u16 (a : Int) (b : Int)).run P w = _; rw [bits_and rfl (by exact ha) (by exact hb)]; rfl)) h
theorem t_or_u16 (hg : wants ⟨dst, .binOp .or t x y t2, ty, pos, af, g⟩ ops e = true) (hx : ev e x = .int .u16 a) (hy : ev e y = .int .u16 b) (ha : a < 65536) (hb : b < 65536)
    (h : Wt P ops C K rest (put e dst (.int .u16 ((a ||| b : Nat) : Int)))) : Wt P ops C K (⟨dst, .binOp .or t x y t2, ty, pos, af, g⟩ :: rest) e :=
  t_val hg (fun w _ => run_bin hx hy (by show (Op.intBits .or .u16 (a : Int) (b : Int)).run P w = _; rw [bits_or rfl (by exact ha) (by exact hb)]; rfl)) h
theorem t_xor_u16 (hg : wants ⟨dst, .binOp .xor t x y t2, ty, pos, af, g⟩ ops e = true) (hx : ev e x = .int .u16 a) (hy : ev e y = .int .u16 b) (ha : a < 65536) (hb : b < 65536)
    (h : Wt P ops C K rest (put e dst (.int .u16 ((a ^^^ b : Nat) : Int)))) : Wt P ops C K (⟨dst, .binOp .xor t x y t2, ty, pos, af, g⟩ :: rest) e :=
  t_val hg (fun w _ => run_bin hx hy (by show (Op.intBits .xor .u16 (a : Int) (b : Int)).run P w = _; rw [bits_xor rfl (by exact ha) (by exact hb)]; rfl)) h
theorem t_shr_u16 (hg : wants ⟨dst, .binOp .shr t x y t2, ty, pos, af, g⟩ ops e = true) {k2 : IntKind} (hx : ev e x = .int .u16 a) (hy : ev e y = .int k2 n) (hn : n ≤ 16)
    (h : Wt P ops C K rest (put e dst (.int .u16 ((a / 2 ^ n : Nat) : Int)))) : Wt P ops C K (⟨dst, .binOp .shr t x y t2, ty, pos, af, g⟩ :: rest) e :=
  t_val hg (fun w _ => run_bin hx hy (by show (Op.shift .shr .u16 (a : Int) k2 (n : Int)).run P w = _; rw [run_shr (by exact hn)]; rfl)) h
theorem t_shl_u16 (hg : wants ⟨dst, .binOp .shl t x y t2, ty, pos, af, g⟩ ops e = true) {k2 : IntKind} (hx : ev e x = .int .u16 a) (hy : ev e y = .int k2 n) (hn : n ≤ 16)
    (h : Wt P ops C K rest (put e dst (.int .u16 ((a * 2 ^ n % 65536 : Nat) : Int)))) : Wt P ops C K (⟨dst, .binOp .shl t x y t2, ty, pos, af, g⟩ :: rest) e :=
  t_val hg (fun w _ => run_bin hx hy (by show (Op.shift .shl .u16 (a : Int) k2 (n : Int)).run P w = _; rw [run_shl rfl (by exact hn)]; rfl)) h
theorem t_addw_u16 (hg : wants ⟨dst, .binOp .add t x y t2, ty, pos, af, g⟩ ops e = true) (hx : ev e x = .int .u16 a) (hy : ev e y = .int .u16 b)
    (h : Wt P ops C K rest (put e dst (.int .u16 (((a + b) % 65536 : Nat) : Int)))) : Wt P ops C K (⟨dst, .binOp .add t x y t2, ty, pos, af, g⟩ :: rest) e :=
  t_val hg (fun _ _ => run_bin hx hy (run_addw (k := .u16) rfl t a b _)) h
theorem t_mulw_u16 (hg : wants ⟨dst, .binOp .mul t x y t2, ty, pos, af, g⟩ ops e = true) (hx : ev e x = .int .u16 a) (hy : ev e y = .int .u16 b)
    (h : Wt P ops C K rest (put e dst (.int .u16 (((a * b) % 65536 : Nat) : Int)))) : Wt P ops C K (⟨dst, .binOp .mul t x y t2, ty, pos, af, g⟩ :: rest) e :=
  t_val hg (fun _ _ => run_bin hx hy (run_mulw (k := .u16) rfl t a b _)) h
theorem t_com_u16 (hg : wants ⟨dst, .unOp .xor t x, ty, pos, af, g⟩ ops e = true) (hx : ev e x = .int .u16 a) (ha : a < 65536)
    (h : Wt P ops C K rest (put e dst (.int .u16 ((65535 ^^^ a : Nat) : Int)))) : Wt P ops C K (⟨dst, .unOp .xor t x, ty, pos, af, g⟩ :: rest) e :=
  t_val hg (fun _ _ => run_comw (k := .u16) rfl hx (by exact ha)) h
theorem t_convn_u16 (hg : wants ⟨dst, .convert s d x, ty, pos, af, g⟩ ops e = true) {k1 : IntKind} {ds : TypeDesc} (hx : ev e x = .int k1 a) (hs : P.underlying s = some ds) (hd : P.underlying d = some (.int .u16))
    (h : Wt P ops C K rest (put e dst (.int .u16 ((a % 65536 : Nat) : Int)))) : Wt P ops C K (⟨dst, .convert s d x, ty, pos, af, g⟩ :: rest) e :=
  t_val hg (fun _ _ => run_convn (k := .u16) rfl hx hs hd) h
theorem t_and_u32 (hg : wants ⟨dst, .binOp .and t x y t2, ty, pos, af, g⟩ ops e = true) (hx : ev e x = .int .u32 a) (hy : ev e y = .int .u32 b) (ha : a < 4294967296) (hb : b < 4294967296)
    (h : Wt P ops C K rest (put e dst (.int .u32 ((a &&& b : Nat) : Int)))) : Wt P ops C K (⟨dst, .binOp .and t x y t2, ty, pos, af, g⟩ :: rest) e :=
  t_val hg (fun w _ => run_bin hx hy (by show (Op.intBits .and .u32 (a : Int) (b : Int)).run P w = _; rw [bits_and rfl (by exact ha) (by exact hb)]; rfl)) h
theorem t_or_u32 (hg : wants ⟨dst, .binOp .or t x y t2, ty, pos, af, g⟩ ops e = true) (hx : ev e x = .int .u32 a) (hy : ev e y = .int .u32 b) (ha : a < 4294967296) (hb : b < 4294967296)
    (h : Wt P ops C K rest (put e dst (.int .u32 ((a ||| b : Nat) : Int)))) : Wt P ops C K (⟨dst, .binOp .or t x y t2, ty, pos, af, g⟩ :: rest) e :=
  t_val hg (fun w _ => run_bin hx hy (by show (Op.intBits .or .u32 (a : Int) (b : Int)).run P w = _; rw [bits_or rfl (by exact ha) (by exact hb)]; rfl)) h
theorem t_xor_u32 (hg : wants ⟨dst, .binOp .xor t x y t2, ty, pos, af, g⟩ ops e = true) (hx : ev e x = .int .u32 a) (hy : ev e y = .int .u32 b) (ha : a < 4294967296) (hb : b < 4294967296)
    (h : Wt P ops C K rest (put e dst (.int .u32 ((a ^^^ b : Nat) : Int)))) : Wt P ops C K (⟨dst, .binOp .xor t x y t2, ty, pos, af, g⟩ :: rest) e :=
  t_val hg (fun w _ => run_bin hx hy (by show (Op.intBits .xor .u32 (a : Int) (b : Int)).run P w = _; rw [bits_xor rfl (by exact ha) (by exact hb)]; rfl)) h
theorem t_shr_u32 (hg : wants ⟨dst, .binOp .shr t x y t2, ty, pos, af, g⟩ ops e = true) {k2 : IntKind} (hx : ev e x = .int .u32 a) (hy : ev e y = .int k2 n) (hn : n ≤ 32)
    (h : Wt P ops C K rest (put e dst (.int .u32 ((a / 2 ^ n : Nat) : Int)))) : Wt P ops C K (⟨dst, .binOp .shr t x y t2, ty, pos, af, g⟩ :: rest) e :=
  t_val hg (fun w _ => run_bin hx hy (by show (Op.shift .shr .u32 (a : Int) k2 (n : Int)).run P w = _; rw [run_shr (by exact hn)]; rfl)) h
theorem t_shl_u32 (hg : wants ⟨dst, .binOp .shl t x y t2, ty, pos, af, g⟩ ops e = true) {k2 : IntKind} (hx : ev e x = .int .u32 a) (hy : ev e y = .int k2 n) (hn : n ≤ 32)
    (h : Wt P ops C K rest (put e dst (.int .u32 ((a * 2 ^ n % 4294967296 : Nat) : Int)))) : Wt P ops C K (⟨dst, .binOp .shl t x y t2, ty, pos, af, g⟩ :: rest) e :=
  t_val hg (fun w _ => run_bin hx hy (by show (Op.shift .shl .u32 (a : Int) k2 (n : Int)).run P w = _; rw [run_shl rfl (by exact hn)]; rfl)) h
theorem t_addw_u32 (hg : wants ⟨dst, .binOp .add t x y t2, ty, pos, af, g⟩ ops e = true) (hx : ev e x = .int .u32 a) (hy : ev e y = .int .u32 b)
    (h : Wt P ops C K rest (put e dst (.int .u32 (((a + b) % 4294967296 : Nat) : Int)))) : Wt P ops C K (⟨dst, .binOp .add t x y t2, ty, pos, af, g⟩ :: rest) e :=
  t_val hg (fun _ _ => run_bin hx hy (run_addw (k := .u32) rfl t a b _)) h
theorem t_mulw_u32 (hg : wants ⟨dst, .binOp .mul t x y t2, ty, pos, af, g⟩ ops e = true) (hx : ev e x = .int .u32 a) (hy : ev e y = .int .u32 b)
    (h : Wt P ops C K rest (put e dst (.int .u32 (((a * b) % 4294967296 : Nat) : Int)))) : Wt P ops C K (⟨dst, .binOp .mul t x y t2, ty, pos, af, g⟩ :: rest) e :=
  t_val hg (fun _ _ => run_bin hx hy (run_mulw (k := .u32) rfl t a b _)) h
theorem t_com_u32 (hg : wants ⟨dst, .unOp .xor t x, ty, pos, af, g⟩ ops e = true) (hx : ev e x = .int .u32 a) (ha : a < 4294967296)
    (h : Wt P ops C K rest (put e dst (.int .u32 ((4294967295 ^^^ a : Nat) : Int)))) : Wt P ops C K (⟨dst, .unOp .xor t x, ty, pos, af, g⟩ :: rest) e :=
  t_val hg (fun _ _ => run_comw (k := .u32) rfl hx (by exact ha)) h
theorem t_convn_u32 (hg : wants ⟨dst, .convert s d x, ty, pos, af, g⟩ ops e = true) {k1 : IntKind} {ds : TypeDesc} (hx : ev e x = .int k1 a) (hs : P.underlying s = some ds) (hd : P.underlying d = some (.int .u32))
    (h : Wt P ops C K rest (put e dst (.int .u32 ((a % 4294967296 : Nat) : Int)))) : Wt P ops C K (⟨dst, .convert s d x, ty, pos, af, g⟩ :: rest) e :=
  t_val hg (fun _ _ => run_convn (k := .u32) rfl hx hs hd) h
theorem t_and_u64 (hg : wants ⟨dst, .binOp .and t x y t2, ty, pos, af, g⟩ ops e = true) (hx : ev e x = .int .u64 a) (hy : ev e y = .int .u64 b) (ha : a < 18446744073709551616) (hb : b < 18446744073709551616)
    (h : Wt P ops C K rest (put e dst (.int .u64 ((a &&& b : Nat) : Int)))) : Wt P ops C K (⟨dst, .binOp .and t x y t2, ty, pos, af, g⟩ :: rest) e :=
  t_val hg (fun w _ => run_bin hx hy (by show (Op.intBits .and .u64 (a : Int) (b : Int)).run P w = _; rw [bits_and rfl (by exact ha) (by exact hb)]; rfl)) h
theorem t_or_u64 (hg : wants ⟨dst, .binOp .or t x y t2, ty, pos, af, g⟩ ops e = true) (hx : ev e x = .int .u64 a) (hy : ev e y = .int .u64 b) (ha : a < 18446744073709551616) (hb : b < 18446744073709551616)
    (h : Wt P ops C K rest (put e dst (.int .u64 ((a ||| b : Nat) : Int)))) : Wt P ops C K (⟨dst, .binOp .or t x y t2, ty, pos, af, g⟩ :: rest) e :=
  t_val hg (fun w _ => run_bin hx hy (by show (Op.intBits .or .u64 (a : Int) (b : Int)).run P w = _; rw [bits_or rfl (by exact ha) (by exact hb)]; rfl)) h
theorem t_xor_u64 (hg : wants ⟨dst, .binOp .xor t x y t2, ty, pos, af, g⟩ ops e = true) (hx : ev e x = .int .u64 a) (hy : ev e y = .int .u64 b) (ha : a < 18446744073709551616) (hb : b < 18446744073709551616)
    (h : Wt P ops C K rest (put e dst (.int .u64 ((a ^^^ b : Nat) : Int)))) : Wt P ops C K (⟨dst, .binOp .xor t x y t2, ty, pos, af, g⟩ :: rest) e :=
  t_val hg (fun w _ => run_bin hx hy (by show (Op.intBits .xor .u64 (a : Int) (b : Int)).run P w = _; rw [bits_xor rfl (by exact ha) (by exact hb)]; rfl)) h
theorem t_shr_u64 (hg : wants ⟨dst, .binOp .shr t x y t2, ty, pos, af, g⟩ ops e = true) {k2 : IntKind} (hx : ev e x = .int .u64 a) (hy : ev e y = .int k2 n) (hn : n ≤ 64)
    (h : Wt P ops C K rest (put e dst (.int .u64 ((a / 2 ^ n : Nat) : Int)))) : Wt P ops C K (⟨dst, .binOp .shr t x y t2, ty, pos, af, g⟩ :: rest) e :=
  t_val hg (fun w _ => run_bin hx hy (by show (Op.shift .shr .u64 (a : Int) k2 (n : Int)).run P w = _; rw [run_shr (by exact hn)]; rfl)) h
theorem t_shl_u64 (hg : wants ⟨dst, .binOp .shl t x y t2, ty, pos, af, g⟩ ops e = true) {k2 : IntKind} (hx : ev e x = .int .u64 a) (hy : ev e y = .int k2 n) (hn : n ≤ 64)
    (h : Wt P ops C K rest (put e dst (.int .u64 ((a * 2 ^ n % 18446744073709551616 : Nat) : Int)))) : Wt P ops C K (⟨dst, .binOp .shl t x y t2, ty, pos, af, g⟩ :: rest) e :=
  t_val hg (fun w _ => run_bin hx hy (by show (Op.shift .shl .u64 (a : Int) k2 (n : Int)).run P w = _; rw [run_shl rfl (by exact hn)]; rfl)) h
theorem t_addw_u64 (hg : wants ⟨dst, .binOp .add t x y t2, ty, pos, af, g⟩ ops e = true) (hx : ev e x = .int .u64 a) (hy : ev e y = .int .u64 b)
    (h : Wt P ops C K rest (put e dst (.int .u64 (((a + b) % 18446744073709551616 : Nat) : Int)))) : Wt P ops C K (⟨dst, .binOp .add t x y t2, ty, pos, af, g⟩ :: rest) e :=
  t_val hg (fun _ _ => run_bin hx hy (run_addw (k := .u64) rfl t a b _)) h
theorem t_mulw_u64 (hg : wants ⟨dst, .binOp .mul t x y t2, ty, pos, af, g⟩ ops e = true) (hx : ev e x = .int .u64 a) (hy : ev e y = .int .u64 b)
    (h : Wt P ops C K rest (put e dst (.int .u64 (((a * b) % 18446744073709551616 : Nat) : Int)))) : Wt P ops C K (⟨dst, .binOp .mul t x y t2, ty, pos, af, g⟩ :: rest) e :=
  t_val hg (fun _ _ => run_bin hx hy (run_mulw (k := .u64) rfl t a b _)) h
theorem t_com_u64 (hg : wants ⟨dst, .unOp .xor t x, ty, pos, af, g⟩ ops e = true) (hx : ev e x = .int .u64 a) (ha : a < 18446744073709551616)
    (h : Wt P ops C K rest (put e dst (.int .u64 ((18446744073709551615 ^^^ a : Nat) : Int)))) : Wt P ops C K (⟨dst, .unOp .xor t x, ty, pos, af, g⟩ :: rest) e :=
  t_val hg (fun _ _ => run_comw (k := .u64) rfl hx (by exact ha)) h
theorem t_convn_u64 (hg : wants ⟨dst, .convert s d x, ty, pos, af, g⟩ ops e = true) {k1 : IntKind} {ds : TypeDesc} (hx : ev e x = .int k1 a) (hs : P.underlying s = some ds) (hd : P.underlying d = some (.int .u64))
    (h : Wt P ops C K rest (put e dst (.int .u64 ((a % 18446744073709551616 : Nat) : Int)))) : Wt P ops C K (⟨dst, .convert s d x, ty, pos, af, g⟩ :: rest) e :=
  t_val hg (fun _ _ => run_convn (k := .u64) rfl hx hs hd) h
end
end
end Go.GV

/- Bytes, strings, arrays behind a pointer, copy. It holds for every program. -/
namespace Go.GV
open Go

def bv (b : UInt8) : Value := .int .u8 (b.toNat : Int)
def B8 (b : UInt8) : List Value := [bv b]
def str (l : List UInt8) : Value := .string ⟨l.toArray⟩
theorem bv_one (l : List UInt8) : ∀ v ∈ l.map bv, oneCell v = true := fun v hv => by
  obtain ⟨b, _, rfl⟩ := List.mem_map.1 hv; rfl
theorem str_inj {l m : List UInt8} : ((⟨l.toArray⟩ : ByteArray).toList == (⟨m.toArray⟩ : ByteArray).toList) = decide (l = m) := by
  rw [ByteArray.toList_eq, ByteArray.toList_eq]
  rw [Bool.eq_iff_iff]; simp

section
variable {P : Program} {r : Option Nat} {ops rest : List Oper} {Q : Exit → Env → World → Prop} {e : Env} {w w0 : World} {S : List Nat} {L : List (Nat × Obj)}
  {dst : Option Tmp} {ty : TypeId} {pos : String} {af : Array Edge} {g : Option (Nat × Bool)} {C : World → Prop} {K : Env → Prop}

/-! ### Slices of an array behind a pointer -/
theorem op_sliceA {t el : TypeId} {x : Operand} {b n : Nat} (hg : wants ⟨dst, .slice t x none none none, ty, pos, af, g⟩ ops e = true) (hu : arrT P t = some (n, el)) (hs : tsize P el = some 1)
    (hx : ev e x = .pointer (some ⟨b, 0, none⟩)) (h : Wops P r ops Q rest (put e dst (.slice (some ⟨b, 0, none⟩) n n)) w) : Wops P r ops Q (⟨dst, .slice t x none none none, ty, pos, af, g⟩ :: rest) e w :=
  op_val hg rfl (by simp [execOp, Instr.sliceAt, Instr.sliceBounds, run_under (arrT_u hu), hx, Instr.sureAddr, run_size hs, Addr.add]) h
theorem op_sliceA_lo {t el : TypeId} {x y : Operand} {b n : Nat} {k : IntKind} {i : Int} (hg : wants ⟨dst, .slice t x (some y) none none, ty, pos, af, g⟩ ops e = true) (hu : arrT P t = some (n, el)) (hs : tsize P el = some 1)
    (hx : ev e x = .pointer (some ⟨b, 0, none⟩)) (hy : ev e y = .int k i) (h0 : 0 ≤ i) (h1 : i < n) (h : Wops P r ops Q rest (put e dst (.slice (some ⟨b, i.toNat, none⟩) (n - i.toNat) (n - i.toNat))) w) :
    Wops P r ops Q (⟨dst, .slice t x (some y) none none, ty, pos, af, g⟩ :: rest) e w :=
  op_val hg rfl (by
    have hne : ¬ n = i.toNat := by omega
    have h2 : i ≤ (n : Int) := by omega
    simp [execOp, Instr.sliceAt, Instr.sliceBounds, run_under (arrT_u hu), hx, hy, Instr.sureAddr, run_size hs, sliceB h0 h2, hne, add_none]) h
theorem op_sliceA_hi {t el : TypeId} {x y : Operand} {b n : Nat} {k : IntKind} {j : Int} (hg : wants ⟨dst, .slice t x none (some y) none, ty, pos, af, g⟩ ops e = true) (hu : arrT P t = some (n, el)) (hs : tsize P el = some 1)
    (hx : ev e x = .pointer (some ⟨b, 0, none⟩)) (hy : ev e y = .int k j) (h0 : 0 ≤ j) (h1 : j ≤ n) (h : Wops P r ops Q rest (put e dst (.slice (some ⟨b, 0, none⟩) j.toNat n)) w) :
    Wops P r ops Q (⟨dst, .slice t x none (some y) none, ty, pos, af, g⟩ :: rest) e w :=
  op_val hg rfl (by simp [execOp, Instr.sliceAt, Instr.sliceBounds, run_under (arrT_u hu), hx, hy, Instr.sureAddr, run_size hs, sliceB h0 h1, Addr.add]) h

/-- copy(dst, src): dst lies in a block that is known. -/
theorem op_copy {t t2 el t3 : TypeId} {x y : Operand} {b o dn dc m c2 k : Nat} {a2 : Option Addr} {l : List Value} (xs : List Value) (hg : wants ⟨dst, .call ⟨.builtin .copy, #[x, y], #[t, t2]⟩, ty, pos, af, g⟩ ops e = true)
    (hu : elemT P t = some el) (hs : tsize P el = some 1) (hx : ev e x = .slice (some ⟨b, o, none⟩) dn dc) (hy : ev e y = .slice a2 m c2) (hm : xs.length = m) (h1 : ∀ v ∈ xs, oneCell v = true)
    (hc : ∀ j v, xs[j]? = some v → ∃ p, a2 = some p ∧ w.cell? (p.add j) = some v) (H : Ctx w0 S w L) (hk : L[k]? = some (b, Bl t3 l)) (hb : o + dn ≤ l.length)
    (h : ∀ w', Ctx w0 S w' (L.set k (b, Bl t3 (over l o (xs.take dn)))) → Wops P r ops Q rest (put e dst (.int .i64 ((Nat.min m dn : Nat) : Int))) w') :
    Wops P r ops Q (⟨dst, .call ⟨.builtin .copy, #[x, y], #[t, t2]⟩, ty, pos, af, g⟩ :: rest) e w := by
  have hlen : (xs.take dn).length = Nat.min m dn := by rw [List.length_take, hm]; exact Nat.min_comm _ _
  have hfc := run_firstCells (P := P) (w := w) (s := 1) (m := Nat.min m dn) (a := a2) (c := m) (k := c2) (l := xs.take dn) (by rw [hlen, Nat.mul_one]) (fun j v hv => by
    rw [List.getElem?_take] at hv
    split at hv
    · exact hc j v hv
    · cases hv)
  have hmn : Nat.min m dn ≤ dn := Nat.min_le_right _ _
  obtain ⟨w', hr, he, hb'⟩ := run_storeCells (P := P) (o := o) (xs.take dn) l w 0 (fun v hv => h1 v (List.mem_of_mem_take hv)) (H.get hk) (by omega)
  have hst : (storeCells ⟨b, o, none⟩ (xs.take dn)).run P w = .ok () w' := hr
  refine op_val (w' := w') (v := .int .i64 ((Nat.min m dn : Nat) : Int)) hg rfl ?_ (h _ (H.turn hk _ he hb'))
  simp only [execOp, resolve, invoke, builtin, hx, hy, List.map_toArray, List.map_cons, List.map_nil]
  simp [Builtin.copy_, run_under (elemT_u hu), run_size hs, Builtin.lenOf, hfc, hst, goInt]

/-! ### Strings -/
theorem run_back {src dst' el : TypeId} {a : Option Addr} {c : Nat} {l : List UInt8} (hs : elemT P src = some el) (he : P.underlying el = some (.int .u8)) (hd : P.underlying dst' = some .string) (R : Rd w a 1 B8 l) :
    (convert src dst' (.slice a l.length c)).run P w = .ok (str l) w := by
  cases a with
  | none =>
    have h0 : l = [] := by
      cases l with
      | nil => rfl
      | cons x l => obtain ⟨b, o, h⟩ := R.some' (by simp); cases h
    subst h0
    simp [convert, run_under (elemT_u hs), run_under hd, run_under he, Conv.bytesToString, str]
    rfl
  | some p =>
    refine run_convert_bytes_back w src dst' el p c l (elemT_u hs) he hd fun j hj => ?_
    have hx : l[j]? = some l[j] := List.getElem?_eq_getElem hj
    obtain ⟨b, o, hp⟩ := R.some' (by rintro rfl; simp at hj)
    injection hp with hp
    subst hp
    have := Rd.one (f := bv) R hx
    rw [add_none]
    simpa [adr, bv] using this
theorem op_back {s d el : TypeId} {x : Operand} {a : Option Addr} {c : Nat} {l : List UInt8} (hg : wants ⟨dst, .convert s d x, ty, pos, af, g⟩ ops e = true) (hs : elemT P s = some el) (he : P.underlying el = some (.int .u8)) (hd : P.underlying d = some .string)
    (hx : ev e x = .slice a l.length c) (R : Rd w a 1 B8 l) (h : Wops P r ops Q rest (put e dst (str l)) w) : Wops P r ops Q (⟨dst, .convert s d x, ty, pos, af, g⟩ :: rest) e w :=
  op_val hg rfl (by simp [execOp, hx, run_back hs he hd R]) h
theorem q_back {s d el : TypeId} {x : Operand} {a : Option Addr} {c : Nat} {l : List UInt8} (hg : wants ⟨dst, .convert s d x, ty, pos, af, g⟩ ops e = true) (hs : elemT P s = some el) (he : P.underlying el = some (.int .u8)) (hd : P.underlying d = some .string)
    (hx : ev e x = .slice a l.length c) (R : ∀ w, C w → Rd w a 1 B8 l) (h : Wq P ops C K rest (put e dst (str l))) : Wq P ops C K (⟨dst, .convert s d x, ty, pos, af, g⟩ :: rest) e :=
  q_val hg (fun w hw => by simp [execOp, hx, run_back hs he hd (R w hw)]) h
theorem t_back {s d el : TypeId} {x : Operand} {a : Option Addr} {c : Nat} {l : List UInt8} (hg : wants ⟨dst, .convert s d x, ty, pos, af, g⟩ ops e = true) (hs : elemT P s = some el) (he : P.underlying el = some (.int .u8)) (hd : P.underlying d = some .string)
    (hx : ev e x = .slice a l.length c) (R : ∀ w, C w → Rd w a 1 B8 l) (h : Wt P ops C K rest (put e dst (str l))) : Wt P ops C K (⟨dst, .convert s d x, ty, pos, af, g⟩ :: rest) e :=
  t_val hg (fun w hw => by simp [execOp, hx, run_back hs he hd (R w hw)]) h

/-- []byte(s): a new block. -/
theorem op_bytes {s d el : TypeId} {x : Operand} {l : List UInt8} (hg : wants ⟨dst, .convert s d x, ty, pos, af, g⟩ ops e = true) (hs : P.underlying s = some .string) (hd : elemT P d = some el) (he : P.underlying el = some (.int .u8))
    (hx : ev e x = str l) (h : ∀ b c w', w.heap.size ≤ b → l.length ≤ c → Ext [] w w' → Rd w' (some ⟨b, 0, none⟩) 1 B8 l → Wops P r ops Q rest (put e dst (.slice (some ⟨b, 0, none⟩) l.length c)) w') :
    Wops P r ops Q (⟨dst, .convert s d x, ty, pos, af, g⟩ :: rest) e w := by
  have hr := run_bytes_of_string (P := P) w s d el ⟨l.toArray⟩ hs (elemT_u hd) he
  have hsz : (⟨l.toArray⟩ : ByteArray).size = l.length := by simp [ByteArray.size]
  rw [hsz] at hr
  refine op_val hg rfl (by simp only [execOp, hx, str, Sem.run_bind, hr, Result.andThen_ok]; rfl) (h w.heap.size _ _ (Nat.le_refl _) (grownCap_ge _ _ _ _) ((Ext.drew [] w).trans (Ext.alloc [] _ _)) ?_)
  refine ⟨fun _ => ⟨_, _, rfl⟩, fun i x hx j v hv hj => ?_⟩
  have hj0 : j = 0 := by omega
  subst hj0
  simp only [B8, List.getElem?_cons_zero, Option.some.injEq] at hv
  subst hv
  show (World.alloc w.drew _).cell? ⟨w.heap.size, 0 + i * 1 + 0, none⟩ = _
  rw [show w.heap.size = w.drew.heap.size from rfl, World.cell?_alloc_mark]
  have hi : i < l.length := (List.getElem?_eq_some_iff.1 hx).1
  rw [List.getElem?_eq_getElem hi] at hx
  injection hx with hx
  simp only [bytesRow, Nat.zero_add, Nat.mul_one, Nat.add_zero]
  rw [Array.getElem?_append_left (by simpa using hi)]
  simp [hi, hx, bv]
theorem op_streq {t t2 : TypeId} {x y : Operand} {l m : List UInt8} (hg : wants ⟨dst, .binOp .eql t x y t2, ty, pos, af, g⟩ ops e = true) (hx : ev e x = str l) (hy : ev e y = str m)
    (h : Wops P r ops Q rest (put e dst (.bool (decide (l = m)))) w) : Wops P r ops Q (⟨dst, .binOp .eql t x y t2, ty, pos, af, g⟩ :: rest) e w :=
  op_val hg rfl (by
    have hq : eqGuard .eql t x y (.string ⟨l.toArray⟩) (.string ⟨m.toArray⟩) = pure () := rfl
    simp only [execOp, hx, hy, hq, Sem.run_bind, Sem.run_pure, Result.andThen_ok, binOp, str, Op.stringOp, str_inj]) h
theorem op_strne {t t2 : TypeId} {x y : Operand} {l m : List UInt8} (hg : wants ⟨dst, .binOp .neq t x y t2, ty, pos, af, g⟩ ops e = true) (hx : ev e x = str l) (hy : ev e y = str m)
    (h : Wops P r ops Q rest (put e dst (.bool (!decide (l = m)))) w) : Wops P r ops Q (⟨dst, .binOp .neq t x y t2, ty, pos, af, g⟩ :: rest) e w :=
  op_val hg rfl (by
    have hq : eqGuard .neq t x y (.string ⟨l.toArray⟩) (.string ⟨m.toArray⟩) = pure () := rfl
    simp only [execOp, hx, hy, hq, Sem.run_bind, Sem.run_pure, Result.andThen_ok, binOp, str, Op.stringOp, str_inj]) h
theorem q_streq {t t2 : TypeId} {x y : Operand} {l m : List UInt8} (hg : wants ⟨dst, .binOp .eql t x y t2, ty, pos, af, g⟩ ops e = true) (hx : ev e x = str l) (hy : ev e y = str m)
    (h : Wq P ops C K rest (put e dst (.bool (decide (l = m))))) : Wq P ops C K (⟨dst, .binOp .eql t x y t2, ty, pos, af, g⟩ :: rest) e :=
  q_val hg (fun w _ => by
    have hq : eqGuard .eql t x y (.string ⟨l.toArray⟩) (.string ⟨m.toArray⟩) = pure () := rfl
    simp only [execOp, hx, hy, hq, Sem.run_bind, Sem.run_pure, Result.andThen_ok, binOp, str, Op.stringOp, str_inj]) h
theorem op_slen {t : TypeId} {x : Operand} {l : List UInt8} (hg : wants ⟨dst, .call ⟨.builtin .len, #[x], #[t]⟩, ty, pos, af, g⟩ ops e = true) (hu : P.underlying t = some .string) (hx : ev e x = str l)
    (h : Wops P r ops Q rest (put e dst (.int .i64 l.length)) w) : Wops P r ops Q (⟨dst, .call ⟨.builtin .len, #[x], #[t]⟩, ty, pos, af, g⟩ :: rest) e w :=
  op_val hg rfl (by
    have hsz : (⟨l.toArray⟩ : ByteArray).size = l.length := by simp [ByteArray.size]
    simp [execOp, resolve, invoke, builtin, hx, str, Builtin.len_, run_under hu, goInt, hsz]) h

/-! ### Maps, more -/
theorem op_insert {t k el : TypeId} {kk : IntKind} {x y z : Operand} {b j : Nat} {o : Obj} {m : List (Int × Value)} {n : Int} (v : Value) (hg : wants ⟨dst, .insert t x y z, ty, pos, af, g⟩ ops e = true)
    (ht : mapT P t = some (k, el)) (hk : P.underlying k = some (.int kk)) (hx : ev e x = .map (some b)) (hy : ev e y = .int kk n) (hv : ev e z = v) (H : Ctx w0 S w L) (hl : L[j]? = some (b, o)) (hM : MapO kk m o)
    (h : ∀ o' w', MapO kk (mset m n v) o' → Ctx w0 S w' (L.set j (b, o')) → Wops P r ops Q rest (put e dst undef) w') : Wops P r ops Q (⟨dst, .insert t x y z, ty, pos, af, g⟩ :: rest) e w := by
  obtain ⟨o', w', hr, hM', H'⟩ := run_mapUpdate (n := n) v ht hk H hl hM
  exact op_unit hg rfl (by simp [execOp, hx, hy, hv, hr]) (h o' w' hM' H')

theorem ba_get (l : List UInt8) (n : Nat) : (⟨l.toArray⟩ : ByteArray)[n]? = l[n]? := by
  by_cases h : n < l.length
  · rw [List.getElem?_eq_getElem h, getElem?_pos (⟨l.toArray⟩ : ByteArray) n (by simpa [ByteArray.size] using h)]
    rfl
  · rw [List.getElem?_eq_none (by omega), getElem?_neg (⟨l.toArray⟩ : ByteArray) n (by simpa [ByteArray.size] using h)]
theorem op_sindex {t : TypeId} {x y : Operand} {k : IntKind} {i : Int} {l : List UInt8} (b : UInt8) (hg : wants ⟨dst, .index t x y, ty, pos, af, g⟩ ops e = true) (hu : P.underlying t = some .string) (hx : ev e x = str l) (hy : ev e y = .int k i)
    (h0 : 0 ≤ i) (hb : l[i.toNat]? = some b) (h : Wops P r ops Q rest (put e dst (bv b)) w) : Wops P r ops Q (⟨dst, .index t x y, ty, pos, af, g⟩ :: rest) e w :=
  op_val hg rfl (by simp [execOp, Instr.index, hx, hy, str, asIntOf, run_under hu, h0, ba_get, hb, bv]) h
/-- clear(m) -/
theorem op_clear {t k el : TypeId} {kk : IntKind} {x : Operand} {b j : Nat} {o : Obj} {m : List (Int × Value)} (hg : wants ⟨dst, .call ⟨.builtin .clear, #[x], #[t]⟩, ty, pos, af, g⟩ ops e = true) (ht : mapT P t = some (k, el)) (hx : ev e x = .map (some b))
    (H : Ctx w0 S w L) (hl : L[j]? = some (b, o)) (hM : MapO kk m o) (h : ∀ o' w', MapO kk [] o' → Ctx w0 S w' (L.set j (b, o')) → Wops P r ops Q rest (put e dst (.tuple #[])) w') :
    Wops P r ops Q (⟨dst, .call ⟨.builtin .clear, #[x], #[t]⟩, ty, pos, af, g⟩ :: rest) e w := by
  obtain ⟨es, clock, rfl, _⟩ := hM
  have hb := H.get hl
  have hgo : (getObj b).run P w = .ok (.map es clock) w := by simp [getObj, Sem.run, hb]
  have hso : (setObj b (.map #[] clock)).run P w = .ok () (w.putObj b (.map #[] clock)) := by simp [setObj, Sem.run, hb, World.putObj]
  refine op_val (w' := w.putObj b (.map #[] clock)) (v := .tuple #[]) hg rfl ?_ (h _ _ ⟨#[], clock, rfl, rfl, by simp, by simp⟩ (H.setB hl _))
  simp [execOp, resolve, invoke, builtin, hx, Builtin.clear_, run_under (mapT_u ht), hgo, hso]

theorem run_sliceA {t el : TypeId} {b n : Nat} (hu : arrT P t = some (n, el)) (hs : tsize P el = some 1) (w : World) : (Instr.sliceAt t (.pointer (some ⟨b, 0, none⟩)) none none none).run P w = .ok (.slice (some ⟨b, 0, none⟩) n n) w := by
  simp [Instr.sliceAt, Instr.sliceBounds, run_under (arrT_u hu), Instr.sureAddr, run_size hs, Addr.add]
theorem t_sliceA {t el : TypeId} {x : Operand} {b n : Nat} (hg : wants ⟨dst, .slice t x none none none, ty, pos, af, g⟩ ops e = true) (hu : arrT P t = some (n, el)) (hs : tsize P el = some 1)
    (hx : ev e x = .pointer (some ⟨b, 0, none⟩)) (h : Wt P ops C K rest (put e dst (.slice (some ⟨b, 0, none⟩) n n))) : Wt P ops C K (⟨dst, .slice t x none none none, ty, pos, af, g⟩ :: rest) e :=
  t_val hg (fun w _ => by simp [execOp, hx, run_sliceA hu hs]) h
theorem over_mid : ∀ (A B C M : List Value), B.length = M.length → over (A ++ (B ++ C)) A.length M = A ++ (M ++ C) := by
  intro A B C M
  induction M generalizing A B with
  | nil => intro h; have : B = [] := List.eq_nil_of_length_eq_zero (by simpa using h); subst this; simp [over]
  | cons v M ih =>
    intro h
    cases B with
    | nil => simp at h
    | cons x B =>
      have := ih (A ++ [v]) B (by simpa using h)
      simp only [over]
      rw [show (A ++ (x :: B ++ C)).set A.length v = A ++ [v] ++ (B ++ C) from by simp]
      rw [show A.length + 1 = (A ++ [v]).length from by simp, this]
      simp
end
end Go.GV

/- Closed facts on the translation of this seat: sizes, zero values, fields; printed by program. -/
namespace Go.Proofs.YtkmbcpgnafmnpaaDoor
open Go.GV
theorem ag_22 : aggB Tryd.prog 22 = some false := by kernel_rfl
theorem ag_23 : aggB Tryd.prog 23 = some false := by kernel_rfl
theorem ag_27 : aggB Tryd.prog 27 = some false := by kernel_rfl
theorem ag_3 : aggB Tryd.prog 3 = some false := by kernel_rfl
theorem ag_4 : aggB Tryd.prog 4 = some false := by kernel_rfl
theorem ag_5 : aggB Tryd.prog 5 = some false := by kernel_rfl
theorem ag_58 : aggB Tryd.prog 58 = some false := by kernel_rfl
theorem ag_84 : aggB Tryd.prog 84 = some false := by kernel_rfl
theorem ag_9 : aggB Tryd.prog 9 = some false := by kernel_rfl
theorem ag_92 : aggB Tryd.prog 92 = some true := by kernel_rfl
theorem ag_94 : aggB Tryd.prog 94 = some false := by kernel_rfl
theorem ag_97 : aggB Tryd.prog 97 = some false := by kernel_rfl
theorem ag_99 : aggB Tryd.prog 99 = some true := by kernel_rfl
theorem ar_112 : arrT Tryd.prog 112 = some (512, 5) := by kernel_rfl
theorem by_23 : tbytes Tryd.prog 23 = some 24 := by kernel_rfl
theorem by_5 : tbytes Tryd.prog 5 = some 1 := by kernel_rfl
theorem by_9 : tbytes Tryd.prog 9 = some 16 := by kernel_rfl
theorem by_99 : tbytes Tryd.prog 99 = some 40 := by kernel_rfl
theorem ca_102 : callable Tryd.prog 102 = true := by kernel_rfl
theorem ca_27 : callable Tryd.prog 27 = true := by kernel_rfl
theorem ca_48 : callable Tryd.prog 48 = true := by kernel_rfl
theorem ca_50 : callable Tryd.prog 50 = true := by kernel_rfl
theorem ca_51 : callable Tryd.prog 51 = true := by kernel_rfl
theorem ca_52 : callable Tryd.prog 52 = true := by kernel_rfl
theorem ca_53 : callable Tryd.prog 53 = true := by kernel_rfl
theorem ca_56 : callable Tryd.prog 56 = true := by kernel_rfl
theorem ca_57 : callable Tryd.prog 57 = true := by kernel_rfl
theorem ca_58 : callable Tryd.prog 58 = true := by kernel_rfl
theorem ca_59 : callable Tryd.prog 59 = true := by kernel_rfl
theorem ca_60 : callable Tryd.prog 60 = true := by kernel_rfl
theorem ca_61 : callable Tryd.prog 61 = true := by kernel_rfl
theorem ca_62 : callable Tryd.prog 62 = true := by kernel_rfl
theorem ca_63 : callable Tryd.prog 63 = true := by kernel_rfl
theorem ca_70 : callable Tryd.prog 70 = true := by kernel_rfl
theorem ca_71 : callable Tryd.prog 71 = true := by kernel_rfl
theorem ca_72 : callable Tryd.prog 72 = true := by kernel_rfl
theorem ca_73 : callable Tryd.prog 73 = true := by kernel_rfl
theorem ca_74 : callable Tryd.prog 74 = true := by kernel_rfl
theorem ca_75 : callable Tryd.prog 75 = true := by kernel_rfl
theorem ca_76 : callable Tryd.prog 76 = true := by kernel_rfl
theorem ca_77 : callable Tryd.prog 77 = true := by kernel_rfl
theorem ca_78 : callable Tryd.prog 78 = true := by kernel_rfl
theorem ca_79 : callable Tryd.prog 79 = true := by kernel_rfl
theorem ca_80 : callable Tryd.prog 80 = true := by kernel_rfl
theorem ca_88 : callable Tryd.prog 88 = true := by kernel_rfl
theorem ca_89 : callable Tryd.prog 89 = true := by kernel_rfl
theorem ca_90 : callable Tryd.prog 90 = true := by kernel_rfl
theorem ca_91 : callable Tryd.prog 91 = true := by kernel_rfl
theorem ca_92 : callable Tryd.prog 92 = true := by kernel_rfl
theorem ca_96 : callable Tryd.prog 96 = true := by kernel_rfl
theorem ca_98 : callable Tryd.prog 98 = true := by kernel_rfl
theorem el_23 : elemT Tryd.prog 23 = some 5 := by kernel_rfl
theorem el_45 : elemT Tryd.prog 45 = some 3 := by kernel_rfl
theorem el_58 : elemT Tryd.prog 58 = some 23 := by kernel_rfl
theorem el_94 : elemT Tryd.prog 94 = some 99 := by kernel_rfl
theorem el_97 : elemT Tryd.prog 97 = some 9 := by kernel_rfl
theorem fo_86_0 : fieldO Tryd.prog 86 0 = some 0 := by kernel_rfl
theorem fo_86_1 : fieldO Tryd.prog 86 1 = some 1 := by kernel_rfl
theorem fo_86_2 : fieldO Tryd.prog 86 2 = some 2 := by kernel_rfl
theorem fo_86_3 : fieldO Tryd.prog 86 3 = some 3 := by kernel_rfl
theorem fo_92_0 : fieldO Tryd.prog 92 0 = some 0 := by kernel_rfl
theorem fo_96_0 : fieldO Tryd.prog 96 0 = some 0 := by kernel_rfl
theorem fo_96_1 : fieldO Tryd.prog 96 1 = some 1 := by kernel_rfl
theorem fo_96_2 : fieldO Tryd.prog 96 2 = some 2 := by kernel_rfl
theorem fo_99_0 : fieldO Tryd.prog 99 0 = some 0 := by kernel_rfl
theorem fo_99_1 : fieldO Tryd.prog 99 1 = some 1 := by kernel_rfl
theorem mixed : Tryd.prog.follows .mixedOrders = true := by kernel_rfl
theorem mt_130 : mapT Tryd.prog 130 = some (3, 3) := by kernel_rfl
theorem mt_84 : mapT Tryd.prog 84 = some (3, 58) := by kernel_rfl
theorem pl_86 : placesB Tryd.prog 86 = some [(0, 1), (1, 1), (2, 1), (3, 1)] := by kernel_rfl
theorem pl_92 : placesB Tryd.prog 92 = some [(0, 1), (1, 1)] := by kernel_rfl
theorem pl_96 : placesB Tryd.prog 96 = some [(0, 1), (1, 1), (2, 1)] := by kernel_rfl
theorem pl_99 : placesB Tryd.prog 99 = some [(0, 1), (1, 1)] := by kernel_rfl
theorem sz_23 : tsize Tryd.prog 23 = some 1 := by kernel_rfl
theorem sz_3 : tsize Tryd.prog 3 = some 1 := by kernel_rfl
theorem sz_4 : tsize Tryd.prog 4 = some 1 := by kernel_rfl
theorem sz_5 : tsize Tryd.prog 5 = some 1 := by kernel_rfl
theorem sz_9 : tsize Tryd.prog 9 = some 1 := by kernel_rfl
theorem sz_92 : tsize Tryd.prog 92 = some 2 := by kernel_rfl
theorem sz_94 : tsize Tryd.prog 94 = some 1 := by kernel_rfl
theorem sz_97 : tsize Tryd.prog 97 = some 1 := by kernel_rfl
theorem sz_99 : tsize Tryd.prog 99 = some 2 := by kernel_rfl
theorem un_22 : Tryd.prog.underlying 22 = some (.int .u64) := by kernel_rfl
theorem un_25 : Tryd.prog.underlying 25 = some (.int .u32) := by kernel_rfl
theorem un_27 : Tryd.prog.underlying 27 = some (.pointer 86) := by kernel_rfl
theorem un_3 : Tryd.prog.underlying 3 = some (.int .i64) := by kernel_rfl
theorem un_34 : Tryd.prog.underlying 34 = some (.int .u64) := by kernel_rfl
theorem un_5 : Tryd.prog.underlying 5 = some (.int .u8) := by kernel_rfl
theorem un_9 : Tryd.prog.underlying 9 = some (.string) := by kernel_rfl
theorem zc_112 : zcells Tryd.prog 112 = some (List.replicate 512 (.int .u8 0 : Value)) := by kernel_rfl
theorem zc_23 : zcells Tryd.prog 23 = some ([.slice none 0 0]) := by kernel_rfl
theorem zc_5 : zcells Tryd.prog 5 = some ([.int .u8 0]) := by kernel_rfl
theorem zc_86 : zcells Tryd.prog 86 = some ([.slice none 0 0, .map none, .int .i64 0, .bool false]) := by kernel_rfl
theorem zc_9 : zcells Tryd.prog 9 = some ([.string ByteArray.empty]) := by kernel_rfl
theorem zc_92 : zcells Tryd.prog 92 = some ([.int .u64 0, .slice none 0 0]) := by kernel_rfl
theorem zc_96 : zcells Tryd.prog 96 = some ([.slice none 0 0, .int .i64 0, .bool false]) := by kernel_rfl
theorem zc_99 : zcells Tryd.prog 99 = some ([.string ByteArray.empty, .slice none 0 0]) := by kernel_rfl
theorem zv_3 : (Tryd.prog.info? 3).bind (·.zero) = some (.int .i64 0) := by kernel_rfl
theorem zv_58 : (Tryd.prog.info? 58).bind (·.zero) = some (.slice none 0 0) := by kernel_rfl
end Go.Proofs.YtkmbcpgnafmnpaaDoor

/- The sums of crc and of its reference. -/
namespace Go.Proofs.YtkmbcpgnafmnpaaDoor
open Go.GV
attribute [local irreducible] Wops W Wq



theorem lt_byte (b : UInt8) : b.toNat < 256 := b.toNat_lt
theorem lt_word (w : BitVec 32) : w.toNat < 4294967296 := w.isLt
theorem com_w (s : BitVec 32) : 4294967295 ^^^ s.toNat = (~~~s).toNat := by
  rw [← BitVec.allOnes_xor, BitVec.toNat_xor, BitVec.toNat_allOnes]
theorem byte_nat (c : UInt8) : (byteW c).toNat = c.toNat := by
  have := lt_byte c
  unfold byteW
  rw [BitVec.toNat_ofNat, Nat.mod_eq_of_lt (by omega)]
theorem xor_b (w : BitVec 32) (c : UInt8) : w.toNat ^^^ c.toNat = (w ^^^ byteW c).toNat := by
  rw [BitVec.toNat_xor, byte_nat]
theorem lsb_nat (w : BitVec 32) : w.getLsbD 0 = decide (w.toNat % 2 = 1) := by
  rw [BitVec.getLsbD, Nat.testBit_zero]
theorem step_nat (w : BitVec 32) : (w.toNat / 2) ^^^ (if w.toNat % 2 = 1 then 3988292384 else 0) = (stepW w).toNat := by
  unfold stepW
  rw [BitVec.toNat_xor, BitVec.toNat_ushiftRight, Nat.shiftRight_eq_div_pow, lsb_nat]
  by_cases h : w.toNat % 2 = 1
  · simp [h, polyW]
  · simp [h]
theorem step_nat2 (w : BitVec 32) : (w.toNat / 2 ^ 1) ^^^ ((3988292384 * (w.toNat &&& 1)) % 4294967296) = (stepW w).toNat := by
  rw [← step_nat, Nat.and_one_is_mod]
  by_cases h : w.toNat % 2 = 1
  · simp [h]
  · have h0 : w.toNat % 2 = 0 := by omega
    simp [h0]
theorem steps_succ (n : Nat) (w : BitVec 32) : stepW (stepsW n w) = stepsW (n + 1) w := by
  rw [← steps_add n 1]; rfl

theorem more_ok (s : BitVec 32) (a : Option Addr) (c : Nat) (l : List UInt8) (w : World) (R : Rd w a 1 B8 l) (hm : l.length ≤ 9223372036854775807) :
    Ret Tryd.prog 88 #[.int .u32 (s.toNat : Int), .slice a l.length c] w fun v w' => v = .int .u32 ((moreW s l).toNat : Int) ∧ w = w' := by
  have hs := lt_word s
  refine ret_of_W (fn := Tryd.f88) Tryd.func88 rfl [.int .u32 (s.toNat : Int), .slice a l.length c] rfl (by kernel_rfl) ?_
  refine W_rseq ?_
  refine op_assign rfl (.int _ _) rfl ?_
  refine op_nil (at_then ?_)
  refine W_rseq ?_
  refine op_move rfl (.int _ _) rfl ?_
  refine op_com_u32 rfl rfl (by omega) ?_
  rw [com_w]
  refine op_assign rfl (.int _ _) rfl ?_
  refine op_nil (at_then ?_)
  refine W_seq ?_
  refine W_rseq ?_
  refine op_move rfl (.slice _ _ _) rfl ?_
  refine op_len rfl el_23 rfl ?_
  refine op_move rfl (.int _ _) rfl ?_
  refine op_nil (at_then ?_)
  refine W_block ?_
  refine W_loop 1073737888 (α := Nat) (fun k => [(12, .int .i64 k), (5, .int .u32 (((l.take k).foldl takeW (~~~s)).toNat : Int))]) (fun k w' => k ≤ l.length ∧ w = w') (fun k => l.length - k) 0 rfl ?_ ?_ ?_
  · exact ⟨rfl, rfl, trivial⟩
  · exact ⟨Nat.zero_le _, rfl⟩
  · rintro k j _ ⟨hk, rfl⟩
    refine W_rseq ?_
    refine op_lss rfl rfl rfl ?_
    refine op_nil (at_then ?_)
    refine W_seq ?_
    refine W_cond _ rfl ?_ ?_
    · intro h1
      replace h1 := dec_t h1
      obtain ⟨x, hx⟩ := get_some (l := l) (i := k) (by omega)
      have hxb := lt_byte x
      have hw := lt_word ((l.take k).foldl takeW (~~~s))
      generalize hv : (l.take k).foldl takeW (~~~s) = v at hw
      refine W_skip (at_then ?_)
      refine W_seq ?_
      refine W_block ?_
      refine W_rseq ?_
      first | refine op_indexRd R rfl el_23 sz_5 rfl rfl (by omega) (by omega) (by first | rfl | omega) ?_ | refine op_indexAddr rfl el_23 sz_5 rfl rfl (by omega) (by omega) ?_
      first | refine op_ldb rfl ag_5 rfl H (by first | exact at0 | exact at1 | exact at2 | exact at3 | exact at4 | exact at5 | exact at6 | exact at7 | exact at8 | exact at9) rfl ?_ | refine op_ld rfl ag_5 rfl (R.one (f := bv) hx) ?_
      refine op_assign rfl (.int _ _) rfl ?_
      refine op_nil (at_then ?_)
      refine W_rseq ?_
      refine op_move rfl (.int _ _) rfl ?_
      refine op_move rfl (.int _ _) rfl ?_
      refine op_conv_u32 rfl rfl un_5 un_25 (by omega) (by omega) ?_
      refine op_xor_u32 rfl rfl rfl (by omega) (by omega) ?_
      rw [xor_b]
      refine op_assign rfl (.int _ _) rfl ?_
      refine op_nil (at_then ?_)
      refine W_rseq ?_
      refine op_move rfl (.int _ _) rfl ?_
      refine op_nil (at_then ?_)
      refine W_block ?_
      refine W_loop 535822368 (α := Nat) (fun i => [(20, .int .i64 i), (5, .int .u32 ((stepsW i (v ^^^ byteW x)).toNat : Int))]) (fun i w' => i ≤ 8 ∧ w = w') (fun i => 8 - i) 0 rfl ?_ ?_ ?_
      · exact ⟨rfl, rfl, trivial⟩
      · exact ⟨Nat.zero_le _, rfl⟩
      · rintro i j _ ⟨hi, rfl⟩
        have hu := lt_word (stepsW i (v ^^^ byteW x))
        generalize hz : stepsW i (v ^^^ byteW x) = z at hu
        refine W_rseq ?_
        refine op_lss rfl rfl rfl ?_
        refine op_nil (at_then ?_)
        refine W_seq ?_
        refine W_cond _ rfl ?_ ?_
        · intro h2
          replace h2 := dec_t h2
          refine W_skip (at_then ?_)
          refine W_seq ?_
          refine W_block ?_
          refine W_region ?_
          refine op_move rfl (.int _ _) rfl ?_
          refine op_shr_u32 (n := 1) rfl rfl rfl (by omega) ?_
          refine op_move rfl (.int _ _) rfl ?_
          refine op_and_u32 (b := 1) rfl rfl rfl (by omega) (by omega) ?_
          refine op_mulw_u32 (a := 3988292384) rfl rfl rfl ?_
          refine op_xor_u32 rfl rfl rfl (by omega) (by omega) ?_
          rw [step_nat2]
          refine op_assign rfl (.int _ _) rfl ?_
          refine op_nil (at_block (at_then ?_))
          refine W_region ?_
          refine op_add_i64 rfl rfl rfl (by omega) (by omega) ?_
          refine op_move rfl (.int _ _) rfl ?_
          refine op_nil (at_then ?_)
          exact ⟨i + 1, rfl, ⟨rfl, by rw [← steps_succ, hz]; rfl, trivial⟩, ⟨by omega, rfl⟩, by omega⟩
        · intro h2
          replace h2 := dec_f h2
          have hi8 : i = 8 := by omega
          subst hi8
          refine W_exit (exit_then (exit_then (exit_here (at_block (at_then ?_)))))
          refine W_region ?_
          refine op_add_i64 rfl rfl rfl (by omega) (by omega) ?_
          refine op_move rfl (.int _ _) rfl ?_
          refine op_nil (at_then ?_)
          refine ⟨k + 1, rfl, ⟨rfl, ?_, trivial⟩, ⟨by omega, rfl⟩, by omega⟩
          rw [take_snoc hx, List.foldl_append, hv, List.foldl_cons, List.foldl_nil, takeW, hz]; rfl
    · intro h1
      replace h1 := dec_f h1
      have hke : k = l.length := by omega
      subst hke
      rw [List.take_length]
      have hw := lt_word (l.foldl takeW (~~~s))
      refine W_exit (exit_then (exit_then (exit_here (at_then ?_))))
      refine W_rseq ?_
      refine op_move rfl (.int _ _) rfl ?_
      refine op_com_u32 rfl rfl (by omega) ?_
      rw [com_w]
      refine op_assign rfl (.int _ _) rfl ?_
      refine op_nil (at_then ?_)
      refine W_ret (leave1 (v := (.int _ _)) rfl rfl rfl ?_)
      exact ⟨rfl, rfl⟩

theorem sum_ok (a : Option Addr) (c n : Nat) (l : List UInt8) (w : World) (R : Rd w a 1 B8 l) (hn : l.length = n) (hm : n ≤ 9223372036854775807) :
    Ret Tryd.prog 70 #[.slice a n c] w fun v w' => v = .int .u32 ((sumW l).toNat : Int) ∧ w = w' := by
  subst hn
  refine ret_of_W (fn := Tryd.f70) Tryd.func70 rfl [.slice a l.length c] rfl (by kernel_rfl) ?_
  refine W_rseq ?_
  refine op_assign rfl (.int _ _) rfl ?_
  refine op_nil (at_then ?_)
  refine W_rseq ?_
  refine op_move rfl (.slice _ _ _) rfl ?_
  refine op_call rfl ca_88 (more_ok 0#32 a c l w R hm) rfl ?_
  rintro v w ⟨rfl, rfl⟩
  refine op_assign rfl (.int _ _) rfl ?_
  refine op_nil (at_then ?_)
  refine W_ret (leave1 (v := (.int _ _)) rfl rfl rfl ?_)
  exact ⟨rfl, rfl⟩

/-- The number that bytes are, the least first. -/
def wantN : List UInt8 → Nat
  | [] => 0
  | c :: l => c.toNat + 256 * wantN l
theorem want_app : ∀ (l m : List UInt8), wantN (l ++ m) = wantN l + 256 ^ l.length * wantN m
  | [], m => by simp [wantN]
  | c :: l, m => by
    have h := want_app l m
    simp only [List.cons_append, wantN, List.length_cons, h, Nat.pow_succ]
    rw [Nat.mul_add, ← Nat.mul_assoc, Nat.mul_comm (256 ^ l.length) 256]; omega
theorem want_lt : ∀ l : List UInt8, wantN l < 256 ^ l.length
  | [] => by simp [wantN]
  | c :: l => by
    have h := want_lt l
    have hc := lt_byte c
    simp only [wantN, List.length_cons, Nat.pow_succ]; omega
theorem want_step {l : List UInt8} {k : Nat} {c : UInt8} (hk : l[k]? = some c) (h4 : k < 4) : wantN (l.take k) ||| (c.toNat * 2 ^ (8 * k) % 4294967296) = wantN (l.take (k + 1)) := by
  have hl := get_lt hk
  have hlen : (l.take k).length = k := by rw [List.length_take]; omega
  have h1 := want_lt (l.take k)
  rw [hlen] at h1
  have h2 : (256 : Nat) ^ k = 2 ^ (8 * k) := by rw [Nat.pow_mul]
  have hc := lt_byte c
  have h3 : c.toNat * 2 ^ (8 * k) < 4294967296 := by
    have : k = 0 ∨ k = 1 ∨ k = 2 ∨ k = 3 := by omega
    rcases this with h | h | h | h <;> subst h <;> omega
  rw [take_snoc hk, want_app, hlen, Nat.mod_eq_of_lt h3, Nat.or_comm, Nat.mul_comm c.toNat, ← Nat.two_pow_add_eq_or_of_lt (by rw [← h2]; exact h1), h2]
  simp only [wantN, Nat.mul_zero, Nat.add_zero]; omega

def rightW (b : List UInt8) : Bool := decide (4 ≤ b.length) && decide ((sumW (b.take (b.length - 4))).toNat = wantN (b.drop (b.length - 4)))

theorem right_ok (a : Option Addr) (c : Nat) (l : List UInt8) (w : World) (R : Rd w a 1 B8 l) (hm : l.length ≤ 9223372036854775807) (hc : l.length ≤ c) :
    Ret Tryd.prog 89 #[.slice a l.length c] w fun v w' => v = .bool (rightW l) ∧ w = w' := by
  refine ret_of_W (fn := Tryd.f89) Tryd.func89 rfl [.slice a l.length c] rfl (by kernel_rfl) ?_
  refine W_rseq ?_
  refine op_assign rfl (.bool _) rfl ?_
  refine op_nil (at_then ?_)
  refine W_rseq ?_
  refine op_move rfl (.slice _ _ _) rfl ?_
  refine op_len rfl el_23 rfl ?_
  refine op_sub_i64 rfl rfl rfl (by omega) (by omega) ?_
  refine op_assign rfl (.int _ _) rfl ?_
  refine op_nil (at_then ?_)
  refine W_seq ?_
  refine W_rseq ?_
  refine op_move rfl (.int _ _) rfl ?_
  refine op_lss rfl rfl rfl ?_
  refine op_nil (at_then ?_)
  refine W_cond _ rfl ?_ ?_
  · intro h1
    replace h1 := dec_t h1
    refine W_rseq ?_
    refine op_assign rfl (.bool _) rfl ?_
    refine op_nil (at_then ?_)
    refine W_ret (ret_then (leave1 (v := (.bool _)) rfl rfl rfl ?_))
    exact ⟨congrArg Value.bool (by rw [rightW, decide_eq_false (by omega)]; rfl), rfl⟩
  · intro h1
    replace h1 := dec_f h1
    obtain ⟨m, hm4⟩ : ∃ m, l.length = m + 4 := ⟨l.length - 4, by omega⟩
    rw [show (l.length : Int) - 4 = (m : Int) by omega]
    have R' := R.cut m c hc
    have hd : (l.drop m).length = 4 := by rw [List.length_drop]; omega
    refine W_skip (at_then ?_)
    refine W_rseq ?_
    refine op_assign rfl (.int _ _) rfl ?_
    refine op_nil (at_then ?_)
    refine W_seq ?_
    refine W_rseq ?_
    refine op_move rfl (.slice _ _ _) rfl ?_
    refine op_move rfl (.int _ _) rfl ?_
    refine op_slice_lo rfl el_23 sz_5 rfl rfl (by omega) (by omega) ?_
    refine op_len rfl el_23 rfl ?_
    refine op_move rfl (.int _ _) rfl ?_
    refine op_nil (at_then ?_)
    refine W_block ?_
    rw [show l.length - ((m : Int)).toNat = 4 by omega]
    refine W_loop 536805488 (α := Nat) (fun k => [(16, .int .i64 k), (4, .int .u32 (wantN ((l.drop m).take k) : Int))]) (fun k w' => k ≤ 4 ∧ w = w') (fun k => 4 - k) 0 rfl ?_ ?_ ?_
    · exact ⟨rfl, rfl, trivial⟩
    · exact ⟨Nat.zero_le _, rfl⟩
    · rintro k j _ ⟨hk, rfl⟩
      refine W_rseq ?_
      refine op_lss rfl rfl rfl ?_
      refine op_nil (at_then ?_)
      refine W_seq ?_
      refine W_cond _ rfl ?_ ?_
      · intro h2
        replace h2 := dec_t h2
        obtain ⟨x, hx⟩ := get_some (l := l.drop m) (i := k) (by omega)
        have hxb := lt_byte x
        have hw : wantN ((l.drop m).take k) < 4294967296 := by
          have h := want_lt ((l.drop m).take k)
          have h2 : 256 ^ ((l.drop m).take k).length ≤ 256 ^ 4 := Nat.pow_le_pow_right (by omega) (by rw [List.length_take]; omega)
          have h3 : (256 : Nat) ^ 4 = 4294967296 := by decide
          omega
        refine W_skip (at_then ?_)
        refine W_seq ?_
        refine W_block ?_
        refine W_rseq ?_
        refine op_move rfl (.int _ _) rfl ?_
        first | refine op_indexRd R' rfl el_23 sz_5 rfl rfl (by omega) (by omega) (by first | rfl | omega) ?_ | refine op_indexAddr rfl el_23 sz_5 rfl rfl (by omega) (by omega) ?_
        first | refine op_ldb rfl ag_5 rfl H (by first | exact at0 | exact at1 | exact at2 | exact at3 | exact at4 | exact at5 | exact at6 | exact at7 | exact at8 | exact at9) rfl ?_ | refine op_ld rfl ag_5 rfl (R'.one (f := bv) hx) ?_
        refine op_assign rfl (.int _ _) rfl ?_
        refine op_assign rfl (.int _ _) rfl ?_
        refine op_nil (at_then ?_)
        refine W_region ?_
        refine op_move rfl (.int _ _) rfl ?_
        refine op_move rfl (.int _ _) rfl ?_
        refine op_conv_u32 rfl rfl un_5 un_25 (by omega) (by omega) ?_
        refine op_move rfl (.int _ _) rfl ?_
        refine op_mul_i64 rfl rfl rfl (by omega) (by omega) ?_
        rw [show (8 : Int) * (k : Int) = ((8 * k : Nat) : Int) from by simp]
        refine op_shl_u32 rfl rfl rfl (by omega) ?_
        refine op_or_u32 rfl rfl rfl (by omega) (by omega) ?_
        rw [want_step hx (by omega)]
        refine op_assign rfl (.int _ _) rfl ?_
        refine op_nil (at_block (at_then ?_))
        refine W_region ?_
        refine op_add_i64 rfl rfl rfl (by omega) (by omega) ?_
        refine op_move rfl (.int _ _) rfl ?_
        refine op_nil (at_then ?_)
        exact ⟨k + 1, rfl, ⟨rfl, rfl, trivial⟩, ⟨by omega, rfl⟩, by omega⟩
      · intro h2
        replace h2 := dec_f h2
        have hk4 : k = 4 := by omega
        subst hk4
        rw [show (l.drop m).take 4 = l.drop m from List.take_of_length_le (by omega)]
        refine W_exit (exit_then (exit_then (exit_here (at_then ?_))))
        refine W_rseq ?_
        refine op_move rfl (.slice _ _ _) rfl ?_
        refine op_move rfl (.int _ _) rfl ?_
        refine op_slice_hi rfl el_23 sz_5 rfl rfl (by omega) (by omega) ?_
        refine op_call rfl ca_70 (sum_ok a c m (l.take m) w (R.take m) (by rw [List.length_take]; omega) (by omega)) rfl ?_
        rintro v w ⟨rfl, rfl⟩
        refine op_move rfl (.int _ _) rfl ?_
        refine op_eql rfl rfl rfl ?_
        refine op_assign rfl (.bool _) rfl ?_
        refine op_nil (at_then ?_)
        refine W_ret (leave1 (v := (.bool _)) rfl rfl rfl ?_)
        refine ⟨congrArg Value.bool ?_, rfl⟩
        rw [rightW, decide_eq_true (show 4 ≤ l.length by omega), Bool.true_and, show l.length - 4 = m by omega]
        exact decide_eq_decide.2 (by omega)

/-! ### The reference -/
theorem take_ok (v0 : BitVec 32) (x : UInt8) (w : World) : Ret Tryd.prog 102 #[.int .u32 (v0.toNat : Int), bv x] w fun v w' => v = .int .u32 ((takeW v0 x).toNat : Int) ∧ w = w' := by
  have hv0 := lt_word v0
  have hxb := lt_byte x
  refine ret_of_W (fn := Tryd.f102) Tryd.func102 rfl [.int .u32 (v0.toNat : Int), bv x] rfl (by kernel_rfl) ?_
  refine W_rseq ?_
  refine op_assign rfl (.int _ _) rfl ?_
  refine op_nil (at_then ?_)
  refine W_rseq ?_
  refine op_move rfl (.int _ _) rfl ?_
  refine op_move rfl (.int _ _) rfl ?_
  refine op_conv_u32 rfl rfl un_5 un_25 (by omega) (by omega) ?_
  refine op_xor_u32 rfl rfl rfl (by omega) (by omega) ?_
  rw [xor_b]
  refine op_assign rfl (.int _ _) rfl ?_
  refine op_nil (at_then ?_)
  refine W_seq ?_
  refine W_rseq ?_
  refine op_assign rfl (.int _ _) rfl ?_
  refine op_nil (at_then ?_)
  refine W_block ?_
  refine W_loop 8386657 (α := Nat) (fun i => [(5, .int .i64 i), (0, .int .u32 ((stepsW i (v0 ^^^ byteW x)).toNat : Int))]) (fun i w' => i ≤ 8 ∧ w = w') (fun i => 8 - i) 0 rfl ?_ ?_ ?_
  · exact ⟨rfl, rfl, trivial⟩
  · exact ⟨Nat.zero_le _, rfl⟩
  · rintro i j _ ⟨hi, rfl⟩
    have hu := lt_word (stepsW i (v0 ^^^ byteW x))
    have hsn := step_nat (stepsW i (v0 ^^^ byteW x))
    have hss := steps_succ i (v0 ^^^ byteW x)
    generalize hz : stepsW i (v0 ^^^ byteW x) = z at hu hsn hss
    refine W_seq ?_
    refine W_rseq ?_
    refine op_move rfl (.int _ _) rfl ?_
    refine op_lss rfl rfl rfl ?_
    refine op_nil (at_then ?_)
    refine W_cond _ rfl ?_ ?_
    · intro h1
      replace h1 := dec_t h1
      refine W_skip (at_then ?_)
      refine W_seq ?_
      refine W_block ?_
      refine W_rseq ?_
      refine op_move rfl (.int _ _) rfl ?_
      refine op_rem rfl rfl rfl (by omega) (by omega) ?_
      refine op_eql rfl rfl rfl ?_
      refine op_assign rfl (.bool _) rfl ?_
      refine op_nil (at_then ?_)
      refine W_rseq ?_
      refine op_move rfl (.int _ _) rfl ?_
      refine op_quo rfl rfl rfl (by omega) (by omega) (by show _ ≤ (4294967295 : Int); omega) ?_
      rw [show (z.toNat : Int) / 2 = ((z.toNat / 2 : Nat) : Int) from by norm_cast]
      refine op_assign rfl (.int _ _) rfl ?_
      refine op_nil (at_then ?_)
      refine W_rseq ?_
      refine op_move rfl (.bool _) rfl ?_
      refine op_nil (at_then ?_)
      refine W_cond _ rfl ?_ ?_
      · intro h2
        replace h2 := dec_t h2
        rw [if_pos (by omega)] at hsn
        refine W_region ?_
        refine op_move rfl (.int _ _) rfl ?_
        refine op_xor_u32 (b := 3988292384) rfl rfl rfl (by omega) (by omega) ?_
        refine op_assign rfl (.int _ _) rfl ?_
        refine op_nil (at_block (at_then ?_))
        refine W_region ?_
        refine op_move rfl (.int _ _) rfl ?_
        refine op_add_i64 rfl rfl rfl (by omega) (by omega) ?_
        refine op_assign rfl (.int _ _) rfl ?_
        refine op_nil (at_then ?_)
        exact ⟨i + 1, rfl, ⟨rfl, by rw [← hss, ← hsn]; rfl, trivial⟩, ⟨by omega, rfl⟩, by omega⟩
      · intro h2
        replace h2 := dec_f h2
        rw [if_neg (by omega), Nat.xor_zero] at hsn
        refine W_skip (at_block (at_then ?_))
        refine W_region ?_
        refine op_move rfl (.int _ _) rfl ?_
        refine op_add_i64 rfl rfl rfl (by omega) (by omega) ?_
        refine op_assign rfl (.int _ _) rfl ?_
        refine op_nil (at_then ?_)
        exact ⟨i + 1, rfl, ⟨rfl, by rw [← hss, ← hsn]; rfl, trivial⟩, ⟨by omega, rfl⟩, by omega⟩
    · intro h1
      replace h1 := dec_f h1
      have hi8 : i = 8 := by omega
      subst hi8
      refine W_exit (exit_then (exit_then (exit_here (at_then ?_))))
      refine W_rseq ?_
      refine op_move rfl (.int _ _) rfl ?_
      refine op_assign rfl (.int _ _) rfl ?_
      refine op_nil (at_then ?_)
      refine W_ret (leave1 (v := (.int _ _)) rfl rfl rfl ?_)
      exact ⟨by rw [takeW, hz], rfl⟩

theorem more2_ok (s : BitVec 32) (a : Option Addr) (c : Nat) (l : List UInt8) (w : World) (R : Rd w a 1 B8 l) (hm : l.length ≤ 9223372036854775807) :
    Ret Tryd.prog 92 #[.int .u32 (s.toNat : Int), .slice a l.length c] w fun v w' => v = .int .u32 ((moreW s l).toNat : Int) ∧ w = w' := by
  have hs := lt_word s
  refine ret_of_W (fn := Tryd.f92) Tryd.func92 rfl [.int .u32 (s.toNat : Int), .slice a l.length c] rfl (by kernel_rfl) ?_
  refine W_rseq ?_
  refine op_assign rfl (.int _ _) rfl ?_
  refine op_nil (at_then ?_)
  refine W_rseq ?_
  refine op_move rfl (.int _ _) rfl ?_
  refine op_com_u32 rfl rfl (by omega) ?_
  rw [com_w]
  refine op_assign rfl (.int _ _) rfl ?_
  refine op_nil (at_then ?_)
  refine W_seq ?_
  refine W_rseq ?_
  refine op_assign rfl (.int _ _) rfl ?_
  refine op_nil (at_then ?_)
  refine W_block ?_
  refine W_loop 2096736 (α := Nat) (fun k => [(6, .int .i64 k), (5, .int .u32 (((l.take k).foldl takeW (~~~s)).toNat : Int))]) (fun k w' => k ≤ l.length ∧ w = w') (fun k => l.length - k) 0 rfl ?_ ?_ ?_
  · exact ⟨rfl, rfl, trivial⟩
  · exact ⟨Nat.zero_le _, rfl⟩
  · rintro k j _ ⟨hk, rfl⟩
    refine W_seq ?_
    refine W_rseq ?_
    refine op_move rfl (.int _ _) rfl ?_
    refine op_move rfl (.slice _ _ _) rfl ?_
    refine op_len rfl el_23 rfl ?_
    refine op_lss rfl rfl rfl ?_
    refine op_nil (at_then ?_)
    refine W_cond _ rfl ?_ ?_
    · intro h1
      replace h1 := dec_t h1
      obtain ⟨x, hx⟩ := get_some (l := l) (i := k) (by omega)
      refine W_skip (at_then ?_)
      refine W_seq ?_
      refine W_block ?_
      refine W_region ?_
      refine op_move rfl (.int _ _) rfl ?_
      refine op_move rfl (.slice _ _ _) rfl ?_
      refine op_move rfl (.int _ _) rfl ?_
      first | refine op_indexRd R rfl el_23 sz_5 rfl rfl (by omega) (by omega) (by first | rfl | omega) ?_ | refine op_indexAddr rfl el_23 sz_5 rfl rfl (by omega) (by omega) ?_
      first | refine op_ldb rfl ag_5 rfl H (by first | exact at0 | exact at1 | exact at2 | exact at3 | exact at4 | exact at5 | exact at6 | exact at7 | exact at8 | exact at9) rfl ?_ | refine op_ld rfl ag_5 rfl (R.one (f := bv) hx) ?_
      refine op_call rfl ca_102 (take_ok ((l.take k).foldl takeW (~~~s)) x w) rfl ?_
      rintro v w ⟨rfl, rfl⟩
      refine op_assign rfl (.int _ _) rfl ?_
      refine op_nil (at_block (at_then ?_))
      refine W_region ?_
      refine op_move rfl (.int _ _) rfl ?_
      refine op_add_i64 rfl rfl rfl (by omega) (by omega) ?_
      refine op_assign rfl (.int _ _) rfl ?_
      refine op_nil (at_then ?_)
      refine ⟨k + 1, rfl, ⟨rfl, ?_, trivial⟩, ⟨by omega, rfl⟩, by omega⟩
      rw [take_snoc hx, List.foldl_append, List.foldl_cons, List.foldl_nil]; rfl
    · intro h1
      replace h1 := dec_f h1
      have hke : k = l.length := by omega
      subst hke
      rw [List.take_length]
      have hw := lt_word (l.foldl takeW (~~~s))
      refine W_exit (exit_then (exit_then (exit_here (at_then ?_))))
      refine W_rseq ?_
      refine op_move rfl (.int _ _) rfl ?_
      refine op_com_u32 rfl rfl (by omega) ?_
      rw [com_w]
      refine op_assign rfl (.int _ _) rfl ?_
      refine op_nil (at_then ?_)
      refine W_ret (leave1 (v := (.int _ _)) rfl rfl rfl ?_)
      exact ⟨rfl, rfl⟩

theorem sum2_ok (a : Option Addr) (c n : Nat) (l : List UInt8) (w : World) (R : Rd w a 1 B8 l) (hn : l.length = n) (hm : n ≤ 9223372036854775807) :
    Ret Tryd.prog 76 #[.slice a n c] w fun v w' => v = .int .u32 ((sumW l).toNat : Int) ∧ w = w' := by
  subst hn
  refine ret_of_W (fn := Tryd.f76) Tryd.func76 rfl [.slice a l.length c] rfl (by kernel_rfl) ?_
  refine W_rseq ?_
  refine op_assign rfl (.int _ _) rfl ?_
  refine op_nil (at_then ?_)
  refine W_rseq ?_
  refine op_move rfl (.slice _ _ _) rfl ?_
  refine op_call rfl ca_92 (more2_ok 0#32 a c l w R hm) rfl ?_
  rintro v w ⟨rfl, rfl⟩
  refine op_assign rfl (.int _ _) rfl ?_
  refine op_nil (at_then ?_)
  refine W_ret (leave1 (v := (.int _ _)) rfl rfl rfl ?_)
  exact ⟨rfl, rfl⟩

theorem or_lt32 {a b : Nat} (ha : a < 4294967296) (hb : b < 4294967296) : a ||| b < 4294967296 := Nat.or_lt_two_pow (n := 32) ha hb
theorem want_four {l : List UInt8} {a b c d : UInt8} (h : l = [a, b, c, d]) : ((a.toNat ||| (b.toNat * 2 ^ 8 % 4294967296)) ||| (c.toNat * 2 ^ 16 % 4294967296)) ||| (d.toNat * 2 ^ 24 % 4294967296) = wantN l := by
  subst h
  have h1 := want_step (l := [a, b, c, d]) (k := 0) (c := a) rfl (by omega)
  have h2 := want_step (l := [a, b, c, d]) (k := 1) (c := b) rfl (by omega)
  have h3 := want_step (l := [a, b, c, d]) (k := 2) (c := c) rfl (by omega)
  have h4 := want_step (l := [a, b, c, d]) (k := 3) (c := d) rfl (by omega)
  have h0 : a.toNat = wantN ([a, b, c, d].take 1) := by simp [wantN]
  have h5 : wantN [a, b, c, d] = wantN ([a, b, c, d].take 4) := rfl
  rw [h5, ← h4, ← h3, ← h2, ← h0]

set_option maxRecDepth 20000 in
set_option maxHeartbeats 1000000 in
theorem right2_ok (a : Option Addr) (c : Nat) (l : List UInt8) (w : World) (R : Rd w a 1 B8 l) (hm : l.length ≤ 9223372036854775807) (hc : l.length ≤ c) :
    Ret Tryd.prog 96 #[.slice a l.length c] w fun v w' => v = .bool (rightW l) ∧ Ext [] w w' := by
  have H := Ctx.start w []
  refine ret_of_W (fn := Tryd.f96) Tryd.func96 rfl [.slice a l.length c] rfl (by kernel_rfl) ?_
  refine W_rseq ?_
  refine op_assign rfl (.bool _) rfl ?_
  refine op_nil (at_then ?_)
  refine W_rseq ?_
  refine op_move rfl (.slice _ _ _) rfl ?_
  refine op_len rfl el_23 rfl ?_
  refine op_sub_i64 rfl rfl rfl (by omega) (by omega) ?_
  refine op_assign rfl (.int _ _) rfl ?_
  refine op_nil (at_then ?_)
  refine W_seq ?_
  refine W_rseq ?_
  refine op_move rfl (.int _ _) rfl ?_
  refine op_lss rfl rfl rfl ?_
  refine op_nil (at_then ?_)
  refine W_cond _ rfl ?_ ?_
  · intro h1
    replace h1 := dec_t h1
    refine W_rseq ?_
    refine op_assign rfl (.bool _) rfl ?_
    refine op_nil (at_then ?_)
    refine W_ret (ret_then (leave1 (v := (.bool _)) rfl rfl rfl ?_))
    exact ⟨congrArg Value.bool (by rw [rightW, decide_eq_false (by omega)]; rfl), Ext.refl _ _⟩
  · intro h1
    replace h1 := dec_f h1
    obtain ⟨m, hm4⟩ : ∃ m, l.length = m + 4 := ⟨l.length - 4, by omega⟩
    rw [show (l.length : Int) - 4 = (m : Int) by omega]
    obtain ⟨b0, hb0⟩ := get_some (l := l) (i := m) (by omega)
    obtain ⟨b1, hb1⟩ := get_some (l := l) (i := m + 1) (by omega)
    obtain ⟨b2, hb2⟩ := get_some (l := l) (i := m + 2) (by omega)
    obtain ⟨b3, hb3⟩ := get_some (l := l) (i := m + 3) (by omega)
    have hl0 := lt_byte b0
    have hl1 := lt_byte b1
    have hl2 := lt_byte b2
    have hl3 := lt_byte b3
    have hd : l.drop m = [b0, b1, b2, b3] := by
      apply List.ext_getElem?
      intro i
      rw [List.getElem?_drop]
      match i with
      | 0 => exact hb0
      | 1 => exact hb1
      | 2 => exact hb2
      | 3 => exact hb3
      | i + 4 => rw [List.getElem?_eq_none (by omega)]; rfl
    have h8 : b1.toNat * 2 ^ 8 % 4294967296 < 4294967296 := Nat.mod_lt _ (by decide)
    have h16 : b2.toNat * 2 ^ 16 % 4294967296 < 4294967296 := Nat.mod_lt _ (by decide)
    have h24 : b3.toNat * 2 ^ 24 % 4294967296 < 4294967296 := Nat.mod_lt _ (by decide)
    have ho1 := or_lt32 (a := b0.toNat) (b := b1.toNat * 2 ^ 8 % 4294967296) (by omega) h8
    have ho2 := or_lt32 ho1 h16
    have R' := R.ext0 (Ext.drew [] w)
    refine W_skip (at_then ?_)
    refine W_qseq (fun x => x = _) mixed (by kernel_rfl) rfl ?_
    refine q_move rfl (.slice _ _ _) rfl ?_
    refine q_move rfl (.int _ _) rfl ?_
    refine q_slice_hi rfl el_23 sz_5 rfl rfl (by omega) (by omega) ?_
    refine q_call rfl ca_76 (by rintro _ rfl; exact (sum2_ok a c m (l.take m) _ (R'.take m) (by rw [List.length_take]; omega) (by omega)).mono (fun v w' h => ⟨h.1, h.2.symm⟩)) rfl ?_
    refine q_move rfl (.slice _ _ _) rfl ?_
    refine q_move rfl (.int _ _) rfl ?_
    first | refine q_indexRd R' rfl el_23 sz_5 rfl rfl (by omega) (by omega) (by first | rfl | omega) ?_ | refine q_indexAddr rfl el_23 sz_5 rfl rfl (by omega) (by omega) ?_
    first | refine q_ldb rfl ag_5 rfl (by rintro _ rfl; exact H.drew) (by first | exact at0 | exact at1 | exact at2 | exact at3 | exact at4 | exact at5 | exact at6 | exact at7 | exact at8 | exact at9) rfl ?_ | refine q_ld rfl ag_5 rfl (by rintro _ rfl; exact (R'.one (f := bv) hb0)) ?_ | refine q_ld rfl ag_5 rfl (by rintro _ rfl; exact (R'.one (f := bv) hb1)) ?_ | refine q_ld rfl ag_5 rfl (by rintro _ rfl; exact (R'.one (f := bv) hb2)) ?_ | refine q_ld rfl ag_5 rfl (by rintro _ rfl; exact (R'.one (f := bv) hb3)) ?_
    refine q_conv_u32 rfl rfl un_5 un_25 (by omega) (by omega) ?_
    refine q_move rfl (.slice _ _ _) rfl ?_
    refine q_move rfl (.int _ _) rfl ?_
    refine q_add_i64 rfl rfl rfl (by omega) (by omega) ?_
    first | refine q_indexRd R' rfl el_23 sz_5 rfl rfl (by omega) (by omega) (by first | rfl | omega) ?_ | refine q_indexAddr rfl el_23 sz_5 rfl rfl (by omega) (by omega) ?_
    first | refine q_ldb rfl ag_5 rfl (by rintro _ rfl; exact H.drew) (by first | exact at0 | exact at1 | exact at2 | exact at3 | exact at4 | exact at5 | exact at6 | exact at7 | exact at8 | exact at9) rfl ?_ | refine q_ld rfl ag_5 rfl (by rintro _ rfl; exact (R'.one (f := bv) hb0)) ?_ | refine q_ld rfl ag_5 rfl (by rintro _ rfl; exact (R'.one (f := bv) hb1)) ?_ | refine q_ld rfl ag_5 rfl (by rintro _ rfl; exact (R'.one (f := bv) hb2)) ?_ | refine q_ld rfl ag_5 rfl (by rintro _ rfl; exact (R'.one (f := bv) hb3)) ?_
    refine q_conv_u32 rfl rfl un_5 un_25 (by omega) (by omega) ?_
    refine q_shl_u32 (n := 8) rfl rfl rfl (by omega) ?_
    refine q_or_u32 rfl rfl rfl (by omega) (by omega) ?_
    refine q_move rfl (.slice _ _ _) rfl ?_
    refine q_move rfl (.int _ _) rfl ?_
    refine q_add_i64 rfl rfl rfl (by omega) (by omega) ?_
    first | refine q_indexRd R' rfl el_23 sz_5 rfl rfl (by omega) (by omega) (by first | rfl | omega) ?_ | refine q_indexAddr rfl el_23 sz_5 rfl rfl (by omega) (by omega) ?_
    first | refine q_ldb rfl ag_5 rfl (by rintro _ rfl; exact H.drew) (by first | exact at0 | exact at1 | exact at2 | exact at3 | exact at4 | exact at5 | exact at6 | exact at7 | exact at8 | exact at9) rfl ?_ | refine q_ld rfl ag_5 rfl (by rintro _ rfl; exact (R'.one (f := bv) hb0)) ?_ | refine q_ld rfl ag_5 rfl (by rintro _ rfl; exact (R'.one (f := bv) hb1)) ?_ | refine q_ld rfl ag_5 rfl (by rintro _ rfl; exact (R'.one (f := bv) hb2)) ?_ | refine q_ld rfl ag_5 rfl (by rintro _ rfl; exact (R'.one (f := bv) hb3)) ?_
    refine q_conv_u32 rfl rfl un_5 un_25 (by omega) (by omega) ?_
    refine q_shl_u32 (n := 16) rfl rfl rfl (by omega) ?_
    refine q_or_u32 rfl rfl rfl ho1 h16 ?_
    refine q_move rfl (.slice _ _ _) rfl ?_
    refine q_move rfl (.int _ _) rfl ?_
    refine q_add_i64 rfl rfl rfl (by omega) (by omega) ?_
    first | refine q_indexRd R' rfl el_23 sz_5 rfl rfl (by omega) (by omega) (by first | rfl | omega) ?_ | refine q_indexAddr rfl el_23 sz_5 rfl rfl (by omega) (by omega) ?_
    first | refine q_ldb rfl ag_5 rfl (by rintro _ rfl; exact H.drew) (by first | exact at0 | exact at1 | exact at2 | exact at3 | exact at4 | exact at5 | exact at6 | exact at7 | exact at8 | exact at9) rfl ?_ | refine q_ld rfl ag_5 rfl (by rintro _ rfl; exact (R'.one (f := bv) hb0)) ?_ | refine q_ld rfl ag_5 rfl (by rintro _ rfl; exact (R'.one (f := bv) hb1)) ?_ | refine q_ld rfl ag_5 rfl (by rintro _ rfl; exact (R'.one (f := bv) hb2)) ?_ | refine q_ld rfl ag_5 rfl (by rintro _ rfl; exact (R'.one (f := bv) hb3)) ?_
    refine q_conv_u32 rfl rfl un_5 un_25 (by omega) (by omega) ?_
    refine q_shl_u32 (n := 24) rfl rfl rfl (by omega) ?_
    refine q_or_u32 rfl rfl rfl ho2 h24 ?_
    rw [want_four hd]
    refine q_eql rfl rfl rfl ?_
    refine q_assign rfl (.bool _) rfl ?_
    refine q_nil ?_
    rintro _ rfl
    replace H := H.drew
    refine W_ret (leave1 (v := (.bool _)) rfl rfl rfl ?_)
    refine ⟨congrArg Value.bool ?_, Ext.drew _ _⟩
    rw [rightW, decide_eq_true (show 4 ≤ l.length by omega), Bool.true_and, show l.length - 4 = m by omega]
    exact decide_eq_decide.2 (by omega)

end Go.Proofs.YtkmbcpgnafmnpaaDoor

/- Numbers as bytes; copies of bytes. -/
namespace Go.Proofs.YtkmbcpgnafmnpaaDoor
open Go.GV
attribute [local irreducible] Wops W Wq

theorem Fresh.rdB {w w' : World} {t : Nat} {s : Value} {xs : List UInt8} (h : Fresh w w' t 1 s (xs.map bv)) : ∃ a c, s = .slice a xs.length c ∧ Rd w' a 1 B8 xs ∧ xs.length ≤ c := by
  obtain ⟨a, n, c, full, rfl, O, hb⟩ := h.ex
  have hn := O.num
  subst hn
  exact ⟨a, c, rfl, O.rd1 (t := t) fun x hx => (hb x hx).1, O.le⟩
theorem Rd.appB {w : World} {a : Option Addr} {l : List UInt8} (R : Rd w a 1 B8 l) : ∀ j v, (l.map bv)[j]? = some v → ∃ p, a = some p ∧ w.cell? (p.add j) = some v := Rd.app1 (f := bv) R
theorem OS.rdB {w : World} {a : Option Addr} {n c : Nat} {t : TypeId} {full : List Value} {xs : List UInt8} (h : OS a n c 1 full (xs.map bv)) (hb : ∀ x ∈ ent a t full, w.heap[x.1]? = some x.2) : Rd w a 1 B8 xs := OS.rd1 h hb

theorem rd_blB {w : World} {b t : Nat} {xs : List UInt8} (h : w.heap[b]? = some (Bl t (xs.map bv))) : Rd w (some ⟨b, 0, none⟩) 1 B8 xs :=
  Rd.of_bl (r := []) h (by rw [List.append_nil]; exact (flat1 xs).symm) (fun x _ => rfl)

theorem Fresh.since {w0 w w' : World} {t s : Nat} {v : Value} {l : List Value} (h : Fresh w w' t s v l) (hx : Ext [] w0 w) : Fresh w0 w' t s v l :=
  ⟨let ⟨a, n, c, full, h1, h2, h3⟩ := h.ex; ⟨a, n, c, full, h1, h2, fun x hx' => ⟨(h3 x hx').1, Nat.le_trans hx.size (h3 x hx').2⟩⟩, hx.trans h.ext⟩

theorem clone_ok (a : Option Addr) (c n : Nat) (l : List UInt8) (w : World) (R : Rd w a 1 B8 l) (hn : l.length = n) (hm : n ≤ 140737488351232) :
    Ret Tryd.prog 53 #[.slice a n c] w fun v w' => Fresh w w' 5 1 v (l.map bv) ∧ (a = none → v = .slice none 0 0) := by
  subst hn
  obtain ⟨w0, rfl⟩ : ∃ w0, w0 = w := ⟨_, rfl⟩
  have H := Ctx.start w0 []
  refine ret_of_W (fn := Tryd.f53) Tryd.func53 rfl [.slice a l.length c] rfl (by kernel_rfl) ?_
  refine W_rseq ?_
  refine op_assign rfl (.slice _ _ _) rfl ?_
  refine op_nil (at_then ?_)
  refine W_seq ?_
  refine W_rseq ?_
  refine op_move rfl (.slice _ _ _) rfl ?_
  refine op_eqlnil rfl el_23 rfl ?_
  refine op_nil (at_then ?_)
  refine W_cond _ rfl ?_ ?_
  · intro h1
    have ha : a = none := by simpa using h1
    subst ha
    have hl : l = [] := by
      cases l with
      | nil => rfl
      | cons x l => obtain ⟨b, o, h⟩ := R.some' (by simp); cases h
    subst hl
    refine W_rseq ?_
    refine op_assign rfl (.slice _ _ _) rfl ?_
    refine op_nil (at_then ?_)
    refine W_ret (ret_then (leave1 (v := (.slice _ _ _)) rfl rfl rfl ?_))
    exact ⟨Fresh.nil H _ _, fun _ => rfl⟩
  · intro h1
    refine W_skip (at_then ?_)
    refine W_rseq ?_
    refine op_build0 rfl el_23 sz_5 H ?_
    rintro b5 w H O
    refine op_move rfl (.slice _ _ _) rfl ?_
    refine op_append rfl el_23 el_23 sz_5 by_5 zc_5 rfl (by decide) (l.map bv) rfl rfl H O (by simp) (bv_one l) (Rd.appB (R.ext0 H.ext)) (by omega) ?_
    rintro a7 c7 full7 w H O
    refine op_assign rfl (.slice _ _ _) rfl ?_
    refine op_nil (at_then ?_)
    refine W_ret (leave1 (v := (.slice _ _ _)) rfl rfl rfl ?_)
    exact ⟨Ctx.fresh H (by simpa using O), fun h => by subst h; cases h1⟩

theorem sclone_ok (a : Option Addr) (c n : Nat) (l : List UInt8) (w : World) (R : Rd w a 1 B8 l) (hn : l.length = n) (hm : n ≤ 140737488351232) :
    Ret Tryd.prog 74 #[.slice a n c] w fun v w' => Fresh w w' 5 1 v (l.map bv) ∧ (a = none → v = .slice none 0 0) := by
  subst hn
  obtain ⟨w0, rfl⟩ : ∃ w0, w0 = w := ⟨_, rfl⟩
  have H := Ctx.start w0 []
  refine ret_of_W (fn := Tryd.f74) Tryd.func74 rfl [.slice a l.length c] rfl (by kernel_rfl) ?_
  refine W_rseq ?_
  refine op_assign rfl (.slice _ _ _) rfl ?_
  refine op_nil (at_then ?_)
  refine W_seq ?_
  refine W_rseq ?_
  refine op_move rfl (.slice _ _ _) rfl ?_
  refine op_eqlnil rfl el_23 rfl ?_
  refine op_nil (at_then ?_)
  refine W_cond _ rfl ?_ ?_
  · intro h1
    have ha : a = none := by simpa using h1
    subst ha
    have hl : l = [] := by
      cases l with
      | nil => rfl
      | cons x l => obtain ⟨b, o, h⟩ := R.some' (by simp); cases h
    subst hl
    refine W_rseq ?_
    refine op_assign rfl (.slice _ _ _) rfl ?_
    refine op_nil (at_then ?_)
    refine W_ret (ret_then (leave1 (v := (.slice _ _ _)) rfl rfl rfl ?_))
    exact ⟨Fresh.nil H _ _, fun _ => rfl⟩
  · intro h1
    refine W_skip (at_then ?_)
    refine W_rseq ?_
    refine op_build0 rfl el_23 sz_5 H ?_
    rintro b5 w H O
    refine op_move rfl (.slice _ _ _) rfl ?_
    refine op_append rfl el_23 el_23 sz_5 by_5 zc_5 rfl (by decide) (l.map bv) rfl rfl H O (by simp) (bv_one l) (Rd.appB (R.ext0 H.ext)) (by omega) ?_
    rintro a7 c7 full7 w H O
    refine op_assign rfl (.slice _ _ _) rfl ?_
    refine op_nil (at_then ?_)
    refine W_ret (leave1 (v := (.slice _ _ _)) rfl rfl rfl ?_)
    exact ⟨Ctx.fresh H (by simpa using O), fun h => by subst h; cases h1⟩

/-! ### Sizes -/
def sizeB (k : Int) : Bool := decide (k = 1) || (decide (k = 2) || (decide (k = 4) || decide (k = 8)))
theorem size_num {k : Int} (h : sizeB k = true) : ∃ n : Nat, k = n ∧ 1 ≤ n ∧ n ≤ 8 := by
  simp only [sizeB, Bool.or_eq_true, decide_eq_true_eq] at h
  exact ⟨k.toNat, by omega, by omega, by omega⟩
theorem size_look (k : Int) : ∃ z : Int, Option.getD (if k = 8 then some (Value.int .i64 64) else if k = 4 then some (Value.int .i64 32) else if k = 2 then some (Value.int .i64 16) else if k = 1 then some (Value.int .i64 8) else none) (Value.int .i64 0) = .int .i64 z ∧ decide (0 < z) = sizeB k := by
  by_cases h8 : k = 8
  · exact ⟨64, by simp [h8], by simp [sizeB, h8]⟩
  by_cases h4 : k = 4
  · exact ⟨32, by simp [h4], by simp [sizeB, h4]⟩
  by_cases h2 : k = 2
  · exact ⟨16, by simp [h2], by simp [sizeB, h2]⟩
  by_cases h1 : k = 1
  · exact ⟨8, by simp [h1], by simp [sizeB, h1]⟩
  exact ⟨0, by simp [h8, h4, h2, h1], by simp [sizeB, h8, h4, h2, h1]⟩
theorem oright_ok (k : Int) (w : World) : Ret Tryd.prog 71 #[.int .i64 k] w fun v w' => v = .bool (sizeB k) ∧ Ext [] w w' := by
  obtain ⟨w0, rfl⟩ : ∃ w0, w0 = w := ⟨_, rfl⟩
  have H := Ctx.start w0 []
  refine ret_of_W (fn := Tryd.f71) Tryd.func71 rfl [.int .i64 k] rfl (by kernel_rfl) ?_
  refine W_rseq ?_
  refine op_assign rfl (.bool _) rfl ?_
  refine op_nil (at_then ?_)
  refine W_rseq ?_
  refine op_makeMap .i64 rfl H ?_
  rintro b4 o4 w hM H
  refine op_insert (.int _ _) rfl mt_130 un_3 rfl rfl rfl H (by first | exact at0 | exact at1 | exact at2 | exact at3 | exact at4 | exact at5 | exact at6 | exact at7 | exact at8 | exact at9) hM ?_
  rintro o w hM H
  refine op_insert (.int _ _) rfl mt_130 un_3 rfl rfl rfl H (by first | exact at0 | exact at1 | exact at2 | exact at3 | exact at4 | exact at5 | exact at6 | exact at7 | exact at8 | exact at9) hM ?_
  rintro o w hM H
  refine op_insert (.int _ _) rfl mt_130 un_3 rfl rfl rfl H (by first | exact at0 | exact at1 | exact at2 | exact at3 | exact at4 | exact at5 | exact at6 | exact at7 | exact at8 | exact at9) hM ?_
  rintro o w hM H
  refine op_insert (.int _ _) rfl mt_130 un_3 rfl rfl rfl H (by first | exact at0 | exact at1 | exact at2 | exact at3 | exact at4 | exact at5 | exact at6 | exact at7 | exact at8 | exact at9) hM ?_
  rintro o w hM H
  refine op_move rfl (.map _) rfl ?_
  refine op_assign rfl (.map _) rfl ?_
  refine op_nil (at_then ?_)
  refine W_rseq ?_
  refine op_move rfl (.map _) rfl ?_
  refine op_move rfl (.int _ _) rfl ?_
  refine op_lookup rfl mt_130 un_3 zv_3 rfl rfl H at0 hM ?_
  simp only [mget_mset, mget_nil]
  obtain ⟨z, hz, hzb⟩ := size_look k
  rw [hz]
  refine op_gtr rfl rfl rfl ?_
  refine op_assign rfl (.bool _) rfl ?_
  refine op_nil (at_then ?_)
  refine W_ret (leave1 (v := (.bool _)) rfl rfl rfl ?_)
  exact ⟨congrArg Value.bool hzb, H.ext⟩
theorem size_ok (k : Int) (w : World) : Ret Tryd.prog 91 #[.int .i64 k] w fun v w' => v = .bool (sizeB k) ∧ w = w' := by
  refine ret_of_W (fn := Tryd.f91) Tryd.func91 rfl [.int .i64 k] rfl (by kernel_rfl) ?_
  refine W_rseq ?_
  refine op_assign rfl (.bool _) rfl ?_
  refine op_nil (at_then ?_)
  refine W_rseq ?_
  refine op_move rfl (.int _ _) rfl ?_
  refine op_eql rfl rfl rfl ?_
  refine op_move rfl (.bool _) rfl ?_
  refine Wops_split 5 rfl ?_ ?_
  · intro h1
    replace h1 := dec_t h1
    refine op_skip rfl ?_
    refine op_skip rfl ?_
    refine op_pick1 rfl rfl (.bool _) rfl ?_
    refine op_move rfl (.bool _) rfl ?_
    refine op_skip rfl ?_
    refine op_skip rfl ?_
    refine op_pick1 rfl rfl (.bool _) rfl ?_
    refine op_move rfl (.bool _) rfl ?_
    refine op_skip rfl ?_
    refine op_skip rfl ?_
    refine op_pick1 rfl rfl (.bool _) rfl ?_
    refine op_assign rfl (.bool _) rfl ?_
    refine op_nil (at_then ?_)
    refine W_ret (leave1 (v := (.bool _)) rfl rfl rfl ?_)
    exact ⟨congrArg Value.bool (by unfold sizeB; simp_all), rfl⟩
  · intro h2
    replace h2 := dec_f h2
    refine op_move rfl (.int _ _) rfl ?_
    refine op_eql rfl rfl rfl ?_
    refine op_pick0 rfl rfl (.bool _) rfl ?_
    refine op_move rfl (.bool _) rfl ?_
    refine Wops_split 9 rfl ?_ ?_
    · intro h3
      replace h3 := dec_t h3
      refine op_skip rfl ?_
      refine op_skip rfl ?_
      refine op_pick1 rfl rfl (.bool _) rfl ?_
      refine op_move rfl (.bool _) rfl ?_
      refine op_skip rfl ?_
      refine op_skip rfl ?_
      refine op_pick1 rfl rfl (.bool _) rfl ?_
      refine op_assign rfl (.bool _) rfl ?_
      refine op_nil (at_then ?_)
      refine W_ret (leave1 (v := (.bool _)) rfl rfl rfl ?_)
      exact ⟨congrArg Value.bool (by unfold sizeB; simp_all), rfl⟩
    · intro h4
      replace h4 := dec_f h4
      refine op_move rfl (.int _ _) rfl ?_
      refine op_eql rfl rfl rfl ?_
      refine op_pick0 rfl rfl (.bool _) rfl ?_
      refine op_move rfl (.bool _) rfl ?_
      refine Wops_split 13 rfl ?_ ?_
      · intro h5
        replace h5 := dec_t h5
        refine op_skip rfl ?_
        refine op_skip rfl ?_
        refine op_pick1 rfl rfl (.bool _) rfl ?_
        refine op_assign rfl (.bool _) rfl ?_
        refine op_nil (at_then ?_)
        refine W_ret (leave1 (v := (.bool _)) rfl rfl rfl ?_)
        exact ⟨congrArg Value.bool (by unfold sizeB; simp_all), rfl⟩
      · intro h6
        replace h6 := dec_f h6
        refine op_move rfl (.int _ _) rfl ?_
        refine op_eql rfl rfl rfl ?_
        refine op_pick0 rfl rfl (.bool _) rfl ?_
        refine op_assign rfl (.bool _) rfl ?_
        refine op_nil (at_then ?_)
        refine W_ret (leave1 (v := (.bool _)) rfl rfl rfl ?_)
        exact ⟨congrArg Value.bool (by unfold sizeB; simp_all), rfl⟩

/-! ### Put -/
/-- k bytes of n, the greatest first. -/
def putN (n k : Nat) : List UInt8 := (List.range k).map fun i => UInt8.ofNat (n / 2 ^ (8 * (k - 1 - i)))
theorem putN_len (n k : Nat) : (putN n k).length = k := by simp [putN]
theorem putN_snoc {n k i : Nat} (h : i < k) : (putN n k).take (i + 1) = (putN n k).take i ++ [UInt8.ofNat (n / 2 ^ (8 * (k - 1 - i)))] := take_snoc (range_get h)
theorem ofNat_val (x : Nat) : Value.int .u8 ((x % 256 : Nat) : Int) = bv (UInt8.ofNat x) := by
  unfold bv; congr 2
def putB (l : List UInt8) (n : Nat) (k : Int) : List UInt8 := bif sizeB k then l ++ putN n k.toNat else l

set_option maxHeartbeats 1000000 in
theorem put_ok (a : Option Addr) (c m : Nat) (l : List UInt8) (n : Nat) (k : Int) (w : World) (R : Rd w a 1 B8 l) (hml : l.length = m) (hm : m ≤ 140737488351231) (hn : n < 18446744073709551616) :
    Ret Tryd.prog 48 #[.slice a m c, .int .u64 (n : Int), .int .i64 k] w fun v w' => Fresh w w' 5 1 v ((putB l n k).map bv) := by
  subst hml
  obtain ⟨w0, rfl⟩ : ∃ w0, w0 = w := ⟨_, rfl⟩
  refine ret_of_W (fn := Tryd.f48) Tryd.func48 rfl [.slice a l.length c, .int .u64 (n : Int), .int .i64 k] rfl (by kernel_rfl) ?_
  refine W_rseq ?_
  refine op_assign rfl (.slice _ _ _) rfl ?_
  refine op_nil (at_then ?_)
  refine W_rseq ?_
  refine op_move rfl (.slice _ _ _) rfl ?_
  refine op_call rfl ca_53 (clone_ok a c l.length l _ R rfl (by omega)) rfl ?_
  rintro v w ⟨F, -⟩
  obtain ⟨a7, n7, c7, full7, rfl, O, hb⟩ := F.ex
  have hn7 : n7 = l.length := OS.num O
  subst hn7
  have H : Ctx w0 [] w (ent a7 5 full7) := ⟨F.ext, fun x hx => (hb x hx).1, ent_nd, fun x hx => .inr (hb x hx).2⟩
  refine op_assign rfl (.slice _ _ _) rfl ?_
  refine op_nil (at_then ?_)
  refine W_seq ?_
  refine W_rseq ?_
  refine op_move rfl (.int _ _) rfl ?_
  refine op_call rfl ca_71 (oright_ok k _) rfl ?_
  rintro v w ⟨rfl, hx⟩
  replace H := H.call hx
  refine op_not rfl rfl ?_
  refine op_nil (at_then ?_)
  refine W_cond _ rfl ?_ ?_
  · intro h1
    replace h1 := nvar_t h1
    refine W_rseq ?_
    refine op_move rfl (.slice _ _ _) rfl ?_
    refine op_assign rfl (.slice _ _ _) rfl ?_
    refine op_nil (at_then ?_)
    refine W_ret (ret_then (leave1 (v := (.slice _ _ _)) rfl rfl rfl ?_))
    rw [putB, h1]
    exact Ctx.fresh (L := []) H O
  · intro h1
    replace h1 := nvar_f h1
    obtain ⟨q, rfl, hq1, hq8⟩ := size_num h1
    rw [putB, h1, show ((q : Int)).toNat = q from rfl]
    refine W_skip (at_then ?_)
    refine W_seq ?_
    refine W_rseq ?_
    refine op_move rfl (.int _ _) rfl ?_
    refine op_move rfl (.int _ _) rfl ?_
    refine op_nil (at_then ?_)
    refine W_block ?_
    refine W_loop 2147418496 (α := Nat × Option Addr × Nat × List Value) (fun x => [(16, .int .i64 x.1), (7, .slice x.2.1 (l.length + x.1) x.2.2.1)]) (fun x w' => x.1 ≤ q ∧ Ctx w0 [] w' (ent x.2.1 5 x.2.2.2) ∧ OS x.2.1 (l.length + x.1) x.2.2.1 1 x.2.2.2 ((l ++ (putN n q).take x.1).map bv)) (fun x => q - x.1) (0, a7, c7, full7) rfl ?_ ?_ ?_
    · exact ⟨rfl, rfl, trivial⟩
    · exact ⟨Nat.zero_le _, H, by simpa using O⟩
    · rintro ⟨i, a7, c7, full7⟩ j w ⟨hi, H, O⟩; dsimp only at hi H O; dsimp only
      refine W_rseq ?_
      refine op_lss rfl rfl rfl ?_
      refine op_nil (at_then ?_)
      refine W_seq ?_
      refine W_cond _ rfl ?_ ?_
      · intro h2
        replace h2 := dec_t h2
        refine W_skip (at_then ?_)
        refine W_seq ?_
        refine W_block ?_
        refine W_rseq ?_
        refine op_move rfl (.int _ _) rfl ?_
        refine op_assign rfl (.int _ _) rfl ?_
        refine op_nil (at_then ?_)
        refine W_region ?_
        refine op_move rfl (.slice _ _ _) rfl ?_
        refine op_move rfl (.int _ _) rfl ?_
        refine op_move rfl (.int _ _) rfl ?_
        refine op_sub_i64 rfl rfl rfl (by omega) (by omega) ?_
        refine op_move rfl (.int _ _) rfl ?_
        refine op_sub_i64 rfl rfl rfl (by omega) (by omega) ?_
        refine op_mul_i64 rfl rfl rfl (by omega) (by omega) ?_
        rw [show (8 : Int) * ((q : Int) - 1 - (i : Int)) = ((8 * (q - 1 - i) : Nat) : Int) from by omega]
        refine op_shr_u64 rfl rfl rfl (by omega) ?_
        refine op_convn_u8 rfl rfl un_22 un_5 ?_
        rw [ofNat_val]
        refine op_build1 _ (.int _ _) rfl el_23 sz_5 zc_5 rfl (by decide) (by decide) rfl rfl rfl H ?_
        rintro b28 w - H
        refine op_appendb (L := []) rfl el_23 el_23 sz_5 by_5 zc_5 rfl (by decide) rfl rfl H O rfl (by simp [oneCell, bv]) (by omega) ?_
        rintro a9 c9 full9 w H O
        refine op_assign rfl (.slice _ _ _) rfl ?_
        refine op_nil (at_block (at_then ?_))
        refine W_region ?_
        refine op_add_i64 rfl rfl rfl (by omega) (by omega) ?_
        refine op_move rfl (.int _ _) rfl ?_
        refine op_nil (at_then ?_)
        refine ⟨(i + 1, a9, c9, full9), rfl, ⟨rfl, rfl, trivial⟩, ⟨by omega, H, ?_⟩, by dsimp only; omega⟩
        dsimp only
        have O' : OS a9 (l.length + (i + 1)) c9 1 full9 ((l ++ (putN n q).take i).map bv ++ [UInt8.ofNat (n / 2 ^ (8 * (q - 1 - i)))].map bv) := O
        rw [← List.map_append, List.append_assoc, ← putN_snoc (by omega)] at O'
        exact O'
      · intro h2
        replace h2 := dec_f h2
        have hiq : i = q := by omega
        subst hiq
        refine W_exit (exit_then (exit_then (exit_here (at_then ?_))))
        refine W_rseq ?_
        refine op_move rfl (.slice _ _ _) rfl ?_
        refine op_assign rfl (.slice _ _ _) rfl ?_
        refine op_nil (at_then ?_)
        refine W_ret (leave1 (v := (.slice _ _ _)) rfl rfl rfl ?_)
        have hl : (putN n i).take i = putN n i := List.take_of_length_le (by rw [putN_len]; exact Nat.le_refl _)
        rw [hl] at O
        exact Ctx.fresh (L := []) H O

set_option maxHeartbeats 1000000 in
theorem put1_ok (a : Option Addr) (c m : Nat) (l : List UInt8) (n : Nat) (k : Int) (w : World) (R : Rd w a 1 B8 l) (hml : l.length = m) (hm : m ≤ 140737488351231) (hn : n < 18446744073709551616) :
    Ret Tryd.prog 75 #[.slice a m c, .int .u64 (n : Int), .int .i64 k] w fun v w' => Fresh w w' 5 1 v ((putB l n k).map bv) := by
  subst hml
  obtain ⟨w0, rfl⟩ : ∃ w0, w0 = w := ⟨_, rfl⟩
  have H := Ctx.start w0 []
  refine ret_of_W (fn := Tryd.f75) Tryd.func75 rfl [.slice a l.length c, .int .u64 (n : Int), .int .i64 k] rfl (by kernel_rfl) ?_
  refine W_rseq ?_
  refine op_assign rfl (.slice _ _ _) rfl ?_
  refine op_nil (at_then ?_)
  refine W_rseq ?_
  refine op_build0 rfl el_23 sz_5 H ?_
  rintro b9 w H O
  refine op_move rfl (.slice _ _ _) rfl ?_
  refine op_append rfl el_23 el_23 sz_5 by_5 zc_5 rfl (by decide) (l.map bv) rfl rfl H O (by simp) (bv_one l) (Rd.appB (R.ext0 H.ext)) (by omega) ?_
  rintro a7 c7 full7 w H O
  rw [Nat.zero_add]
  replace O : OS a7 l.length c7 1 full7 (l.map bv) := (by simpa using O)
  refine op_assign rfl (.slice _ _ _) rfl ?_
  refine op_nil (at_then ?_)
  refine W_seq ?_
  refine W_rseq ?_
  refine op_move rfl (.int _ _) rfl ?_
  refine op_call rfl ca_91 (size_ok k _) rfl ?_
  rintro v w ⟨rfl, rfl⟩
  refine op_not rfl rfl ?_
  refine op_nil (at_then ?_)
  refine W_cond _ rfl ?_ ?_
  · intro h1
    replace h1 := nvar_t h1
    refine W_rseq ?_
    refine op_move rfl (.slice _ _ _) rfl ?_
    refine op_assign rfl (.slice _ _ _) rfl ?_
    refine op_nil (at_then ?_)
    refine W_ret (ret_then (leave1 (v := (.slice _ _ _)) rfl rfl rfl ?_))
    rw [putB, h1]
    exact Ctx.fresh (L := []) H O
  · intro h1
    replace h1 := nvar_f h1
    obtain ⟨q, rfl, hq1, hq8⟩ := size_num h1
    rw [putB, h1, show ((q : Int)).toNat = q from rfl]
    refine W_skip (at_then ?_)
    refine W_seq ?_
    refine W_rseq ?_
    refine op_assign rfl (.int _ _) rfl ?_
    refine op_nil (at_then ?_)
    refine W_block ?_
    refine W_loop 8589869440 (α := Nat × Option Addr × Nat × List Value) (fun x => [(8, .int .i64 x.1), (7, .slice x.2.1 (l.length + x.1) x.2.2.1)]) (fun x w' => x.1 ≤ q ∧ Ctx w0 [] w' (ent x.2.1 5 x.2.2.2) ∧ OS x.2.1 (l.length + x.1) x.2.2.1 1 x.2.2.2 ((l ++ (putN n q).take x.1).map bv)) (fun x => q - x.1) (0, a7, c7, full7) rfl ?_ ?_ ?_
    · exact ⟨rfl, rfl, trivial⟩
    · exact ⟨Nat.zero_le _, H, by simpa using O⟩
    · rintro ⟨i, a7, c7, full7⟩ j w ⟨hi, H, O⟩; dsimp only at hi H O; dsimp only
      refine W_seq ?_
      refine W_rseq ?_
      refine op_move rfl (.int _ _) rfl ?_
      refine op_move rfl (.int _ _) rfl ?_
      refine op_lss rfl rfl rfl ?_
      refine op_nil (at_then ?_)
      refine W_cond _ rfl ?_ ?_
      · intro h2
        replace h2 := dec_t h2
        refine W_skip (at_then ?_)
        refine W_seq ?_
        refine W_block ?_
        refine W_region ?_
        refine op_move rfl (.slice _ _ _) rfl ?_
        refine op_move rfl (.int _ _) rfl ?_
        refine op_move rfl (.int _ _) rfl ?_
        refine op_sub_i64 rfl rfl rfl (by omega) (by omega) ?_
        refine op_move rfl (.int _ _) rfl ?_
        refine op_sub_i64 rfl rfl rfl (by omega) (by omega) ?_
        refine op_mul_i64 rfl rfl rfl (by omega) (by omega) ?_
        rw [show (8 : Int) * ((q : Int) - 1 - (i : Int)) = ((8 * (q - 1 - i) : Nat) : Int) from by omega]
        refine op_conv_u64 rfl rfl un_3 un_34 (by omega) (by omega) ?_
        refine op_shr_u64 rfl rfl rfl (by omega) ?_
        refine op_convn_u8 rfl rfl un_22 un_5 ?_
        rw [ofNat_val]
        refine op_build1 _ (.int _ _) rfl el_23 sz_5 zc_5 rfl (by decide) (by decide) rfl rfl rfl H ?_
        rintro b31 w - H
        refine op_appendb (L := []) rfl el_23 el_23 sz_5 by_5 zc_5 rfl (by decide) rfl rfl H O rfl (by simp [oneCell, bv]) (by omega) ?_
        rintro a9 c9 full9 w H O
        refine op_assign rfl (.slice _ _ _) rfl ?_
        refine op_nil (at_block (at_then ?_))
        refine W_region ?_
        refine op_move rfl (.int _ _) rfl ?_
        refine op_add_i64 rfl rfl rfl (by omega) (by omega) ?_
        refine op_assign rfl (.int _ _) rfl ?_
        refine op_nil (at_then ?_)
        refine ⟨(i + 1, a9, c9, full9), rfl, ⟨rfl, rfl, trivial⟩, ⟨by omega, H, ?_⟩, by dsimp only; omega⟩
        dsimp only
        have O' : OS a9 (l.length + (i + 1)) c9 1 full9 ((l ++ (putN n q).take i).map bv ++ [UInt8.ofNat (n / 2 ^ (8 * (q - 1 - i)))].map bv) := O
        rw [← List.map_append, List.append_assoc, ← putN_snoc (by omega)] at O'
        exact O'
      · intro h2
        replace h2 := dec_f h2
        have hiq : i = q := by omega
        subst hiq
        refine W_exit (exit_then (exit_then (exit_here (at_then ?_))))
        refine W_rseq ?_
        refine op_move rfl (.slice _ _ _) rfl ?_
        refine op_assign rfl (.slice _ _ _) rfl ?_
        refine op_nil (at_then ?_)
        refine W_ret (leave1 (v := (.slice _ _ _)) rfl rfl rfl ?_)
        have hl : (putN n i).take i = putN n i := List.take_of_length_le (by rw [putN_len]; exact Nat.le_refl _)
        rw [hl] at O
        exact Ctx.fresh (L := []) H O

/-! ### Take -/
def numN (l : List UInt8) : Nat := l.foldl (fun n c => n * 256 + c.toNat) 0
theorem numN_snoc (l : List UInt8) (c : UInt8) : numN (l ++ [c]) = numN l * 256 + c.toNat := by simp [numN]
theorem numN_lt (l : List UInt8) : numN l < 256 ^ l.length := by
  have h : ∀ (l : List UInt8) (n k : Nat), n < 256 ^ k → l.foldl (fun n c => n * 256 + c.toNat) n < 256 ^ (k + l.length) := by
    intro l
    induction l with
    | nil => intro n k h; simpa using h
    | cons c l ih =>
      intro n k h
      have hc := lt_byte c
      have := ih (n * 256 + c.toNat) (k + 1) (by rw [Nat.pow_succ]; omega)
      simpa [Nat.add_assoc, Nat.add_comm 1] using this
  have := h l 0 0 (by simp)
  rw [Nat.zero_add] at this
  exact this
theorem num_step {l : List UInt8} {i : Nat} {c : UInt8} (h : l[i]? = some c) (hi : i < 8) : (numN (l.take i) * 2 ^ 8 % 18446744073709551616) ||| c.toNat = numN (l.take (i + 1)) := by
  have h1 := numN_lt (l.take i)
  have hc := lt_byte c
  have hlen : (l.take i).length ≤ 7 := by rw [List.length_take]; omega
  have h2 : 256 ^ (l.take i).length ≤ 256 ^ 7 := Nat.pow_le_pow_right (by omega) hlen
  have h3 : (256 : Nat) ^ 7 = 72057594037927936 := by decide
  rw [take_snoc h, numN_snoc, Nat.mod_eq_of_lt (by omega), Nat.mul_comm, ← Nat.two_pow_add_eq_or_of_lt (by omega)]
def takeE (l : List UInt8) (at' k : Int) : Int := bif sizeB k && (decide (0 ≤ at') && decide (at' ≤ l.length)) then (bif decide (k ≤ (l.length : Int) - at') then 0 else 5) else 1
def takeV (l : List UInt8) (at' k : Int) : Value := bif decide (takeE l at' k = 0) then .tuple #[.int .u64 (numN ((l.drop at'.toNat).take k.toNat) : Int), .int .i64 (at' + k), .int .i64 0] else .tuple #[.int .u64 0, .int .i64 0, .int .i64 (takeE l at' k)]

set_option maxHeartbeats 1000000 in
theorem otake_ok (a : Option Addr) (c m : Nat) (l : List UInt8) (at' k : Int) (w : World) (R : Rd w a 1 B8 l) (hml : l.length = m) (hm : m ≤ 9223372036854775799) (hc : l.length ≤ c) :
    Ret Tryd.prog 73 #[.slice a m c, .int .i64 at', .int .i64 k] w fun v w' => v = takeV l at' k ∧ Ext [] w w' := by
  subst hml
  obtain ⟨w0, rfl⟩ : ∃ w0, w0 = w := ⟨_, rfl⟩
  have H := Ctx.start w0 []
  refine ret_of_W (fn := Tryd.f73) Tryd.func73 rfl [.slice a l.length c, .int .i64 at', .int .i64 k] rfl (by kernel_rfl) ?_
  refine W_rseq ?_
  refine op_assign rfl (.int _ _) rfl ?_
  refine op_assign rfl (.int _ _) rfl ?_
  refine op_assign rfl (.int _ _) rfl ?_
  refine op_nil (at_then ?_)
  refine W_seq ?_
  refine W_block ?_
  refine W_seq ?_
  refine W_rseq ?_
  refine op_move rfl (.int _ _) rfl ?_
  refine op_call rfl ca_71 (oright_ok k _) rfl ?_
  rintro v w ⟨rfl, hx⟩
  replace H := H.call hx
  refine op_not rfl rfl ?_
  refine op_assign rfl (.bool _) rfl ?_
  refine op_nil (at_then ?_)
  refine W_csplit 11 rfl ?_ ?_
  · intro h1
    replace h1 := nvar_t h1
    have he : takeE l at' k = 1 := by unfold takeE; rw [h1]; rfl
    refine W_skip (at_then ?_)
    refine W_cond1 rfl ?_
    refine W_rseq ?_
    refine op_assign rfl (.int _ _) rfl ?_
    refine op_assign rfl (.int _ _) rfl ?_
    refine op_assign rfl (.int _ _) rfl ?_
    refine op_nil (at_then ?_)
    refine W_ret (ret_block (ret_then (leave3 (v1 := (.int _ _)) (v2 := (.int _ _)) (v3 := (.int _ _)) rfl rfl rfl rfl rfl ?_)))
    exact ⟨by rw [takeV, he]; rfl, H.ext⟩
  · intro h1
    replace h1 := nvar_f h1
    refine W_rseq ?_
    refine op_move rfl (.int _ _) rfl ?_
    refine op_lss rfl rfl rfl ?_
    refine op_assign rfl (.bool _) rfl ?_
    refine op_nil (at_then ?_)
    refine W_csplit 11 rfl ?_ ?_
    · intro h2
      replace h2 := dec_t h2
      have he : takeE l at' k = 1 := by unfold takeE; rw [decide_eq_false (show ¬ 0 ≤ at' by omega), Bool.false_and, Bool.and_false]; rfl
      refine W_skip (at_then ?_)
      refine W_cond1 rfl ?_
      refine W_rseq ?_
      refine op_assign rfl (.int _ _) rfl ?_
      refine op_assign rfl (.int _ _) rfl ?_
      refine op_assign rfl (.int _ _) rfl ?_
      refine op_nil (at_then ?_)
      refine W_ret (ret_block (ret_then (leave3 (v1 := (.int _ _)) (v2 := (.int _ _)) (v3 := (.int _ _)) rfl rfl rfl rfl rfl ?_)))
      exact ⟨by rw [takeV, he]; rfl, H.ext⟩
    · intro h2
      replace h2 := dec_f h2
      refine W_region ?_
      refine op_move rfl (.int _ _) rfl ?_
      refine op_move rfl (.slice _ _ _) rfl ?_
      refine op_len rfl el_23 rfl ?_
      refine op_gtr rfl rfl rfl ?_
      refine op_assign rfl (.bool _) rfl ?_
      refine op_nil (at_then ?_)
      refine W_csplit 11 rfl ?_ ?_
      · intro h3
        replace h3 := dec_t h3
        have he : takeE l at' k = 1 := by unfold takeE; rw [decide_eq_false (show ¬ at' ≤ (l.length : Int) by omega), Bool.and_false, Bool.and_false]; rfl
        refine W_rseq ?_
        refine op_assign rfl (.int _ _) rfl ?_
        refine op_assign rfl (.int _ _) rfl ?_
        refine op_assign rfl (.int _ _) rfl ?_
        refine op_nil (at_then ?_)
        refine W_ret (ret_block (ret_then (leave3 (v1 := (.int _ _)) (v2 := (.int _ _)) (v3 := (.int _ _)) rfl rfl rfl rfl rfl ?_)))
        exact ⟨by rw [takeV, he]; rfl, H.ext⟩
      · intro h3
        replace h3 := dec_f h3
        obtain ⟨q, rfl, hq1, hq8⟩ := size_num h1
        obtain ⟨o, rfl⟩ : ∃ o : Nat, at' = o := ⟨at'.toNat, by omega⟩
        have hE : takeE l (o : Int) (q : Int) = bif decide ((q : Int) ≤ (l.length : Int) - (o : Int)) then 0 else 5 := by
          unfold takeE; rw [h1, decide_eq_true (show (0 : Int) ≤ (o : Int) by omega), decide_eq_true (show (o : Int) ≤ (l.length : Int) by omega)]; rfl
        refine W_rseq ?_
        refine op_move rfl (.slice _ _ _) rfl ?_
        refine op_len rfl el_23 rfl ?_
        refine op_move rfl (.int _ _) rfl ?_
        refine op_sub_i64 rfl rfl rfl (by omega) (by omega) ?_
        refine op_move rfl (.int _ _) rfl ?_
        refine op_lss rfl rfl rfl ?_
        refine op_assign rfl (.bool _) rfl ?_
        refine op_nil (at_then ?_)
        refine W_cond _ rfl ?_ ?_
        · intro h4
          replace h4 := dec_t h4
          rw [decide_eq_false (by omega)] at hE
          refine W_rseq ?_
          refine op_assign rfl (.int _ _) rfl ?_
          refine op_assign rfl (.int _ _) rfl ?_
          refine op_assign rfl (.int _ _) rfl ?_
          refine op_nil (at_then ?_)
          refine W_ret (ret_block (ret_then (leave3 (v1 := (.int _ _)) (v2 := (.int _ _)) (v3 := (.int _ _)) rfl rfl rfl rfl rfl ?_)))
          exact ⟨by rw [takeV, hE]; rfl, H.ext⟩
        · intro h4
          replace h4 := dec_f h4
          rw [decide_eq_true (by omega)] at hE
          have R' := ((R.ext0 H.ext).cut o c hc).take q
          have hl : ((l.drop o).take q).length = q := by rw [List.length_take, List.length_drop]; omega
          refine W_skip (at_block (at_then ?_))
          refine W_rseq ?_
          refine op_move rfl (.int _ _) rfl ?_
          refine op_move rfl (.int _ _) rfl ?_
          refine op_add_i64 rfl rfl rfl (by omega) (by omega) ?_
          refine op_assign rfl (.int _ _) rfl ?_
          refine op_nil (at_then ?_)
          refine W_seq ?_
          refine W_rseq ?_
          refine op_move rfl (.slice _ _ _) rfl ?_
          refine op_move rfl (.int _ _) rfl ?_
          refine op_move rfl (.int _ _) rfl ?_
          refine op_slice_lohi rfl el_23 sz_5 rfl rfl rfl (by omega) (by omega) (by omega) ?_
          refine op_len rfl el_23 rfl ?_
          refine op_move rfl (.int _ _) rfl ?_
          refine op_nil (at_then ?_)
          refine W_block ?_
          rw [show ((o : Int) + (q : Int)).toNat - ((o : Int)).toNat = q by omega]
          refine W_loop 70300024702016 (α := Nat) (fun i => [(36, .int .i64 i), (6, .int .u64 (numN (((l.drop o).take q).take i) : Int))]) (fun i w' => i ≤ q ∧ w = w') (fun i => q - i) 0 rfl ?_ ?_ ?_
          · exact ⟨rfl, rfl, trivial⟩
          · exact ⟨Nat.zero_le _, rfl⟩
          · rintro i j _ ⟨hi, rfl⟩
            refine W_rseq ?_
            refine op_lss rfl rfl rfl ?_
            refine op_nil (at_then ?_)
            refine W_seq ?_
            refine W_cond _ rfl ?_ ?_
            · intro h5
              replace h5 := dec_t h5
              obtain ⟨x, hx⟩ := get_some (l := (l.drop o).take q) (i := i) (by omega)
              have hxb := lt_byte x
              have hlt := numN_lt (((l.drop o).take q).take (i + 1))
              have hst := num_step hx (by omega)
              refine W_skip (at_then ?_)
              refine W_seq ?_
              refine W_block ?_
              refine W_rseq ?_
              first | refine op_indexRd R' rfl el_23 sz_5 rfl rfl (by omega) (by omega) (by first | rfl | omega) ?_ | refine op_indexAddr rfl el_23 sz_5 rfl rfl (by omega) (by omega) ?_
              first | refine op_ldb rfl ag_5 rfl H (by first | exact at0 | exact at1 | exact at2 | exact at3 | exact at4 | exact at5 | exact at6 | exact at7 | exact at8 | exact at9) rfl ?_ | refine op_ld rfl ag_5 rfl (R'.one (f := bv) hx) ?_
              refine op_assign rfl (.int _ _) rfl ?_
              refine op_nil (at_then ?_)
              refine W_region ?_
              refine op_move rfl (.int _ _) rfl ?_
              refine op_shl_u64 (n := 8) rfl rfl rfl (by omega) ?_
              refine op_move rfl (.int _ _) rfl ?_
              refine op_conv_u64 rfl rfl un_5 un_22 (by omega) (by omega) ?_
              refine op_or_u64 rfl rfl rfl (Nat.mod_lt _ (by decide)) (by omega) ?_
              rw [hst]
              refine op_assign rfl (.int _ _) rfl ?_
              refine op_nil (at_block (at_then ?_))
              refine W_region ?_
              refine op_add_i64 rfl rfl rfl (by omega) (by omega) ?_
              refine op_move rfl (.int _ _) rfl ?_
              refine op_nil (at_then ?_)
              exact ⟨i + 1, rfl, ⟨rfl, rfl, trivial⟩, ⟨by omega, rfl⟩, by omega⟩
            · intro h5
              replace h5 := dec_f h5
              have hiq : i = q := by omega
              subst hiq
              rw [show ((l.drop o).take i).take i = (l.drop o).take i from List.take_of_length_le (by omega)]
              refine W_exit (exit_then (exit_then (exit_here (at_then ?_))))
              refine W_rseq ?_
              refine op_move rfl (.int _ _) rfl ?_
              refine op_move rfl (.int _ _) rfl ?_
              refine op_assign rfl (.int _ _) rfl ?_
              refine op_assign rfl (.int _ _) rfl ?_
              refine op_assign rfl (.int _ _) rfl ?_
              refine op_nil (at_then ?_)
              refine W_ret (leave3 (v1 := (.int _ _)) (v2 := (.int _ _)) (v3 := (.int _ _)) rfl rfl rfl rfl rfl ?_)
              exact ⟨by rw [takeV, hE]; rfl, H.ext⟩

end Go.Proofs.YtkmbcpgnafmnpaaDoor

/- Blocks that are sealed and opened. -/
namespace Go.Proofs.YtkmbcpgnafmnpaaDoor
open Go.GV
attribute [local irreducible] Wops W Wq

def allZ (l : List UInt8) : Bool := l.all fun b => b == 0

theorem trimb_ok (a : Option Addr) (c n : Nat) (l : List UInt8) (w : World) (R : Rd w a 1 B8 l) (hn : l.length = n) (hm : n ≤ 9223372036854775807) (hc : l.length ≤ c) :
    Ret Tryd.prog 98 #[.slice a n c, bv 0] w fun v w' => (∃ a' n' c', v = .slice a' n' c' ∧ decide (0 < n') = !allZ l ∧ n' ≤ n) ∧ w = w' := by
  subst hn
  refine ret_of_W (fn := Tryd.f98) Tryd.func98 rfl [.slice a l.length c, bv 0] rfl (by kernel_rfl) ?_
  refine W_rseq ?_
  refine op_assign rfl (.slice _ _ _) rfl ?_
  refine op_nil (at_then ?_)
  refine W_seq ?_
  refine W_block ?_
  refine W_loop 131041 (α := Nat × Option Addr × Nat) (fun x => [(0, .slice x.2.1 (l.length - x.1) x.2.2)]) (fun x w' => x.1 ≤ l.length ∧ Rd w x.2.1 1 B8 (l.drop x.1) ∧ l.length - x.1 ≤ x.2.2 ∧ allZ (l.take x.1) = true ∧ w = w') (fun x => l.length - x.1) (0, a, c) rfl ?_ ?_ ?_
  · exact ⟨rfl, trivial⟩
  · exact ⟨Nat.zero_le _, R, hc, rfl, rfl⟩
  · rintro ⟨k, a, c⟩ j _ ⟨hk, R, hc, hz, rfl⟩; dsimp only at hk R hc hz; dsimp only
    have hld : (l.drop k).length = l.length - k := List.length_drop
    refine W_seq ?_
    refine W_rseq ?_
    refine op_move rfl (.slice _ _ _) rfl ?_
    refine op_len rfl el_23 rfl ?_
    refine op_gtr rfl rfl rfl ?_
    refine op_move rfl (.bool _) rfl ?_
    refine Wops_split 8 rfl ?_ ?_
    · intro h1
      replace h1 := dec_t h1
      obtain ⟨x, hx⟩ := get_some (l := l.drop k) (i := 0) (by omega)
      have hxl : l[k]? = some x := by rw [List.getElem?_drop] at hx; simpa using hx
      refine op_move rfl (.slice _ _ _) rfl ?_
      refine op_indexRd R rfl el_23 sz_5 rfl rfl (by omega) (by omega) (by omega) ?_
      first | refine op_ldb rfl ag_5 rfl H (by first | exact at0 | exact at1 | exact at2 | exact at3 | exact at4 | exact at5 | exact at6 | exact at7 | exact at8 | exact at9) rfl ?_ | refine op_ld rfl ag_5 rfl (R.one (f := bv) hx) ?_
      refine op_move rfl (.int _ _) rfl ?_
      refine op_eql rfl rfl rfl ?_
      refine op_pick1 rfl rfl (.bool _) rfl ?_
      refine op_nil (at_then ?_)
      refine W_cond _ rfl ?_ ?_
      · intro h2
        replace h2 := dec_t h2
        have hx0 : x = 0 := by
          have : x.toNat = 0 := by simpa using h2
          exact UInt8.toNat_inj.1 this
        refine W_skip (at_then ?_)
        refine W_block ?_
        refine W_region ?_
        refine op_move rfl (.slice _ _ _) rfl ?_
        refine op_slice_lo rfl el_23 sz_5 rfl rfl (by omega) (by omega) ?_
        refine op_assign rfl (.slice _ _ _) rfl ?_
        refine op_nil (at_block (at_then ?_))
        refine ⟨(k + 1, cutA a c 1 1, c - 1), rfl, ⟨rfl, trivial⟩, ⟨by dsimp only; omega, ?_, by dsimp only; omega, ?_, rfl⟩, by dsimp only; omega⟩
        · dsimp only
          have := R.cut 1 c (by omega)
          rw [List.drop_drop] at this
          exact this
        · dsimp only
          rw [take_snoc hxl, allZ, List.all_append, hx0]
          have hz' : (l.take k).all (fun b => b == 0) = true := hz
          rw [hz']; rfl
      · intro h2
        replace h2 := dec_f h2
        have hx0 : ¬ x = 0 := by
          rintro rfl
          simp at h2
        have hnz : allZ l = false := by
          rw [Bool.eq_false_iff]; intro hall
          rw [allZ, List.all_eq_true] at hall
          have := hall x (List.mem_of_getElem? hxl)
          exact hx0 (by simpa using this)
        refine W_exit (exit_then (exit_then (exit_here (at_then ?_))))
        refine W_seq ?_
        refine W_rseq ?_
        refine op_move rfl (.slice _ _ _) rfl ?_
        refine op_len rfl el_23 rfl ?_
        refine op_eql rfl rfl rfl ?_
        refine op_nil (at_then ?_)
        refine W_cond _ rfl ?_ ?_
        · intro h3
          replace h3 := dec_t h3
          omega
        · intro h3
          replace h3 := dec_f h3
          refine W_skip (at_then ?_)
          refine W_rseq ?_
          refine op_move rfl (.slice _ _ _) rfl ?_
          refine op_assign rfl (.slice _ _ _) rfl ?_
          refine op_nil (at_then ?_)
          refine W_ret (leave1 (v := (.slice _ _ _)) rfl rfl rfl ?_)
          exact ⟨⟨_, _, _, rfl, by rw [hnz, decide_eq_true (by omega)]; rfl, by omega⟩, rfl⟩
    · intro h1
      replace h1 := dec_f h1
      have hke : k = l.length := by omega
      subst hke
      rw [List.take_length] at hz
      refine op_skip rfl ?_
      refine op_skip rfl ?_
      refine op_skip rfl ?_
      refine op_skip rfl ?_
      refine op_skip rfl ?_
      refine op_pick0 rfl rfl (.bool _) rfl ?_
      refine op_nil (at_then ?_)
      refine W_cond0 rfl ?_
      refine W_exit (exit_then (exit_then (exit_here (at_then ?_))))
      refine W_seq ?_
      refine W_rseq ?_
      refine op_move rfl (.slice _ _ _) rfl ?_
      refine op_len rfl el_23 rfl ?_
      refine op_eql rfl rfl rfl ?_
      refine op_nil (at_then ?_)
      refine W_cond _ rfl ?_ ?_
      · intro h3
        replace h3 := dec_t h3
        refine W_rseq ?_
        refine op_assign rfl (.slice _ _ _) rfl ?_
        refine op_nil (at_then ?_)
        refine W_ret (ret_then (leave1 (v := (.slice _ _ _)) rfl rfl rfl ?_))
        exact ⟨⟨_, _, _, rfl, by rw [hz]; rfl, by omega⟩, rfl⟩
      · intro h3
        replace h3 := dec_f h3
        omega

set_option maxRecDepth 20000 in
theorem trim_ok (a : Option Addr) (c n : Nat) (l : List UInt8) (w : World) (R : Rd w a 1 B8 l) (hn : l.length = n) (hm : n ≤ 9223372036854775807) (hc : l.length ≤ c) :
    Ret Tryd.prog 90 #[.slice a n c, str [0]] w fun v w' => (∃ a' n' c', v = .slice a' n' c' ∧ decide (0 < n') = !allZ l ∧ n' ≤ n) ∧ w = w' := by
  subst hn
  refine ret_of_W (fn := Tryd.f90) Tryd.func90 rfl [.slice a l.length c, str [0]] rfl (by kernel_rfl) ?_
  refine W_rseq ?_
  refine op_assign rfl (.slice _ _ _) rfl ?_
  refine op_nil (at_then ?_)
  refine W_seq ?_
  refine W_rseq ?_
  refine op_move rfl (.slice _ _ _) rfl ?_
  refine op_len rfl el_23 rfl ?_
  refine op_eql rfl rfl rfl ?_
  refine op_nil (at_then ?_)
  refine W_cond _ rfl ?_ ?_
  · intro h1
    replace h1 := dec_t h1
    have hl : l = [] := List.eq_nil_of_length_eq_zero (by omega)
    subst hl
    refine W_rseq ?_
    refine op_assign rfl (.slice _ _ _) rfl ?_
    refine op_nil (at_then ?_)
    refine W_ret (ret_then (leave1 (v := (.slice _ _ _)) rfl rfl rfl ?_))
    exact ⟨⟨_, _, _, rfl, rfl, Nat.le_refl _⟩, rfl⟩
  · intro h1
    replace h1 := dec_f h1
    refine W_skip (at_then ?_)
    refine W_seq ?_
    refine W_rseq ?_
    refine op_move rfl (.string _) rfl ?_
    refine op_streq (l := [0]) (m := []) rfl rfl rfl ?_
    refine op_nil (at_then ?_)
    refine W_cond0 rfl ?_
    refine W_skip (at_then ?_)
    refine W_seq ?_
    refine W_rseq ?_
    refine op_move rfl (.string _) rfl ?_
    refine op_slen (l := [0]) rfl un_9 rfl ?_
    refine op_eql rfl rfl rfl ?_
    refine op_move rfl (.bool _) rfl ?_
    refine op_move rfl (.string _) rfl ?_
    refine op_sindex (l := [0]) 0 rfl un_9 rfl rfl (by decide) rfl ?_
    refine op_lss rfl rfl rfl ?_
    refine op_pick1 rfl rfl (.bool _) rfl ?_
    refine op_nil (at_then ?_)
    refine W_cond1 rfl ?_
    refine W_rseq ?_
    refine op_move rfl (.slice _ _ _) rfl ?_
    refine op_move rfl (.string _) rfl ?_
    refine op_sindex (l := [0]) 0 rfl un_9 rfl rfl (by decide) rfl ?_
    refine op_call rfl ca_98 (trimb_ok a c l.length l w R rfl hm hc) rfl ?_
    rintro v w ⟨⟨a', n', c', rfl, hz, hle⟩, rfl⟩
    refine op_assign rfl (.slice _ _ _) rfl ?_
    refine op_nil (at_then ?_)
    refine W_ret (ret_then (leave1 (v := (.slice _ _ _)) rfl rfl rfl ?_))
    exact ⟨⟨_, _, _, rfl, hz, hle⟩, rfl⟩

end Go.Proofs.YtkmbcpgnafmnpaaDoor

/- Blocks that are sealed. -/
namespace Go.Proofs.YtkmbcpgnafmnpaaDoor
open Go.GV
attribute [local irreducible] Wops W Wq

def le4 (s : Nat) : List UInt8 := (List.range 4).map fun i => UInt8.ofNat (s / 2 ^ (8 * i))
def headB (k : UInt8) (l : List UInt8) : List UInt8 := k :: (putN l.length 2 ++ (l ++ List.replicate (505 - l.length) 0))
def sealB (k : UInt8) (l : List UInt8) : List UInt8 := headB k l ++ le4 (sumW (headB k l)).toNat
def sealE (k : UInt8) (l : List UInt8) : Int := bif decide (k.toNat = 0) then 1 else bif decide (505 < l.length) then 6 else 0
theorem head_len {k : UInt8} {l : List UInt8} (h : l.length ≤ 505) : (headB k l).length = 508 := by simp [headB, putN_len]; omega
theorem seal_len {k : UInt8} {l : List UInt8} (h : l.length ≤ 505) : (sealB k l).length = 512 := by simp [sealB, head_len h, le4]

/-- A slice of bytes that may be read. -/
structure Bytes (w w' : World) (v : Value) (l : List UInt8) : Prop where
  ex : ∃ a c, v = .slice a l.length c ∧ Rd w' a 1 B8 l ∧ l.length ≤ c ∧ w.heap.size ≤ (adr a).block
  ext : Ext [] w w'

def SealPost (k : UInt8) (l : List UInt8) (w : World) (v : Value) (w' : World) : Prop :=
  (sealE k l ≠ 0 ∧ v = .tuple #[.slice none 0 0, .int .i64 (sealE k l)] ∧ Ext [] w w') ∨
  (sealE k l = 0 ∧ ∃ s, v = .tuple #[s, .int .i64 0] ∧ Bytes w w' s (sealB k l))

theorem zeros_map (n : Nat) : List.replicate n (Value.int .u8 0) = (List.replicate n (0 : UInt8)).map bv := by rw [List.map_replicate]; rfl
theorem le4_take {s i : Nat} (h : i < 4) : (le4 s).take (i + 1) = (le4 s).take i ++ [UInt8.ofNat (s / 2 ^ (8 * i))] := take_snoc (range_get h)
theorem le4_map (s : Nat) : (le4 s).map bv = [bv (UInt8.ofNat s), bv (UInt8.ofNat (s / 2 ^ 8)), bv (UInt8.ofNat (s / 2 ^ 16)), bv (UInt8.ofNat (s / 2 ^ 24))] := by
  simp [le4, List.range, List.range.loop]
theorem le4_len (s : Nat) : (le4 s).length = 4 := by simp [le4]

theorem over_bytes (A B C M : List UInt8) (h : B.length = M.length) : over ((A ++ (B ++ C)).map bv) A.length (M.map bv) = (A ++ (M ++ C)).map bv := by
  have := over_mid (A.map bv) (B.map bv) (C.map bv) (M.map bv) (by simpa using h)
  simpa using this
theorem seal_copy1 (k : UInt8) (n : Nat) : over (List.replicate 512 (Value.int .u8 0)) 0 (((k :: putN n 2).map bv).take 512) = ((k :: putN n 2) ++ (List.replicate 509 0)).map bv := by
  rw [List.take_of_length_le (by simp [putN_len])]
  have h := over_bytes [] (List.replicate 3 0) (List.replicate 509 0) (k :: putN n 2) (by simp [putN_len])
  rw [List.nil_append, List.nil_append, List.replicate_append_replicate] at h
  rw [zeros_map]
  exact h
theorem seal_copy2 (k : UInt8) (l : List UInt8) (h : l.length ≤ 505) : over (((k :: putN l.length 2) ++ (List.replicate 509 0)).map bv) 3 ((l.map bv).take 509) = (headB k l ++ List.replicate 4 0).map bv := by
  rw [List.take_of_length_le (by simp; omega)]
  have h2 := over_bytes (k :: putN l.length 2) (List.replicate l.length 0) (List.replicate (509 - l.length) 0) l (by simp)
  rw [List.replicate_append_replicate, show l.length + (509 - l.length) = 509 by omega] at h2
  rw [show (k :: putN l.length 2).length = 3 by simp [putN_len]] at h2
  rw [h2, headB]
  have h3 : List.replicate (509 - l.length) (0 : UInt8) = List.replicate (505 - l.length) 0 ++ List.replicate 4 0 := by rw [List.replicate_append_replicate]; congr 1; omega
  rw [h3]; simp
theorem set_map (l : List UInt8) (i : Nat) (x : UInt8) : (l.map bv).set i (bv x) = (l.set i x).map bv := by rw [List.map_set]
theorem seal_set (A T : List UInt8) (i : Nat) (x : UInt8) (hA : A.length = 508) (hT : T.length = i) (hi : i < 4) : (A ++ (T ++ List.replicate (4 - i) 0)).set (508 + i) x = A ++ ((T ++ [x]) ++ List.replicate (4 - (i + 1)) 0) := by
  rw [List.set_append, if_neg (by omega), List.set_append, if_neg (by omega)]
  rw [show 508 + i - A.length - T.length = 0 by omega, show 4 - i = (4 - (i + 1)) + 1 by omega, List.replicate_succ]
  simp
theorem take_app508 {A B : List UInt8} (h : A.length = 508) : (A ++ B).take 508 = A := by rw [List.take_append_of_le_length (by omega), List.take_of_length_le (by omega)]

set_option maxRecDepth 20000 in
set_option maxHeartbeats 2000000 in
theorem seal_ok (k : UInt8) (a : Option Addr) (c n : Nat) (l : List UInt8) (w : World) (R : Rd w a 1 B8 l) (hn : l.length = n) (hm : n ≤ 9223372036854775807) :
    Ret Tryd.prog 47 #[bv k, .slice a n c] w fun v w' => SealPost k l w v w' := by
  subst hn
  obtain ⟨w0, rfl⟩ : ∃ w0, w0 = w := ⟨_, rfl⟩
  have H := Ctx.start w0 []
  have hkb := lt_byte k
  refine ret_of_W (fn := Tryd.f47) Tryd.func47 rfl [bv k, .slice a l.length c] rfl (by kernel_rfl) ?_
  refine W_rseq ?_
  refine op_assign rfl (.slice _ _ _) rfl ?_
  refine op_assign rfl (.int _ _) rfl ?_
  refine op_nil (at_then ?_)
  refine W_seq ?_
  refine W_block ?_
  refine W_rseq ?_
  refine op_move rfl (.int _ _) rfl ?_
  refine op_eql rfl rfl rfl ?_
  refine op_assign rfl (.bool _) rfl ?_
  refine op_nil (at_then ?_)
  refine W_cond _ rfl ?_ ?_
  · intro h1
    replace h1 := dec_t h1
    have he : sealE k l = 1 := by rw [sealE, decide_eq_true (show k.toNat = 0 by omega)]; rfl
    refine W_rseq ?_
    refine op_assign rfl (.slice _ _ _) rfl ?_
    refine op_assign rfl (.int _ _) rfl ?_
    refine op_nil (at_then ?_)
    refine W_ret (ret_block (ret_then (leave2 (v1 := (.slice _ _ _)) (v2 := (.int _ _)) rfl rfl rfl rfl ?_)))
    exact .inl ⟨by rw [he]; decide, by rw [he], H.ext⟩
  · intro h1
    replace h1 := dec_f h1
    refine W_rseq ?_
    refine op_move rfl (.slice _ _ _) rfl ?_
    refine op_len rfl el_23 rfl ?_
    refine op_gtr rfl rfl rfl ?_
    refine op_assign rfl (.bool _) rfl ?_
    refine op_nil (at_then ?_)
    refine W_cond _ rfl ?_ ?_
    · intro h2
      replace h2 := dec_t h2
      have he : sealE k l = 6 := by rw [sealE, decide_eq_false (show ¬ k.toNat = 0 by omega), decide_eq_true (show 505 < l.length by omega)]; rfl
      refine W_rseq ?_
      refine op_assign rfl (.slice _ _ _) rfl ?_
      refine op_assign rfl (.int _ _) rfl ?_
      refine op_nil (at_then ?_)
      refine W_ret (ret_block (ret_then (leave2 (v1 := (.slice _ _ _)) (v2 := (.int _ _)) rfl rfl rfl rfl ?_)))
      exact .inl ⟨by rw [he]; decide, by rw [he], H.ext⟩
    · intro h2
      replace h2 := dec_f h2
      have he : sealE k l = 0 := by rw [sealE, decide_eq_false (show ¬ k.toNat = 0 by omega), decide_eq_false (show ¬ 505 < l.length by omega)]; rfl
      refine W_skip (at_block (at_then ?_))
      refine W_rseq ?_
      refine op_alloc rfl zc_112 H ?_
      rintro b6 w - H
      refine op_nil (at_then ?_)
      refine W_sseqz [([0, 1, 3, 4, 5], 2), ([], 6), ([], 7)] (fun _ => True) 9999 mixed (by kernel_rfl) (trivial) ?_
      refine seg_cons rfl rfl ?_
      refine t_sliceA rfl ar_112 sz_5 rfl ?_
      refine t_move rfl (.int _ _) rfl ?_
      refine t_move rfl (.slice _ _ _) rfl ?_
      refine t_len rfl el_23 rfl ?_
      refine t_conv_u64 rfl rfl un_3 un_22 (by omega) (by omega) ?_
      refine t_nil ?_
      replace H := H.drew
      refine op_build1 [bv k] (bv k) rfl el_23 sz_5 zc_5 rfl (by decide) (by decide) rfl rfl rfl H ?_
      rintro b18 w - H
      have R18 : Rd w (some ⟨b18, 0, none⟩) 1 B8 [k] := Rd.of_bl (r := []) (H.get at0) rfl (fun x _ => rfl)
      refine op_nil (at_seg (trivial) ?_)
      refine seg_cons rfl rfl ?_
      refine t_nil ?_
      refine op_call rfl ca_48 (put_ok (some ⟨b18, 0, none⟩) 1 1 [k] l.length 2 _ R18 rfl (by omega) (by omega)) rfl ?_
      rintro v w F
      obtain ⟨a22, c22, rfl, R22, -⟩ := Fresh.rdB F
      replace H := H.call F.ext
      have hp : putB [k] l.length 2 = k :: putN l.length 2 := rfl
      rw [hp] at R22 ⊢
      refine op_nil (at_seg (trivial) ?_)
      refine seg_cons rfl rfl ?_
      refine t_nil ?_
      refine op_copy ((k :: putN l.length 2).map bv) rfl el_23 sz_5 rfl rfl (by simp [putN_len]) (bv_one _) (Rd.appB R22) H at1 (by simp) ?_
      rintro w H
      rw [seal_copy1] at H
      replace H : Ctx w0 [] w [(b6, Bl 112 (((k :: putN l.length 2) ++ (List.replicate 509 0)).map bv))] := H.tail
      refine op_nil (at_seg (trivial) ?_)
      refine seg_nil ?_
      refine W_rseq ?_
      refine op_sliceA_lo rfl ar_112 sz_5 rfl rfl (by omega) (by omega) ?_
      refine op_move rfl (.slice _ _ _) rfl ?_
      refine op_copy (l.map bv) rfl el_23 sz_5 rfl rfl (by simp) (bv_one _) (Rd.appB (R.ext0 H.ext)) H at0 (by simp [putN_len]) ?_
      rintro w H
      replace H : Ctx w0 [] w [(b6, Bl 112 (over (((k :: putN l.length 2) ++ (List.replicate 509 0)).map bv) 3 ((l.map bv).take 509)))] := H
      rw [seal_copy2 k l (by omega)] at H
      have hl508 := head_len (k := k) (l := l) (by omega)
      have R6 : Rd w (some ⟨b6, 0, none⟩) 1 B8 (headB k l ++ List.replicate 4 0) := rd_blB (H.get at0)
      have R8 := R6.take 508
      rw [take_app508 hl508] at R8
      refine op_nil (at_then ?_)
      refine W_rseq ?_
      refine op_sliceA_hi rfl ar_112 sz_5 rfl rfl (by omega) (by omega) ?_
      refine op_call rfl ca_70 (sum_ok (some ⟨b6, 0, none⟩) 512 508 (headB k l) _ R8 hl508 (by omega)) rfl ?_
      rintro v w ⟨rfl, rfl⟩
      refine op_assign rfl (.int _ _) rfl ?_
      refine op_nil (at_then ?_)
      refine W_seq ?_
      refine W_rseq ?_
      refine op_sliceA_lo rfl ar_112 sz_5 rfl rfl (by omega) (by omega) ?_
      refine op_len rfl el_23 rfl ?_
      refine op_move rfl (.int _ _) rfl ?_
      refine op_nil (at_then ?_)
      refine W_block ?_
      have hs := lt_word (sumW (headB k l))
      generalize hsv : (sumW (headB k l)).toNat = sv at hs
      refine W_loop 8793945538816 (α := Nat) (fun i => [(31, .int .i64 i)]) (fun i w' => i ≤ 4 ∧ Ctx w0 [] w' [(b6, Bl 112 ((headB k l ++ ((le4 sv).take i ++ List.replicate (4 - i) 0)).map bv))]) (fun i => 4 - i) 0 rfl ?_ ?_ ?_
      · exact ⟨rfl, trivial⟩
      · exact ⟨Nat.zero_le _, H⟩
      · rintro i j w ⟨hi, H⟩
        refine W_rseq ?_
        refine op_lss rfl rfl rfl ?_
        refine op_nil (at_then ?_)
        refine W_seq ?_
        refine W_cond _ rfl ?_ ?_
        · intro h3
          replace h3 := dec_t h3
          refine W_skip (at_then ?_)
          refine W_seq ?_
          refine W_block ?_
          refine W_rseq ?_
          refine op_move rfl (.int _ _) rfl ?_
          refine op_assign rfl (.int _ _) rfl ?_
          refine op_nil (at_then ?_)
          refine W_region ?_
          refine op_move rfl (.int _ _) rfl ?_
          refine op_add_i64 rfl rfl rfl (by omega) (by omega) ?_
          refine op_move rfl (.int _ _) rfl ?_
          refine op_move rfl (.int _ _) rfl ?_
          refine op_mul_i64 rfl rfl rfl (by omega) (by omega) ?_
          rw [show (8 : Int) * (i : Int) = ((8 * i : Nat) : Int) from by simp]
          refine op_shr_u32 rfl rfl rfl (by omega) ?_
          refine op_convn_u8 rfl rfl un_25 un_5 ?_
          rw [ofNat_val]
          refine op_indexArr rfl ar_112 sz_5 rfl rfl (by omega) (by omega) ?_
          refine op_stb (bv _) rfl sz_5 rfl rfl rfl H at0 (by simp [hl508, le4_len]; omega) ?_
          rintro w H
          rw [show 0 + ((508 : Int) + (i : Int)).toNat * 1 = 508 + i by omega, set_map, seal_set _ _ i _ hl508 (by rw [List.length_take, le4_len]; omega) (by omega), ← le4_take (by omega)] at H
          refine op_nil (at_block (at_then ?_))
          refine W_region ?_
          refine op_add_i64 rfl rfl rfl (by omega) (by omega) ?_
          refine op_move rfl (.int _ _) rfl ?_
          refine op_nil (at_then ?_)
          exact ⟨i + 1, rfl, ⟨rfl, trivial⟩, ⟨by omega, H⟩, by omega⟩
        · intro h3
          replace h3 := dec_f h3
          have hi4 : i = 4 := by omega
          subst hi4
          refine W_exit (exit_then (exit_then (exit_here (at_then ?_))))
          refine W_rseq ?_
          refine op_sliceA rfl ar_112 sz_5 rfl ?_
          refine op_assign rfl (.slice _ _ _) rfl ?_
          refine op_assign rfl (.int _ _) rfl ?_
          refine op_nil (at_then ?_)
          refine W_ret (leave2 (v1 := (.slice _ _ _)) (v2 := (.int _ _)) rfl rfl rfl rfl ?_)
          refine .inr ⟨he, _, rfl, ?_⟩
          have hfin : sealB k l = headB k l ++ ((le4 sv).take 4 ++ List.replicate (4 - 4) 0) := by
            rw [sealB, hsv, List.take_of_length_le (by rw [le4_len]; exact Nat.le_refl _)]; simp
          refine ⟨⟨some ⟨b6, 0, none⟩, 512, by rw [seal_len (by omega)], ?_, by rw [seal_len (by omega)]; exact Nat.le_refl _, (H.own _ (List.mem_cons_self ..)).elim (fun h => by cases h) id⟩, H.ext⟩
          rw [hfin]
          exact rd_blB (H.get at0)

def preB (k : UInt8) (l : List UInt8) (z : Nat) : List UInt8 := (k :: putN l.length 2) ++ (l ++ List.replicate z 0)
theorem pre_snoc (k : UInt8) (l : List UInt8) (z : Nat) : preB k l z ++ [0] = preB k l (z + 1) := by
  simp only [preB, List.append_assoc, List.replicate_succ', List.cons_append]
theorem pre_len (k : UInt8) (l : List UInt8) (z : Nat) : (preB k l z).length = 3 + l.length + z := by simp [preB, putN_len]; omega
theorem pre_head (k : UInt8) (l : List UInt8) : preB k l (505 - l.length) = headB k l := by simp [preB, headB]

set_option maxRecDepth 20000 in
set_option maxHeartbeats 2000000 in
theorem seal4_ok (k : UInt8) (a : Option Addr) (c n : Nat) (l : List UInt8) (w : World) (R : Rd w a 1 B8 l) (hn : l.length = n) (hm : n ≤ 9223372036854775807) :
    Ret Tryd.prog 56 #[bv k, .slice a n c] w fun v w' => (sealE k l ≠ 0 ∧ v = .tuple #[.slice none 0 0, .int .i64 (sealE k l)] ∧ Ext [] w w') ∨
      (sealE k l = 0 ∧ ∃ s, v = .tuple #[s, .int .i64 0] ∧ Fresh w w' 5 1 s ((sealB k l).map bv)) := by
  subst hn
  obtain ⟨w0, rfl⟩ : ∃ w0, w0 = w := ⟨_, rfl⟩
  have H := Ctx.start w0 []
  have hkb := lt_byte k
  refine ret_of_W (fn := Tryd.f56) Tryd.func56 rfl [bv k, .slice a l.length c] rfl (by kernel_rfl) ?_
  refine W_rseq ?_
  refine op_assign rfl (.slice _ _ _) rfl ?_
  refine op_assign rfl (.int _ _) rfl ?_
  refine op_nil (at_then ?_)
  refine W_seq ?_
  refine W_rseq ?_
  refine op_move rfl (.int _ _) rfl ?_
  refine op_eql rfl rfl rfl ?_
  refine op_nil (at_then ?_)
  refine W_cond _ rfl ?_ ?_
  · intro h1
    replace h1 := dec_t h1
    have he : sealE k l = 1 := by rw [sealE, decide_eq_true (show k.toNat = 0 by omega)]; rfl
    refine W_rseq ?_
    refine op_assign rfl (.slice _ _ _) rfl ?_
    refine op_assign rfl (.int _ _) rfl ?_
    refine op_nil (at_then ?_)
    refine W_ret (ret_then (leave2 (v1 := (.slice _ _ _)) (v2 := (.int _ _)) rfl rfl rfl rfl ?_))
    exact .inl ⟨by rw [he]; decide, by rw [he], H.ext⟩
  · intro h1
    replace h1 := dec_f h1
    refine W_skip (at_then ?_)
    refine W_seq ?_
    refine W_rseq ?_
    refine op_move rfl (.slice _ _ _) rfl ?_
    refine op_len rfl el_23 rfl ?_
    refine op_gtr rfl rfl rfl ?_
    refine op_nil (at_then ?_)
    refine W_cond _ rfl ?_ ?_
    · intro h2
      replace h2 := dec_t h2
      have he : sealE k l = 6 := by rw [sealE, decide_eq_false (show ¬ k.toNat = 0 by omega), decide_eq_true (show 505 < l.length by omega)]; rfl
      refine W_rseq ?_
      refine op_assign rfl (.slice _ _ _) rfl ?_
      refine op_assign rfl (.int _ _) rfl ?_
      refine op_nil (at_then ?_)
      refine W_ret (ret_then (leave2 (v1 := (.slice _ _ _)) (v2 := (.int _ _)) rfl rfl rfl rfl ?_))
      exact .inl ⟨by rw [he]; decide, by rw [he], H.ext⟩
    · intro h2
      replace h2 := dec_f h2
      have he : sealE k l = 0 := by rw [sealE, decide_eq_false (show ¬ k.toNat = 0 by omega), decide_eq_false (show ¬ 505 < l.length by omega)]; rfl
      refine W_skip (at_then ?_)
      refine W_rseq ?_
      refine op_move rfl (.int _ _) rfl ?_
      refine op_build1 [bv k] (bv k) rfl el_23 sz_5 zc_5 rfl (by decide) (by decide) rfl rfl rfl H ?_
      rintro b14 w - H
      have R14 : Rd w (some ⟨b14, 0, none⟩) 1 B8 [k] := rd_blB (xs := [k]) (H.get at0)
      refine op_move rfl (.slice _ _ _) rfl ?_
      refine op_len rfl el_23 rfl ?_
      refine op_conv_u64 rfl rfl un_3 un_22 (by omega) (by omega) ?_
      refine op_call rfl ca_75 (put1_ok (some ⟨b14, 0, none⟩) 1 1 [k] l.length 2 _ R14 rfl (by omega) (by omega)) rfl ?_
      rintro v w F
      obtain ⟨a18, n18, c18, full18, rfl, O, hb⟩ := F.ex
      have hn18 : n18 = 3 := (by have := OS.num O; simpa [putB, sizeB, putN_len] using this)
      subst hn18
      have hx := H.ext.trans F.ext
      replace H : Ctx w0 [] w (ent a18 5 full18) := ⟨hx, fun x hx => (hb x hx).1, ent_nd, fun x hx => .inr (Nat.le_trans H.size (hb x hx).2)⟩
      refine op_move rfl (.slice _ _ _) rfl ?_
      refine op_append (L := []) rfl el_23 el_23 sz_5 by_5 zc_5 rfl (by decide) (l.map bv) rfl rfl H O (by simp) (bv_one l) (Rd.appB (R.ext0 H.ext)) (by omega) ?_
      rintro a6 c6 full6 w H O
      refine op_assign rfl (.slice _ _ _) rfl ?_
      refine op_nil (at_then ?_)
      refine W_seq ?_
      refine W_block ?_
      replace O : OS a6 (3 + l.length + 0) c6 1 full6 ((preB k l 0).map bv) := by simpa [preB, putB, sizeB] using O
      refine W_loop 132120640 (α := Nat × Option Addr × Nat × List Value) (fun x => [(6, .slice x.2.1 (3 + l.length + x.1) x.2.2.1)]) (fun x w' => x.1 ≤ 505 - l.length ∧ Ctx w0 [] w' (ent x.2.1 5 x.2.2.2) ∧ OS x.2.1 (3 + l.length + x.1) x.2.2.1 1 x.2.2.2 ((preB k l x.1).map bv)) (fun x => 505 - l.length - x.1) (0, a6, c6, full6) rfl ?_ ?_ ?_
      · exact ⟨rfl, trivial⟩
      · exact ⟨Nat.zero_le _, H, O⟩
      · rintro ⟨z, a6, c6, full6⟩ j w ⟨hz, H, O⟩; dsimp only at hz H O; dsimp only
        refine W_seq ?_
        refine W_rseq ?_
        refine op_move rfl (.slice _ _ _) rfl ?_
        refine op_len rfl el_23 rfl ?_
        refine op_lss rfl rfl rfl ?_
        refine op_nil (at_then ?_)
        refine W_cond _ rfl ?_ ?_
        · intro h3
          replace h3 := dec_t h3
          refine W_skip (at_then ?_)
          refine W_block ?_
          refine W_region ?_
          refine op_move rfl (.slice _ _ _) rfl ?_
          refine op_build1 [bv 0] (bv 0) rfl el_23 sz_5 zc_5 rfl (by decide) (by decide) rfl rfl rfl H ?_
          rintro b25 w - H
          refine op_appendb (L := []) rfl el_23 el_23 sz_5 by_5 zc_5 rfl (by decide) rfl rfl H O rfl (bv_one [0]) (by omega) ?_
          rintro a9 c9 full9 w H O
          refine op_assign rfl (.slice _ _ _) rfl ?_
          refine op_nil (at_block (at_then ?_))
          refine ⟨(z + 1, a9, c9, full9), rfl, ⟨rfl, trivial⟩, ⟨by dsimp only; omega, H, ?_⟩, by dsimp only; omega⟩
          dsimp only
          have O' : OS a9 (3 + l.length + (z + 1)) c9 1 full9 ((preB k l z).map bv ++ [(0 : UInt8)].map bv) := O
          rw [← List.map_append, pre_snoc] at O'
          exact O'
        · intro h3
          replace h3 := dec_f h3
          have hze : z = 505 - l.length := by omega
          subst hze
          rw [pre_head] at O
          have hl508 := head_len (k := k) (l := l) (by omega)
          rw [show 3 + l.length + (505 - l.length) = 508 by omega] at O ⊢
          have R6 : Rd w a6 1 B8 (headB k l) := OS.rdB O (fun x hx => H.blk x hx)
          refine W_exit (exit_then (exit_then (exit_here (at_then ?_))))
          refine W_rseq ?_
          refine op_move rfl (.slice _ _ _) rfl ?_
          refine op_call rfl ca_76 (sum2_ok a6 c6 508 (headB k l) _ R6 hl508 (by omega)) rfl ?_
          rintro v w ⟨rfl, rfl⟩
          refine op_assign rfl (.int _ _) rfl ?_
          refine op_nil (at_then ?_)
          refine W_rseq ?_
          refine op_move rfl (.slice _ _ _) rfl ?_
          refine op_move rfl (.int _ _) rfl ?_
          refine op_convn_u8 rfl rfl un_25 un_5 ?_
          rw [ofNat_val]
          refine op_move rfl (.int _ _) rfl ?_
          refine op_shr_u32 (n := 8) rfl rfl rfl (by omega) ?_
          refine op_convn_u8 rfl rfl un_25 un_5 ?_
          rw [ofNat_val]
          refine op_move rfl (.int _ _) rfl ?_
          refine op_shr_u32 (n := 16) rfl rfl rfl (by omega) ?_
          refine op_convn_u8 rfl rfl un_25 un_5 ?_
          rw [ofNat_val]
          refine op_move rfl (.int _ _) rfl ?_
          refine op_shr_u32 (n := 24) rfl rfl rfl (by omega) ?_
          refine op_convn_u8 rfl rfl un_25 un_5 ?_
          rw [ofNat_val]
          refine op_buildL [bv (UInt8.ofNat (sumW (headB k l)).toNat), bv (UInt8.ofNat ((sumW (headB k l)).toNat / 2 ^ 8)), bv (UInt8.ofNat ((sumW (headB k l)).toNat / 2 ^ 16)), bv (UInt8.ofNat ((sumW (headB k l)).toNat / 2 ^ 24))] rfl el_23 sz_5 zc_5 (by decide) (by decide) (by kernel_rfl) H ?_
          rw [← le4_map]
          rintro b41 w - H
          refine op_appendb (L := []) rfl el_23 el_23 sz_5 by_5 zc_5 rfl (by decide) rfl rfl H O (by rw [List.length_map, le4_len]) (bv_one _) (by omega) ?_
          rintro a9 c9 full9 w H O
          refine op_assign rfl (.slice _ _ _) rfl ?_
          refine op_assign rfl (.int _ _) rfl ?_
          refine op_nil (at_then ?_)
          refine W_ret (leave2 (v1 := (.slice _ _ _)) (v2 := (.int _ _)) rfl rfl rfl rfl ?_)
          refine .inr ⟨he, _, rfl, ?_⟩
          rw [← List.map_append] at O
          exact Ctx.fresh (L := []) H O

end Go.Proofs.YtkmbcpgnafmnpaaDoor
