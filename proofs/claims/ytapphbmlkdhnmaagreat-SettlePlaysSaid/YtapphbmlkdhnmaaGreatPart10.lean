/- Part 10 of the proof. -/
import Derived.Test.YtapphbmlkdhnmaaGreatPart7
import Derived.Test.YtapphbmlkdhnmaaGreatPart6
import Derived.Test.YtapphbmlkdhnmaaGreatPart9
/- The same, of new blocks with what else is to be remembered of them (a capacity, what lies in it). It holds for every program. -/
namespace Go.GV
open Go

section
variable {P : Program} {r : Option Nat} {ops : List Oper} {Q : Exit → Env → World → Prop}
def updB {β : Type} (B : Nat → β) (i : Nat) (b : β) : Nat → β := fun j => if j = i then b else B j
theorem updB_same {β : Type} (B : Nat → β) (i : Nat) (b : β) : updB B i b i = b := if_pos rfl
theorem updB_ne {β : Type} {B : Nat → β} {i : Nat} {b : β} {j : Nat} (h : j ≠ i) : updB B i b j = B j := if_neg h
/-- What is done. -/
structure AIB {β : Type} (bk : β → Nat) (good : Nat → β → Prop) (n : Nat) (anc : Nat → List Nat) (d : Nat → Tmp) (val : Nat → (Nat → β) → Value) (obj : Nat → Option ((Nat → β) → Obj)) (e0 : Env) (w0 : World) (l : Nat → Prop) (e : Env) (w : World) (B : Nat → β) : Prop where
  ds : e.ds = e0.ds
  old : ∀ s, (∀ i, i < n → s ≠ d i) → e.g s = e0.g s
  slot : ∀ i, i < n → l i → e.g (d i) = val i B
  ext : Ext [] w0 w
  blk : ∀ i ob, i < n → l i → obj i = some ob → w.heap[bk (B i)]? = some (ob B) ∧ w0.heap.size ≤ bk (B i)
  ne : ∀ i j, i < n → j < n → i ≠ j → l i → l j → obj i ≠ none → obj j ≠ none → bk (B i) ≠ bk (B j)
  good : ∀ i, i < n → l i → good i (B i)
  cl : ∀ i, i < n → l i → ∀ j ∈ anc i, l j
/-- What one operation makes. -/
def AQB {β : Type} (bk : β → Nat) (good : Nat → β → Prop) (d : Nat → Tmp) (val : Nat → (Nat → β) → Value) (obj : Nat → Option ((Nat → β) → Obj)) (i : Nat) (e : Env) (w : World) (B : Nat → β) (e' : Env) (w' : World) : Prop :=
  ∃ b, good i b ∧ (∀ ob, obj i = some ob → w.heap.size ≤ bk b ∧ w'.heap[bk b]? = some (ob (updB B i b))) ∧ Ext [] w w' ∧ e' = put e (some (d i)) (val i (updB B i b))
theorem AIB.step {β : Type} {bk : β → Nat} {good : Nat → β → Prop} {n : Nat} {anc : Nat → List Nat} {d : Nat → Tmp} {val : Nat → (Nat → β) → Value} {obj : Nat → Option ((Nat → β) → Obj)} {e0 : Env} {w0 : World} {l : Nat → Prop} {e : Env} {w : World} {B : Nat → β} (A : AIB bk good n anc d val obj e0 w0 l e w B)
    (hd : ∀ i j, i < n → j < n → d i = d j → i = j) (hst : ∀ i k b B, i < n → k ≠ i → k ∉ anc i → val i (updB B k b) = val i B ∧ ∀ ob, obj i = some ob → ob (updB B k b) = ob B)
    {i : Nat} (hi : i < n) (hu : ¬ l i) (hanc : ∀ j ∈ anc i, l j) {e' : Env} {w' : World} (h : AQB bk good d val obj i e w B e' w') : ∃ B', AIB bk good n anc d val obj e0 w0 (fun j => j = i ∨ l j) e' w' B' := by
  obtain ⟨b, hgd, hob, hx, rfl⟩ := h
  have hsz := A.ext.size
  have hni : ∀ j, l j → j ≠ i := fun j hj h => hu (h ▸ hj)
  have hna : ∀ j, j < n → l j → i ∉ anc j := fun j hj hl h => hu (A.cl j hj hl i h)
  refine ⟨updB B i b, A.ds, fun s hs => ?_, fun j hj hl => ?_, A.ext.trans hx, fun j ob hj hl ho => ?_, fun j k hj hk hjk hlj hlk oj ok => ?_, fun j hj hl => ?_, fun j hj hl k hk => ?_⟩
  · rw [put_ne (hs i hi)]; exact A.old s hs
  · rcases hl with rfl | hl
    · exact put_same _ _ _
    · rw [put_ne fun h => hni j hl (hd _ _ hj hi h), A.slot j hj hl, (hst j i b B hj (Ne.symm (hni j hl)) (hna j hj hl)).1]
  · rcases hl with rfl | hl
    · obtain ⟨h1, h2⟩ := hob ob ho
      rw [updB_same]
      exact ⟨h2, by omega⟩
    · obtain ⟨h1, h2⟩ := A.blk j ob hj hl ho
      rw [updB_ne (hni j hl), (hst j i b B hj (Ne.symm (hni j hl)) (hna j hj hl)).2 ob ho]
      exact ⟨hx.to h1 (by simp), h2⟩
  · have hlt : ∀ m, m < n → l m → obj m ≠ none → ∀ ob, obj i = some ob → bk (B m) < bk b := fun m hm hl om ob ho => by
      cases hom : obj m with
      | none => exact absurd hom om
      | some o2 =>
        have := heap_lt (A.blk m o2 hm hl hom).1
        have := (hob ob ho).1
        omega
    rcases hlj with rfl | hlj
    · rcases hlk with rfl | hlk
      · exact absurd rfl hjk
      · rw [updB_same, updB_ne (hni k hlk)]
        cases hoj : obj j with
        | none => exact absurd hoj oj
        | some o2 => have := hlt k hk hlk ok o2 hoj; omega
    · rcases hlk with rfl | hlk
      · rw [updB_same, updB_ne (hni j hlj)]
        cases hok : obj k with
        | none => exact absurd hok ok
        | some o2 => have := hlt j hj hlj oj o2 hok; omega
      · rw [updB_ne (hni j hlj), updB_ne (hni k hlk)]
        exact A.ne j k hj hk hjk hlj hlk oj ok
  · rcases hl with rfl | hl
    · rw [updB_same]; exact hgd
    · rw [updB_ne (hni j hl)]; exact A.good j hj hl
  · rcases hl with rfl | hl
    · exact .inr (hanc k hk)
    · exact .inr (A.cl j hj hl k hk)
theorem W_allocsB {β : Type} [Inhabited β] (bk : β → Nat) (good : Nat → β → Prop) {id m n : Nat} {arr : Array Oper} {anc : Nat → List Nat} (d : Nat → Tmp) (val : Nat → (Nat → β) → Value) (obj : Nat → Option ((Nat → β) → Obj)) {e : Env} {w : World} (hm : P.follows .mixedOrders = true) (hsz : arr.size = n + 1) (hanc : ancB arr anc (n + 1) = true)
    (hlast : ∀ k, k < n → k ∈ anc n) (hd : ∀ i j, i < n → j < n → d i = d j → i = j) (hst : ∀ i k b B, i < n → k ≠ i → k ∉ anc i → val i (updB B k b) = val i B ∧ ∀ ob, obj i = some ob → ob (updB B k b) = ob B)
    (hop : ∀ i o e' w' B, i < n → arr[i]? = some o → (∀ s, (∀ j, j < n → s ≠ d j) → e'.g s = e.g s) → (∀ j ∈ anc i, e'.g (d j) = val j B) → Ext [] w.drew w' → (∀ j ∈ anc i, ∀ ob, obj j = some ob → w'.heap[bk (B j)]? = some (ob B)) → (∀ j ∈ anc i, good j (B j)) → Wops P r arr.toList (Qk (AQB bk good d val obj i e' w' B)) [o] e' w')
    (hfin : ∀ o e' w' B, arr[n]? = some o → AIB bk good n anc d val obj e w.drew (fun _ => True) e' w' B → Wops P r arr.toList (Qk fun e'' w'' => Q .normal e'' w'') [o] e' w') : W P r m (.region id arr true) Q e w := by
  have hspec := ancB_spec hanc
  have hall : ∀ {l : Array Bool}, (∀ i, i < n → l.getD i false = true → ∀ j ∈ anc i, l.getD j false = true) → ∀ i, i < n + 1 → i ∈ Region.ready .any arr l → ∀ k ∈ anc i, l.getD k false = true := fun {l} hcl i hi hr k hk => by
    rcases (hspec i hi).1 k hk with h | ⟨j, h1, h2⟩
    · exact ready_deps hr k h
    · exact hcl j (by have := (hspec i hi).2 j h1; omega) (ready_deps hr j h1) k h2
  have hset : ∀ {l : Array Bool} {i : Nat}, l.size = n + 1 → i < n + 1 → ∀ j, ((l.setIfInBounds i true).getD j false = true) = (j = i ∨ l.getD j false = true) := fun {l i} hl hi j => by
    apply propext
    by_cases e : j = i
    · subst e
      rw [Array.getD_eq_getD_getElem?, Array.getElem?_setIfInBounds_self_of_lt (by omega)]
      simp
    · rw [Array.getD_eq_getD_getElem?, Array.getElem?_setIfInBounds_ne (Ne.symm e), ← Array.getD_eq_getD_getElem?]
      simp [e]
  refine W_any (I := fun l e' w' => l.size = n + 1 ∧ ((l.getD n false = false ∧ ∃ B, AIB bk good n anc d val obj e w.drew (fun i => l.getD i false = true) e' w' B) ∨ ((∀ i, i < n + 1 → l.getD i false = true) ∧ Q .normal e' w'))) hm ?_ ?_ ?_
  · refine ⟨by simp [hsz], .inl ⟨by simp [Array.getD_eq_getD_getElem?, hsz], fun _ => default, rfl, fun _ _ => rfl, fun i _ h => ?_, .refl _ _, fun i _ _ h => ?_, fun i j _ _ _ h => ?_, fun i _ h => ?_, fun i _ h => ?_⟩⟩ <;>
      (exfalso; rw [getD_replicate_false] at h; cases h)
  · rintro l e' w' i o ⟨hls, h⟩ hr ho
    have hi : i < n + 1 := by have := (Array.getElem?_eq_some_iff.1 ho).1; omega
    have hun : ¬ l.getD i false = true := fun h => by
      have h1 := (mem_ready.1 hr).1
      rw [Array.getD_eq_getD_getElem?, Array.getElem?_eq_getElem (by omega)] at h h1
      simp at h h1
      rw [h] at h1; cases h1
    rcases h with ⟨hn, B, A⟩ | ⟨hn, _⟩
    · have ha := hall A.cl i hi hr
      by_cases e1 : i = n
      · subst e1
        refine Wops_mono ?_ _ _ _ (hfin o e' w' B ho ⟨A.ds, A.old, fun j hj _ => A.slot j hj (ha j (hlast j hj)), A.ext, fun j ob hj _ => A.blk j ob hj (ha j (hlast j hj)), fun j k hj hk hjk _ _ => A.ne j k hj hk hjk (ha j (hlast j hj)) (ha k (hlast k hk)), fun j hj _ => A.good j hj (ha j (hlast j hj)), fun _ _ _ _ _ => trivial⟩)
        intro x e2 w2 hq
        cases x with
        | normal => exact ⟨by simp [hls], .inr ⟨fun j hj => by
            rw [hset hls hi]
            by_cases hji : j = i
            · exact .inl hji
            · exact .inr (ha j (hlast j (by omega))), hq⟩⟩
        | exit id => exact hq.elim
        | goto l => exact hq.elim
        | ret => exact hq.elim
        | panic c => exact hq.elim
        | outgrown => exact hq.elim
      · have hin : i < n := by omega
        refine Wops_mono ?_ _ _ _ (hop i o e' w' B hin ho A.old (fun j hj => ?_) A.ext (fun j hj ob hob => ?_) fun j hj => A.good j (Nat.lt_trans (ancB_lt hanc i hi j hj) hin) (ha j hj))
        · intro x e2 w2 hq
          cases x with
          | normal =>
            obtain ⟨B', A'⟩ := A.step hd hst hin hun ha hq
            refine ⟨by simp [hls], .inl ⟨?_, B', ?_⟩⟩
            · cases hc : (l.setIfInBounds i true).getD n false with
              | false => rfl
              | true =>
                rw [hset hls hi] at hc
                rcases hc with h | h
                · exact absurd h.symm e1
                · rw [hn] at h; cases h
            · have hf : (fun j => (l.setIfInBounds i true).getD j false = true) = fun j => j = i ∨ l.getD j false = true := funext fun j => hset hls hi j
              rw [hf]; exact A'
          | exit id => exact hq.elim
          | goto l => exact hq.elim
          | ret => exact hq.elim
          | panic c => exact hq.elim
          | outgrown => exact hq.elim
        · exact A.slot j (Nat.lt_trans (by
            rcases (hspec i hi).1 j hj with h | ⟨k, h1, h2⟩
            · exact (hspec i hi).2 j h
            · have h3 := (hspec i hi).2 k h1
              exact Nat.lt_of_lt_of_le (show j < k from ancB_lt hanc k (by omega) j h2) (by omega)) hin) (ha j hj)
        · exact (A.blk j ob (Nat.lt_trans (ancB_lt hanc i hi j hj) hin) (ha j hj) hob).1
    · exact absurd (hn i hi) hun
  · rintro l e' w' ⟨hls, h⟩ hr
    rcases h with ⟨hn, B, A⟩ | ⟨_, h⟩
    · exfalso
      have hal : ∀ i, i < n + 1 → l.getD i false = true := fun i => by
        induction i using Nat.strongRecOn with
        | _ i ih =>
          intro hi
          cases hc : l.getD i false with
          | true => rfl
          | false =>
            have hu : l.getD i true = false := by
              rw [Array.getD_eq_getD_getElem?, Array.getElem?_eq_getElem (by omega)] at hc ⊢
              simpa using hc
            have := ready_of (arr := arr) (l := l) (i := i) (by omega) hu fun j hj => ih j ((hspec i hi).2 j hj) (by have := (hspec i hi).2 j hj; omega)
            rw [hr] at this
            cases this
      rw [hal n (by omega)] at hn
      cases hn
    · exact h
end
end Go.GV

/- append onto slices without room. It holds for every program. -/
namespace Go.GV
open Go

section
variable {P : Program} {r : Option Nat} {ops rest : List Oper} {Q : Exit → Env → World → Prop} {e : Env} {w w0 : World} {S : List Nat} {L : List (Nat × Obj)}
  {dst : Option Tmp} {ty : TypeId} {pos : String} {af : Array Edge} {g : Option (Nat × Bool)}
/-- append onto a slice without room: a new block. -/
theorem run_append0 {t t2 el el2 ty : TypeId} {s by' : Nat} {zl : List Value} (hu : elemT P t = some el) (hu2 : elemT P t2 = some el2) (hs : tsize P el = some s) (hby : tbytes P el = some by') (hz : zcells P el = some zl) (hzl : zl.length = s) (hpos : 0 < by')
    {a a2 : Option Addr} {m c2 : Nat} {new : List Value} (hm : 0 < m) (hn : new.length = m * s) (hc : ∀ j v, new[j]? = some v → ∃ p, a2 = some p ∧ w.cell? (p.add j) = some v) (hbound : (2 * m + 768) * by' ≤ 281474976710656) :
    ∃ cap full', (Builtin.append_ #[t, t2] ty #[.slice a 0 0, .slice a2 m c2]).run P w = .ok (.slice (some ⟨w.heap.size, 0, none⟩) m cap) (w.drew.alloc (Bl el full')) ∧ OS (some ⟨w.heap.size, 0, none⟩) m cap s full' new := by
  have hfit' : 0 < 0 + m := by omega
  have hncap := nextcap_le (0 + m) 0 hfit'
  have hbig : Builtin.nextslicecap (0 + m) 0 * by' ≤ (2 * (0 + m) + 768) * by' := Nat.mul_le_mul_right _ hncap
  rw [Nat.zero_add] at hbig
  have hnm : m ≤ 281474976710656 := by
    have h1 : (2 * m + 768) * 1 ≤ (2 * m + 768) * by' := Nat.mul_le_mul_left _ hpos
    omega
  generalize hq : (Question.appendCap m 0 el).cut (w.tape w.drawn (Question.appendCap m 0 el)) = cap
  have hcap : m ≤ cap := by rw [← hq]; unfold Question.cut; exact Nat.le_add_right _ _
  obtain ⟨zv, hzr, hzc⟩ := run_zero (P := P) hz w.drew
  have hzs : zv.cells.size = s := by rw [← hzl, ← hzc]; simp
  let full' := new ++ (Builtin.zeroCells zv.cells (cap - m)).toList
  refine ⟨cap, full', ?_, ⟨(fun q hq => by injection hq with hq; subst hq; rfl), (fun h => by cases h), ?_, hcap, ?_⟩⟩
  · have hforced : (Question.appendCap m 0 el).forced = false := rfl
    have hby2 : ∃ i, P.info? el = some i ∧ i.bytes = by' := by
      unfold tbytes at hby
      cases hi : P.info? el with
      | none => rw [hi] at hby; cases hby
      | some i => rw [hi] at hby; simp at hby; exact ⟨i, rfl, hby⟩
    obtain ⟨i, hi, hib⟩ := hby2
    have hti : ∀ w, (typeInfo el).run P w = .ok i w := fun w => by simp [typeInfo, program, Sem.run, hi]
    have hold' : (Builtin.firstCells s 0 (.slice a 0 0)).run P w.drew = .ok #[] w.drew := run_firstCells (l := []) (by simp) (fun j v hv => by simp at hv)
    have hfc' : (Builtin.firstCells s m (.slice a2 m c2)).run P w.drew = .ok new.toArray w.drew := run_firstCells hn hc
    have hroom : ∀ k w, (askRoom k).run P w = .ok () w := fun k w => by unfold askRoom; split <;> rfl
    have hby0 : ¬ by' = 0 := by omega
    have hm0 : ¬ m = 0 := by omega
    have hb3 : ¬ 281474976710656 < Builtin.nextslicecap m 0 * by' := by omega
    have hnn : (Builtin.append_ #[t, t2] ty #[.slice a 0 0, .slice a2 m c2]).run P w = .ok (.slice (some ⟨w.drew.heap.size, 0, none⟩) m cap) (w.drew.alloc (.cells (new.toArray ++ Builtin.zeroCells zv.cells (cap - m)) el)) := by
      simp [Builtin.append_, run_under (elemT_u hu), run_under (elemT_u hu2), run_size hs, Builtin.lenOf, hfc', hold', hm0, hti, hib, hb3, hby0, hforced, hq, hroom, hzr, newRow, newObj, Sem.run]
    rw [hnn]
    have harr : new.toArray ++ Builtin.zeroCells zv.cells (cap - m) = full'.toArray := by
      apply Array.ext'; simp [full']
    rw [harr]
    rfl
  · show (new ++ (Builtin.zeroCells zv.cells (cap - m)).toList).length = cap * s
    rw [List.length_append, hn, Array.length_toList, zeroCells_length, hzs, ← Nat.add_mul]
    congr 1
    omega
  · show (new ++ (Builtin.zeroCells zv.cells (cap - m)).toList).take (m * s) = new
    rw [List.take_left' hn]
theorem op_append0 {t t2 el el2 : TypeId} {x y : Operand} {s by' : Nat} {zl : List Value} (hg : wants ⟨dst, .call ⟨.builtin .append, #[x, y], #[t, t2]⟩, ty, pos, af, g⟩ ops e = true)
    (hu : elemT P t = some el) (hu2 : elemT P t2 = some el2) (hs : tsize P el = some s) (hby : tbytes P el = some by') (hz : zcells P el = some zl) (hzl : zl.length = s) (hpos : 0 < by')
    {a a2 : Option Addr} {m c2 : Nat} (new : List Value) (hx : ev e x = .slice a 0 0) (hy : ev e y = .slice a2 m c2) (hm : 0 < m) (hn : new.length = m * s) (hc : ∀ j v, new[j]? = some v → ∃ p, a2 = some p ∧ w.cell? (p.add j) = some v) (hbound : (2 * m + 768) * by' ≤ 281474976710656)
    (h : ∀ b c' full' w', b = w.heap.size → Ext [] w w' → w'.heap[b]? = some (Bl el full') → OS (some ⟨b, 0, none⟩) m c' s full' new → Wops P r ops Q rest (put e dst (.slice (some ⟨b, 0, none⟩) m c')) w') :
    Wops P r ops Q (⟨dst, .call ⟨.builtin .append, #[x, y], #[t, t2]⟩, ty, pos, af, g⟩ :: rest) e w := by
  obtain ⟨c', full', hr, O'⟩ := run_append0 (ty := ty) hu hu2 hs hby hz hzl hpos hm hn hc hbound (c2 := c2) (a := a)
  refine op_val (w' := w.drew.alloc (Bl el full')) (v := .slice (some ⟨w.heap.size, 0, none⟩) m c') hg rfl (by simp [execOp, resolve, invoke, builtin, hx, hy, hr]) (h _ c' full' _ rfl ((Ext.drew [] w).trans (Ext.alloc [] w.drew _)) ?_ O')
  exact World.alloc_heap_new w.drew _
theorem op_append00 {t t2 el el2 : TypeId} {x y : Operand} {s : Nat} (hg : wants ⟨dst, .call ⟨.builtin .append, #[x, y], #[t, t2]⟩, ty, pos, af, g⟩ ops e = true)
    (hu : elemT P t = some el) (hu2 : elemT P t2 = some el2) (hs : tsize P el = some s) {b : Nat} {a2 : Option Addr} {c2 : Nat} (hx : ev e x = .slice (some ⟨b, 0, none⟩) 0 0) (hy : ev e y = .slice a2 0 c2)
    (h : Wops P r ops Q rest (put e dst (.slice (some ⟨b, 0, none⟩) 0 0)) w) :
    Wops P r ops Q (⟨dst, .call ⟨.builtin .append, #[x, y], #[t, t2]⟩, ty, pos, af, g⟩ :: rest) e w := by
  have hfc : (Builtin.firstCells s 0 (.slice a2 0 c2)).run P w = .ok #[] w := run_firstCells (l := []) (by simp) (fun j v hv => by simp at hv)
  exact op_val hg rfl (by simp [execOp, resolve, invoke, builtin, hx, hy, Builtin.append_, run_under (elemT_u hu), run_under (elemT_u hu2), run_size hs, Builtin.lenOf, hfc, storeCells]) h
end
end Go.GV

/- How many bits; the solver's beginning. -/
namespace Go.Proofs.YtapphbmlkdhnmaaGreat
open Go.GV
theorem un_24_SeX : Tryz.prog.underlying 24 = some (.int .u64) := by kernel_rfl
theorem un_3_SeX : Tryz.prog.underlying 3 = some (.int .i64) := by kernel_rfl
theorem un_5_SeX : Tryz.prog.underlying 5 = some (.int .u8) := by kernel_rfl
theorem un_9_SeX : Tryz.prog.underlying 9 = some (.string) := by kernel_rfl
attribute [local irreducible] Wops W Wq Wt

def lenTab : List UInt8 := [0] ++ List.replicate 1 1 ++ List.replicate 2 2 ++ List.replicate 4 3 ++ List.replicate 8 4 ++ List.replicate 16 5 ++ List.replicate 32 6 ++ List.replicate 64 7 ++ List.replicate 128 8
theorem lenTab_at : ∀ i, i < 256 → ∃ b : UInt8, lenTab[i]? = some b ∧ i < 2 ^ b.toNat ∧ b.toNat ≤ 8 ∧ (0 < i → 2 ^ b.toNat ≤ 2 * i) := fun i hi => by
  have h : (List.range 256).all (fun i => match lenTab[i]? with | some b => decide (i < 2 ^ b.toNat) && (decide (b.toNat ≤ 8) && (decide (i = 0) || decide (2 ^ b.toNat ≤ 2 * i))) | none => false) = true := by kernel_rfl
  have h1 := List.all_eq_true.1 h i (List.mem_range.2 hi)
  cases hb : lenTab[i]? with
  | none => rw [hb] at h1; cases h1
  | some b =>
    rw [hb] at h1
    simp only [Bool.and_eq_true, Bool.or_eq_true, decide_eq_true_eq] at h1
    exact ⟨b, rfl, h1.1, h1.2.1, fun h => h1.2.2.resolve_left (by omega)⟩
theorem shr_lt {x k n : Nat} (h : x / 2 ^ k < 2 ^ n) : x < 2 ^ (n + k) := by
  rw [Nat.pow_add]
  exact (Nat.div_lt_iff_lt_mul (Nat.two_pow_pos k)).1 h

theorem shr_ge {x k n : Nat} (h : 2 ^ n ≤ 2 * (x / 2 ^ k)) : 2 ^ (n + k) ≤ 2 * x := by
  rw [Nat.pow_add]
  have h1 : 2 ^ n * 2 ^ k ≤ 2 * (x / 2 ^ k) * 2 ^ k := Nat.mul_le_mul_right _ h
  have h2 : x / 2 ^ k * 2 ^ k ≤ x := Nat.div_mul_le_self x _
  rw [Nat.mul_assoc] at h1
  omega

set_option maxRecDepth 20000 in
theorem len64_ok (x : Nat) (hx : x ≤ 4503599627370496) (w : World) : Ret Tryz.prog 118 #[.int .u64 (x : Int)] w fun v w' => ∃ r : Nat, v = .int .i64 (r : Int) ∧ x < 2 ^ r ∧ r ≤ 64 ∧ (0 < x → 2 ^ r ≤ 2 * x) ∧ w = w' := by
  obtain ⟨w0, rfl⟩ : ∃ w0, w0 = w := ⟨_, rfl⟩
  have H := Ctx.start w0 []
  refine ret_of_W (fn := Tryz.f118) Tryz.func118 rfl [.int .u64 (x : Int)] rfl (by kernel_rfl) ?_
  refine W_rseq ?_
  refine op_assign rfl (.int _ _) rfl ?_
  refine op_nil (at_then ?_)
  refine W_seq ?_
  refine W_rseq ?_
  refine op_move rfl (.int _ _) rfl ?_
  refine op_geq rfl rfl rfl ?_
  refine op_nil (at_then ?_)
  refine W_joinK 101 (α := Nat × Nat) (fun z => [(0, .int .u64 (z.1 : Int)), (2, .int .i64 (z.2 : Int))]) (fun z w' => w0 = w' ∧ (∀ k, z.1 < 2 ^ k → x < 2 ^ (k + z.2)) ∧ (∀ k, 2 ^ k ≤ 2 * z.1 → 2 ^ (k + z.2) ≤ 2 * x) ∧ (0 < x → 0 < z.1) ∧ z.1 < 4294967296 ∧ z.2 ≤ 32) rfl ?_ ?_
  · skip
    refine W_cond _ rfl ?_ ?_
    · intro h
      replace h := dec_t h
      refine W_rseq ?_
      refine op_move rfl (.int _ _) rfl ?_
      refine op_shr_u64 (n := 32) rfl rfl rfl (by omega) ?_
      refine op_assign rfl (.int _ _) rfl ?_
      refine op_nil (at_then ?_)
      refine W_region ?_
      refine op_assign rfl (.int _ _) rfl ?_
      refine op_nil (at_then ?_)
      exact ⟨(x / 2 ^ 32, 32), rfl, ⟨rfl, rfl, trivial⟩, rfl, fun k hk => shr_lt hk, fun k hk => shr_ge hk, fun _ => by dsimp only; omega, by dsimp only; omega, by dsimp only; omega⟩
    · intro h
      replace h := dec_f h
      refine W_skip (at_then ?_)
      exact ⟨(x, 0), rfl, ⟨rfl, rfl, trivial⟩, rfl, fun k hk => hk, fun k hk => hk, fun h => h, by dsimp only; omega, by dsimp only; omega⟩
  · rintro ⟨y, n⟩ j w ⟨rfl, hk, hg, h0, hy, hn⟩; dsimp only at hk hg h0 hy hn; dsimp only
    refine W_seq ?_
    refine W_rseq ?_
    refine op_move rfl (.int _ _) rfl ?_
    refine op_geq rfl rfl rfl ?_
    refine op_nil (at_then ?_)
    refine W_joinK 7685 (α := Nat × Nat) (fun z => [(0, .int .u64 (z.1 : Int)), (2, .int .i64 (z.2 : Int))]) (fun z w' => w0 = w' ∧ (∀ k, z.1 < 2 ^ k → x < 2 ^ (k + z.2)) ∧ (∀ k, 2 ^ k ≤ 2 * z.1 → 2 ^ (k + z.2) ≤ 2 * x) ∧ (0 < x → 0 < z.1) ∧ z.1 < 65536 ∧ z.2 ≤ 48) rfl ?_ ?_
    · skip
      refine W_cond _ rfl ?_ ?_
      · intro h
        replace h := dec_t h
        refine W_rseq ?_
        refine op_move rfl (.int _ _) rfl ?_
        refine op_shr_u64 (n := 16) rfl rfl rfl (by omega) ?_
        refine op_assign rfl (.int _ _) rfl ?_
        refine op_nil (at_then ?_)
        refine W_region ?_
        refine op_move rfl (.int _ _) rfl ?_
        refine op_add_i64 rfl rfl rfl (by omega) (by omega) ?_
        refine op_assign rfl (.int _ _) rfl ?_
        refine op_nil (at_then ?_)
        exact ⟨(y / 2 ^ 16, n + 16), rfl, ⟨rfl, rfl, trivial⟩, rfl, fun k h7 => by have := hk _ (shr_lt h7); rw [show k + (n + 16) = k + 16 + n by omega]; exact this, (fun k h7 => by have := hg _ (shr_ge h7); rw [show k + (n + 16) = k + 16 + n by omega]; exact this), fun _ => by dsimp only; omega, by dsimp only; omega, by dsimp only; omega⟩
      · intro h
        replace h := dec_f h
        refine W_skip (at_then ?_)
        exact ⟨(y, n), rfl, ⟨rfl, rfl, trivial⟩, rfl, hk, hg, h0, by dsimp only; omega, by dsimp only; omega⟩
    · rintro ⟨y, n⟩ j2 w ⟨rfl, hk, hg, h0, hy, hn⟩; dsimp only at hk hg h0 hy hn; dsimp only
      refine W_seq ?_
      refine W_rseq ?_
      refine op_move rfl (.int _ _) rfl ?_
      refine op_geq rfl rfl rfl ?_
      refine op_nil (at_then ?_)
      refine W_joinK 491525 (α := Nat × Nat) (fun z => [(0, .int .u64 (z.1 : Int)), (2, .int .i64 (z.2 : Int))]) (fun z w' => w0 = w' ∧ (∀ k, z.1 < 2 ^ k → x < 2 ^ (k + z.2)) ∧ (∀ k, 2 ^ k ≤ 2 * z.1 → 2 ^ (k + z.2) ≤ 2 * x) ∧ (0 < x → 0 < z.1) ∧ z.1 < 256 ∧ z.2 ≤ 56) rfl ?_ ?_
      · skip
        refine W_cond _ rfl ?_ ?_
        · intro h
          replace h := dec_t h
          refine W_rseq ?_
          refine op_move rfl (.int _ _) rfl ?_
          refine op_shr_u64 (n := 8) rfl rfl rfl (by omega) ?_
          refine op_assign rfl (.int _ _) rfl ?_
          refine op_nil (at_then ?_)
          refine W_region ?_
          refine op_move rfl (.int _ _) rfl ?_
          refine op_add_i64 rfl rfl rfl (by omega) (by omega) ?_
          refine op_assign rfl (.int _ _) rfl ?_
          refine op_nil (at_then ?_)
          exact ⟨(y / 2 ^ 8, n + 8), rfl, ⟨rfl, rfl, trivial⟩, rfl, fun k h7 => by have := hk _ (shr_lt h7); rw [show k + (n + 8) = k + 8 + n by omega]; exact this, (fun k h7 => by have := hg _ (shr_ge h7); rw [show k + (n + 8) = k + 8 + n by omega]; exact this), fun _ => by dsimp only; omega, by dsimp only; omega, by dsimp only; omega⟩
        · intro h
          replace h := dec_f h
          refine W_skip (at_then ?_)
          exact ⟨(y, n), rfl, ⟨rfl, rfl, trivial⟩, rfl, hk, hg, h0, by dsimp only; omega, by dsimp only; omega⟩
      · rintro ⟨y, n⟩ j3 w ⟨rfl, hk, hg, h0, hy, hn⟩; dsimp only at hk hg h0 hy hn; dsimp only
        obtain ⟨b, hb, hb1, hb2, hb3⟩ := lenTab_at y hy
        have hb0 : (bv b) = .int .u8 ((b.toNat : Nat) : Int) := rfl
        refine W_rseq ?_
        refine op_move rfl (.int _ _) rfl ?_
        refine op_move rfl (.int _ _) rfl ?_
        refine op_conv_u8 rfl rfl un_24_SeX un_5_SeX (by omega) (by omega) ?_
        refine op_sindex (l := lenTab) b rfl un_9_SeX (by kernel_rfl) rfl (by omega) hb ?_
        rw [hb0]
        refine op_conv_i64 rfl rfl un_5_SeX un_3_SeX (by omega) (by omega) ?_
        refine op_add_i64 rfl rfl rfl (by omega) (by omega) ?_
        refine op_assign rfl (.int _ _) rfl ?_
        refine op_nil (at_then ?_)
        refine W_ret (leave1 (v := (.int _ _)) rfl rfl rfl ?_)
        refine ⟨n + b.toNat, congrArg (Value.int .i64) (by omega), ?_, by omega, fun hx0 => ?_, rfl⟩
        · have := hk _ hb1
          rw [Nat.add_comm]; exact this
        · have := hg _ (hb3 (h0 hx0))
          rw [Nat.add_comm]; exact this

structure Bk where
  b : Nat
  c : Nat
  f : List Value
instance : Inhabited Bk := ⟨⟨0, 0, []⟩⟩
/-- The blocks that Best makes, by the operation that makes them. -/
def sAnc : Nat → List Nat
  | 1 => [0] | 4 => [3] | 5 => [2, 4, 3] | 6 => [1, 0, 5, 2, 4, 3] | 8 => [7] | 9 => [8, 7] | 10 => [9, 8, 7] | 12 => [11] | 13 => [12, 11] | 15 => [14] | 16 => [15, 14]
  | 17 => [6, 1, 0, 5, 2, 4, 3, 10, 9, 8, 7, 13, 12, 11, 16, 15, 14] | 18 => [17, 6, 1, 0, 5, 2, 4, 3, 10, 9, 8, 7, 13, 12, 11, 16, 15, 14] | 19 => [18, 17, 6, 1, 0, 5, 2, 4, 3, 10, 9, 8, 7, 13, 12, 11, 16, 15, 14] | _ => []
/-- The edges' own array. -/
def sQ (n : Nat) (B : Nat → Bk) : Bk := if n = 0 then ⟨(B 2).b, 0, []⟩ else B 5
def sSC (N n : Nat) (B : Nat → Bk) : List Value := SC N (some ⟨(sQ n B).b, 0, none⟩) n (sQ n B).c (B 10).b (B 13).b (B 16).b 0
def sVal (b1 : Nat) (N n : Nat) (a : Option Addr) (c : Nat) (i : Nat) (B : Nat → Bk) : Value :=
  if i = 0 ∨ i = 11 ∨ i = 14 then .pointer (some ⟨b1, 0 + 0, none⟩) else if i = 1 ∨ i = 12 ∨ i = 15 then .int .i64 (N : Int)
  else if i = 2 then .slice (some ⟨(B 2).b, 0, none⟩) 0 0 else if i = 3 ∨ i = 7 then .pointer (some ⟨b1, 0 + 1, none⟩) else if i = 4 ∨ i = 8 then .slice a n c
  else if i = 5 then .slice (some ⟨(sQ n B).b, 0, none⟩) n (sQ n B).c else if i = 6 then .agg #[.int .i64 (N : Int), .slice (some ⟨(sQ n B).b, 0, none⟩) n (sQ n B).c]
  else if i = 9 then .int .i64 (n : Int) else if i = 10 then .slice (some ⟨(B 10).b, 0, none⟩) n n else if i = 13 then .slice (some ⟨(B 13).b, 0, none⟩) N N
  else if i = 16 then .slice (some ⟨(B 16).b, 0, none⟩) N N else if i = 17 then .agg (sSC N n B).toArray else ptr (B 18).b
def sObj (N n : Nat) (i : Nat) : Option ((Nat → Bk) → Obj) :=
  if i = 2 then some fun _ => Bl 92 [] else if i = 5 then (if n = 0 then none else some fun B => Bl 92 (B 5).f) else if i = 10 then some fun _ => Bl 2 (tabV (fun _ => 0) n) else if i = 13 ∨ i = 16 then some fun _ => Bl 2 (tabV (fun _ => 0) N)
  else if i = 18 then some fun B => Bl 170 (sSC N n B) else none
def sGood (n : Nat) (es : List Ed) (i : Nat) (b : Bk) : Prop := i = 5 → n = 0 ∨ OS (some ⟨b.b, 0, none⟩) n b.c 4 b.f (es.flatMap encE)
theorem sStab (b1 N n : Nat) (a : Option Addr) (c i k : Nat) (b : Bk) (B : Nat → Bk) (hi : i < 19) (hki : k ≠ i) (hka : k ∉ sAnc i) : sVal b1 N n a c i (updB B k b) = sVal b1 N n a c i B ∧ ∀ ob, sObj N n i = some ob → ob (updB B k b) = ob B := by
  have hne : ∀ j, k ≠ j → updB B k b j = B j := fun j h => updB_ne (Ne.symm h)
  have hq : k ≠ 2 → k ≠ 5 → sQ n (updB B k b) = sQ n B := fun h2 h5 => by unfold sQ; rw [hne 2 h2, hne 5 h5]
  have hcs : i = 0 ∨ i = 1 ∨ i = 2 ∨ i = 3 ∨ i = 4 ∨ i = 5 ∨ i = 6 ∨ i = 7 ∨ i = 8 ∨ i = 9 ∨ i = 10 ∨ i = 11 ∨ i = 12 ∨ i = 13 ∨ i = 14 ∨ i = 15 ∨ i = 16 ∨ i = 17 ∨ i = 18 := by omega
  have hs : (k ≠ 2 ∧ k ≠ 5 ∧ k ≠ 10 ∧ k ≠ 13 ∧ k ≠ 16) → sSC N n (updB B k b) = sSC N n B := fun h => by unfold sSC; rw [hq h.1 h.2.1, hne 10 h.2.2.1, hne 13 h.2.2.2.1, hne 16 h.2.2.2.2]
  rcases hcs with rfl | rfl | rfl | rfl | rfl | rfl | rfl | rfl | rfl | rfl | rfl | rfl | rfl | rfl | rfl | rfl | rfl | rfl | rfl <;> simp only [sAnc, List.mem_cons, List.not_mem_nil, or_false, not_or, not_false_eq_true] at hka <;> (try simp [sVal, sObj]) <;> (try rw [hne _ hki]) <;> (try rw [hq (by omega) (by omega)]) <;> (try rw [hs (by omega)]) <;> (try (constructor)) <;> (try rfl) <;> (try (split <;> simp)) <;> (try (intro ob h; subst h; rw [hne _ hki])) <;> (try (intro ob h; subst h; rw [hs (by omega)])) <;> (try exact ⟨rfl, rfl⟩) <;> (try (intro _; rfl))

end Go.Proofs.YtapphbmlkdhnmaaGreat

/- Sorting numbers of 64 bits: plain law of swaps; the comparison; insertion. -/
namespace Go.Proofs.YtapphbmlkdhnmaaGreat
open Go.GV
theorem ag_24_SoA : aggB Tryz.prog 24 = some false := by kernel_rfl
theorem ca_206_SoA : callable Tryz.prog 206 = true := by kernel_rfl
theorem ca_223_SoA : callable Tryz.prog 223 = true := by kernel_rfl
theorem el_25_SoA : elemT Tryz.prog 25 = some 24 := by kernel_rfl
theorem mixed_SoA : Tryz.prog.follows .mixedOrders = true := by kernel_rfl
theorem sz_24_SoA : tsize Tryz.prog 24 = some 1 := by kernel_rfl
attribute [local irreducible] Wops W Wq Wt

abbrev tabU (f : Nat → Int) (m : Nat) : List Value := (List.range m).map fun i => .int .u64 (f i)
theorem cellU {w : World} {q m i : Nat} {f : Nat → Int} (h : w.heap[q]? = some (Bl 24 (tabU f m))) (hi : i < m) : w.cell? ⟨q, 0 + i * 1, none⟩ = some (.int .u64 (f i)) := by
  rw [cell_bl h, Nat.zero_add, Nat.mul_one, range_get hi]
def sw (f : Nat → Int) (i j k : Nat) : Int := if k = j then f i else if k = i then f j else f k
theorem sw_snd (f : Nat → Int) (i j : Nat) : sw f i j j = f i := if_pos rfl
theorem sw_other {f : Nat → Int} {i j k : Nat} (h : k ≠ j) : sw f i j k = if k = i then f j else f k := if_neg h
theorem sw_fst (f : Nat → Int) (i j : Nat) : sw f i j i = f j := by
  unfold sw
  by_cases e : i = j
  · subst e; rw [if_pos rfl]
  · rw [if_neg e, if_pos rfl]
theorem sw_ne {f : Nat → Int} {i j k : Nat} (h1 : k ≠ i) (h2 : k ≠ j) : sw f i j k = f k := by unfold sw; rw [if_neg h2, if_neg h1]
/-- By swaps of what lies there. -/
inductive Sw (a b : Nat) : (Nat → Int) → (Nat → Int) → Prop
  | refl (f : Nat → Int) : Sw a b f f
  | step {f g : Nat → Int} (h : Sw a b f g) (i j : Nat) (hi : a ≤ i ∧ i < b) (hj : a ≤ j ∧ j < b) : Sw a b f (sw g i j)
theorem Sw.trans {a b : Nat} {f g h : Nat → Int} (h1 : Sw a b f g) (h2 : Sw a b g h) : Sw a b f h := by
  induction h2 with
  | refl => exact h1
  | step _ i j hi hj ih => exact ih.step i j hi hj
theorem Sw.mono {a b a' b' : Nat} {f g : Nat → Int} (h : Sw a b f g) (ha : a' ≤ a) (hb : b ≤ b') : Sw a' b' f g := by
  induction h with
  | refl => exact .refl _
  | step _ i j hi hj ih => exact ih.step i j ⟨by omega, by omega⟩ ⟨by omega, by omega⟩
theorem Sw.out {a b : Nat} {f g : Nat → Int} (h : Sw a b f g) : ∀ k, (k < a ∨ b ≤ k) → g k = f k := by
  induction h with
  | refl => exact fun _ _ => rfl
  | step _ i j hi hj ih => exact fun k hk => by rw [sw_ne (by omega) (by omega)]; exact ih k hk
/-- What lies there lay there. -/
theorem Sw.mem {a b : Nat} {f g : Nat → Int} (h : Sw a b f g) : ∀ k, a ≤ k → k < b → ∃ k', a ≤ k' ∧ k' < b ∧ g k = f k' := by
  induction h with
  | refl => exact fun k h1 h2 => ⟨k, h1, h2, rfl⟩
  | @step g h i j hi hj ih =>
    intro k h1 h2
    by_cases e2 : k = j
    · rw [e2, sw_snd]; exact ih i hi.1 hi.2
    · by_cases e1 : k = i
      · rw [e1, sw_fst]; exact ih j hj.1 hj.2
      · rw [sw_ne e1 e2]; exact ih k h1 h2
theorem tab_sw {f : Nat → Int} {n i j : Nat} (hi : i < n) (hj : j < n) : (tab (sw f i j) n).Perm (tab f n) := by
  have h := swap_perm (L := tab f n) (i := i) (j := j) (x := f i) (y := f j) (tab_get hi) (tab_get hj)
  have e : ((tab f n).set i (f j)).set j (f i) = tab (sw f i j) n := by
    unfold tab
    rw [range_set (g := fun k => if k = i then f j else f k) (if_pos rfl) (fun k _ hk => if_neg hk), range_set (g := sw f i j) (sw_snd f i j) (fun k _ hk => sw_other hk)]
  rw [e] at h
  exact h
theorem Sw.perm {a b n : Nat} {f g : Nat → Int} (h : Sw a b f g) (hb : b ≤ n) : (tab g n).Perm (tab f n) := by
  induction h with
  | refl => exact .refl _
  | step _ i j hi hj ih => exact (tab_sw (by omega) (by omega)).trans ih
def SrtU (f : Nat → Int) (a b : Nat) : Prop := ∀ x y, a ≤ x → x < y → y < b → f x ≤ f y
/-- Sorted up to i, but for the one at j that moves down. -/
def InsU (f : Nat → Int) (a j i : Nat) : Prop := ∀ x y, a ≤ x → x < y → y ≤ i → y ≠ j → f x ≤ f y
theorem InsU.step {f : Nat → Int} {a j i : Nat} (h : InsU f a j i) (ha : a < j) (hi : j ≤ i) (hlt : f j < f (j - 1)) : InsU (sw f j (j - 1)) a (j - 1) i := fun x y hx hxy hy hne => by
  by_cases e1 : y = j
  · subst e1
    rw [sw_fst]
    by_cases e2 : x = y - 1
    · rw [e2, sw_snd]; omega
    · rw [sw_ne (by omega) e2]
      exact h x (y - 1) hx (by omega) (by omega) (by omega)
  · rw [sw_ne e1 hne]
    by_cases e2 : x = j - 1
    · rw [e2, sw_snd]; exact h j y (by omega) (by omega) hy e1
    · by_cases e3 : x = j
      · rw [e3, sw_fst]; exact h (j - 1) y (by omega) (by omega) hy e1
      · rw [sw_ne e3 e2]; exact h x y hx hxy hy e1
theorem InsU.done {f : Nat → Int} {a j i : Nat} (h : InsU f a j i) (hj : a ≤ j) (hj0 : a < j → f (j - 1) ≤ f j) : SrtU f a (i + 1) := fun x y hx hxy hy => by
  by_cases e : y = j
  · subst e
    have h1 := hj0 (by omega)
    by_cases e2 : x = y - 1
    · rw [e2]; exact h1
    · exact Int.le_trans (h x (y - 1) hx (by omega) (by omega) (by omega)) h1
  · exact h x y hx hxy (by omega) e

theorem less_ok (x y : Int) (w : World) : Ret Tryz.prog 206 #[.int .u64 x, .int .u64 y] w fun v w' => v = .bool (decide (x < y)) ∧ w = w' := by
  have nan : ∀ (x : Int) (w : World), Ret Tryz.prog 223 #[.int .u64 x] w fun v w' => v = .bool false ∧ w = w' := fun x w => by
    refine ret_of_W (fn := Tryz.f223) Tryz.func223 rfl [.int .u64 x] rfl (by kernel_rfl) ?_
    refine W_rseq ?_
    refine op_assign rfl (.bool _) rfl ?_
    refine op_nil (at_then ?_)
    refine W_rseq ?_
    refine op_move rfl (.int _ _) rfl ?_
    refine op_move rfl (.int _ _) rfl ?_
    refine op_neq rfl rfl rfl ?_
    refine op_assign rfl (.bool _) rfl ?_
    refine op_nil (at_then ?_)
    refine W_ret (leave1 (v := (.bool _)) rfl rfl rfl ?_)
    exact ⟨congrArg Value.bool (by simp), rfl⟩
  refine ret_of_W (fn := Tryz.f206) Tryz.func206 rfl [.int .u64 x, .int .u64 y] rfl (by kernel_rfl) ?_
  refine W_rseq ?_
  refine op_assign rfl (.bool _) rfl ?_
  refine op_nil (at_then ?_)
  refine W_rseq ?_
  refine op_move rfl (.int _ _) rfl ?_
  refine op_call rfl ca_223_SoA (nan x w) rfl ?_
  rintro v w ⟨rfl, rfl⟩
  refine op_move rfl (.bool _) rfl ?_
  refine Wops_split 7 rfl ?_ ?_
  · intro h1
    refine op_move rfl (.int _ _) rfl ?_
    refine op_call rfl ca_223_SoA (nan y _) rfl ?_
    rintro v w ⟨rfl, rfl⟩
    refine op_not rfl rfl ?_
    refine op_pick1 rfl rfl (.bool _) rfl ?_
    refine op_move rfl (.bool _) rfl ?_
    refine Wops_split 12 rfl ?_ ?_
    · intro h2
      replace h2 := nvar_t h2
      refine op_skip rfl ?_
      refine op_skip rfl ?_
      refine op_skip rfl ?_
      refine op_pick1 rfl rfl (.bool _) rfl ?_
      refine op_assign rfl (.bool _) rfl ?_
      refine op_nil (at_then ?_)
      refine W_ret (leave1 (v := (.bool _)) rfl rfl rfl ?_)
      exact ⟨congrArg Value.bool (by simp_all), rfl⟩
    · intro h3
      replace h3 := nvar_f h3
      refine op_move rfl (.int _ _) rfl ?_
      refine op_move rfl (.int _ _) rfl ?_
      refine op_lss rfl rfl rfl ?_
      refine op_pick0 rfl rfl (.bool _) rfl ?_
      refine op_assign rfl (.bool _) rfl ?_
      refine op_nil (at_then ?_)
      refine W_ret (leave1 (v := (.bool _)) rfl rfl rfl ?_)
      exact ⟨congrArg Value.bool (by simp_all), rfl⟩
  · intro h4
    refine op_skip rfl ?_
    refine op_skip rfl ?_
    refine op_skip rfl ?_
    refine op_pick0 rfl rfl (.bool _) rfl ?_
    refine op_move rfl (.bool _) rfl ?_
    refine op_move rfl (.int _ _) rfl ?_
    refine op_move rfl (.int _ _) rfl ?_
    refine op_lss rfl rfl rfl ?_
    refine op_pick0 rfl rfl (.bool _) rfl ?_
    refine op_assign rfl (.bool _) rfl ?_
    refine op_nil (at_then ?_)
    refine W_ret (leave1 (v := (.bool _)) rfl rfl rfl ?_)
    exact ⟨congrArg Value.bool (by simp_all), rfl⟩

section
variable {w : World} {q n c m a b : Nat} {f : Nat → Int}

set_option maxRecDepth 20000 in
set_option maxHeartbeats 2000000 in
theorem insertion_ok (hd : w.heap[q]? = some (Bl 24 (tabU f m))) (hab : a ≤ b) (hb : b ≤ n) (hn : n ≤ m) (hm : n ≤ 1000000000) :
    Ret Tryz.prog 200 #[.slice (some ⟨q, 0, none⟩) n c, .int .i64 (a : Int), .int .i64 (b : Int)] w fun v w' => v = .tuple #[] ∧ ∃ g, Sw a b f g ∧ SrtU g a b ∧ Ctx w [q] w' [(q, Bl 24 (tabU g m))] := by
  obtain ⟨w0, rfl⟩ : ∃ w0, w0 = w := ⟨_, rfl⟩
  have H := Ctx.start1 hd
  refine ret_of_W (fn := Tryz.f200) Tryz.func200 rfl [.slice (some ⟨q, 0, none⟩) n c, .int .i64 (a : Int), .int .i64 (b : Int)] rfl (by kernel_rfl) ?_
  refine W_rseq ?_
  refine op_move rfl (.int _ _) rfl ?_
  refine op_add_i64 rfl rfl rfl (by omega) (by omega) ?_
  refine op_assign rfl (.int _ _) rfl ?_
  refine op_nil (at_then ?_)
  refine W_block ?_
  refine W_loop 562949953420480 (α := Nat × (Nat → Int)) (fun t => [(6, .int .i64 (t.1 : Int))]) (fun t w' => a + 1 ≤ t.1 ∧ t.1 ≤ max b (a + 1) ∧ Sw a b f t.2 ∧ SrtU t.2 a t.1 ∧ Ctx w0 [q] w' [(q, Bl 24 (tabU t.2 m))]) (fun t => b - t.1) (a + 1, f) rfl ?_ ?_ ?_
  · exact ⟨congrArg (Value.int .i64) (by dsimp only; omega), trivial⟩
  · exact ⟨Nat.le_refl _, by dsimp only; omega, .refl _, fun x y h1 h2 h3 => by dsimp only at h3; omega, H⟩
  · rintro ⟨i, g⟩ j0 w ⟨hi1, hi2, hS, hO, H⟩; dsimp only at hi1 hi2 hS hO H; dsimp only
    refine W_seq ?_
    refine W_rseq ?_
    refine op_move rfl (.int _ _) rfl ?_
    refine op_move rfl (.int _ _) rfl ?_
    refine op_lss rfl rfl rfl ?_
    refine op_nil (at_then ?_)
    refine W_cond _ rfl ?_ ?_
    · intro h1
      replace h1 := dec_t h1
      refine W_skip (at_then ?_)
      refine W_seq ?_
      refine W_block ?_
      refine W_rseq ?_
      refine op_move rfl (.int _ _) rfl ?_
      refine op_assign rfl (.int _ _) rfl ?_
      refine op_nil (at_then ?_)
      refine W_block ?_
      refine W_loop 562949953355904 (α := Nat × (Nat → Int)) (fun t => [(7, .int .i64 (t.1 : Int))]) (fun t w' => a ≤ t.1 ∧ t.1 ≤ i ∧ Sw a b f t.2 ∧ InsU t.2 a t.1 i ∧ Ctx w0 [q] w' [(q, Bl 24 (tabU t.2 m))]) (fun t => t.1) (i, g) rfl ?_ ?_ ?_
      · exact ⟨rfl, trivial⟩
      · exact ⟨by dsimp only; omega, Nat.le_refl _, hS, fun x y hx hxy hy hne => hO x y hx hxy (by dsimp only at hne; omega), H⟩
      · rintro ⟨j, g⟩ j1 w ⟨hj1, hj2, hS, hI, H⟩; dsimp only at hj1 hj2 hS hI H; dsimp only
        have e1 : (j : Int).toNat = j := rfl
        have e2 : ((j : Int) - 1).toNat = j - 1 := by omega
        refine W_seq ?_
        refine W_tseq 13 mixed_SoA (by kernel_rfl) rfl rfl ?_
        refine q_move rfl (.int _ _) rfl ?_
        refine q_move rfl (.int _ _) rfl ?_
        refine q_gtr rfl rfl rfl ?_
        refine q_move rfl (.bool _) rfl ?_
        refine Wq_split 19 rfl ?_ ?_
        · intro h2
          replace h2 := dec_t h2
          refine q_move rfl (.slice _ _ _) rfl ?_
          refine q_move rfl (.int _ _) rfl ?_
          refine q_indexAddr rfl el_25_SoA sz_24_SoA rfl rfl (by omega) (by omega) ?_
          first | refine q_ldb rfl ag_24_SoA rfl (by rintro _ rfl; exact H.drew) (by first | exact at0 | exact at1 | exact at2 | exact at3 | exact at4 | exact at5 | exact at6 | exact at7 | exact at8 | exact at9) rfl ?_ | refine q_ld rfl ag_24_SoA rfl (by rintro _ rfl; exact ((cellU (H.drew.get at0) (by omega)))) ?_
          refine q_move rfl (.slice _ _ _) rfl ?_
          refine q_move rfl (.int _ _) rfl ?_
          refine q_sub_i64 rfl rfl rfl (by omega) (by omega) ?_
          refine q_indexAddr rfl el_25_SoA sz_24_SoA rfl rfl (by omega) (by omega) ?_
          first | refine q_ldb rfl ag_24_SoA rfl (by rintro _ rfl; exact H.drew) (by first | exact at0 | exact at1 | exact at2 | exact at3 | exact at4 | exact at5 | exact at6 | exact at7 | exact at8 | exact at9) rfl ?_ | refine q_ld rfl ag_24_SoA rfl (by rintro _ rfl; exact ((cellU (H.drew.get at0) (by omega)))) ?_
          refine q_nil ?_
          replace H := H.drew
          refine op_call rfl ca_206_SoA (less_ok _ _ _) rfl ?_
          rintro v w ⟨rfl, rfl⟩
          refine op_pick1 rfl rfl (.bool _) rfl ?_
          refine op_nil (at_then ?_)
          refine W_cond _ rfl ?_ ?_
          · intro h3
            rw [e1, e2] at h3
            have h3 := of_decide_eq_true h3
            refine W_skip (at_then ?_)
            refine W_seq ?_
            refine W_block ?_
            refine W_segz [([0, 1, 2, 3, 4, 5, 6, 7, 8, 9, 10, 11, 12, 13, 14], 15), ([16], 17)] (fun z => z.heap[q]? = some (Bl 24 (tabU g m))) [15, 17] mixed_SoA (by kernel_rfl) (H.drew.get at0) ?_
            refine seg_cons rfl rfl ?_
            refine t_move rfl (.slice _ _ _) rfl ?_
            refine t_move rfl (.int _ _) rfl ?_
            refine t_move rfl (.slice _ _ _) rfl ?_
            refine t_move rfl (.int _ _) rfl ?_
            refine t_sub_i64 rfl rfl rfl (by omega) (by omega) ?_
            refine t_move rfl (.slice _ _ _) rfl ?_
            refine t_move rfl (.int _ _) rfl ?_
            refine t_sub_i64 rfl rfl rfl (by omega) (by omega) ?_
            refine t_indexAddr rfl el_25_SoA sz_24_SoA rfl rfl (by omega) (by omega) ?_
            first | refine t_ldb rfl ag_24_SoA rfl True.intro (by first | exact at0 | exact at1 | exact at2 | exact at3 | exact at4 | exact at5 | exact at6 | exact at7 | exact at8 | exact at9) rfl ?_ | refine t_ld rfl ag_24_SoA rfl (fun _ hx => (cellU hx (by omega))) ?_
            refine t_move rfl (.slice _ _ _) rfl ?_
            refine t_move rfl (.int _ _) rfl ?_
            refine t_indexAddr rfl el_25_SoA sz_24_SoA rfl rfl (by omega) (by omega) ?_
            first | refine t_ldb rfl ag_24_SoA rfl True.intro (by first | exact at0 | exact at1 | exact at2 | exact at3 | exact at4 | exact at5 | exact at6 | exact at7 | exact at8 | exact at9) rfl ?_ | refine t_ld rfl ag_24_SoA rfl (fun _ hx => (cellU hx (by omega))) ?_
            refine t_indexAddr rfl el_25_SoA sz_24_SoA rfl rfl (by omega) (by omega) ?_
            refine t_nil ?_
            replace H := H.drew
            refine op_str j (fun k => .int .u64 (if k = j then g (j - 1) else g k)) (.int _ _) rfl sz_24_SoA rfl rfl rfl H at0 (by omega) (by omega) (by rw [if_pos rfl]; exact congrArg (fun z => Value.int .u64 (g z)) (by omega)) (fun k _ hk => by rw [if_neg hk]) ?_
            rintro w H
            refine op_nil (at_segz rfl ?_)
            refine seg_cons rfl rfl ?_
            refine t_indexAddr rfl el_25_SoA sz_24_SoA rfl rfl (by omega) (by omega) ?_
            refine t_nil ?_
            refine op_str (j - 1) (fun k => .int .u64 (sw g j (j - 1) k)) (.int _ _) rfl sz_24_SoA rfl rfl rfl H at0 (by omega) (by omega) (by rw [sw_snd]; rfl) (fun k _ hk => by rw [sw_other hk]) ?_
            rintro w H
            refine op_nil (at_segz rfl ?_)
            refine seg_nil ?_
            refine at_block (at_then ?_)
            refine W_region ?_
            refine op_move rfl (.int _ _) rfl ?_
            refine op_sub_i64 rfl rfl rfl (by omega) (by omega) ?_
            refine op_assign rfl (.int _ _) rfl ?_
            refine op_nil (at_then ?_)
            exact ⟨(j - 1, sw g j (j - 1)), rfl, ⟨congrArg (Value.int .i64) (by dsimp only; omega), trivial⟩, ⟨by dsimp only; omega, by dsimp only; omega, hS.step j (j - 1) ⟨by omega, by omega⟩ ⟨by omega, by omega⟩, hI.step (by omega) hj2 h3, H⟩, by dsimp only; omega⟩
          · intro h3
            rw [e1, e2] at h3
            have h3 := of_decide_eq_false h3
            refine W_exit (exit_then (exit_then (exit_here (at_block (at_then ?_)))))
            refine W_region ?_
            refine op_move rfl (.int _ _) rfl ?_
            refine op_add_i64 rfl rfl rfl (by omega) (by omega) ?_
            refine op_assign rfl (.int _ _) rfl ?_
            refine op_nil (at_then ?_)
            exact ⟨(i + 1, g), rfl, ⟨rfl, trivial⟩, ⟨by dsimp only; omega, by dsimp only; omega, hS, hI.done hj1 fun _ => by omega, H⟩, by dsimp only; omega⟩
        · intro h2
          replace h2 := dec_f h2
          refine q_skip rfl ?_
          refine q_skip rfl ?_
          refine q_skip rfl ?_
          refine q_skip rfl ?_
          refine q_skip rfl ?_
          refine q_skip rfl ?_
          refine q_skip rfl ?_
          refine q_skip rfl ?_
          refine q_skip rfl ?_
          refine q_nil ?_
          replace H := H.drew
          refine op_skip rfl ?_
          refine op_pick0 rfl rfl (.bool _) rfl ?_
          refine op_nil (at_then ?_)
          refine W_cond0 rfl ?_
          refine W_exit (exit_then (exit_then (exit_here (at_block (at_then ?_)))))
          refine W_region ?_
          refine op_move rfl (.int _ _) rfl ?_
          refine op_add_i64 rfl rfl rfl (by omega) (by omega) ?_
          refine op_assign rfl (.int _ _) rfl ?_
          refine op_nil (at_then ?_)
          exact ⟨(i + 1, g), rfl, ⟨rfl, trivial⟩, ⟨by dsimp only; omega, by dsimp only; omega, hS, hI.done hj1 fun h => by omega, H⟩, by dsimp only; omega⟩
    · intro h1
      replace h1 := dec_f h1
      refine W_exit (exit_then (exit_then (exit_here (leave0n rfl rfl ?_))))
      exact ⟨rfl, g, hS, fun x y hx hxy hy => hO x y hx hxy (by omega), H⟩
end

end Go.Proofs.YtapphbmlkdhnmaaGreat

/- Sorting numbers of 64 bits: by a heap. -/
namespace Go.Proofs.YtapphbmlkdhnmaaGreat
open Go.GV
theorem ag_24_SoB : aggB Tryz.prog 24 = some false := by kernel_rfl
theorem ca_206_SoB : callable Tryz.prog 206 = true := by kernel_rfl
theorem ca_218_SoB : callable Tryz.prog 218 = true := by kernel_rfl
theorem el_25_SoB : elemT Tryz.prog 25 = some 24 := by kernel_rfl
theorem mixed_SoB : Tryz.prog.follows .mixedOrders = true := by kernel_rfl
theorem sz_24_SoB : tsize Tryz.prog 24 = some 1 := by kernel_rfl
attribute [local irreducible] Wops W Wq Wt

def HeapU (g : Nat → Int) (o lo hi : Nat) : Prop := ∀ i c, lo ≤ i → (c = 2 * i + 1 ∨ c = 2 * i + 2) → c < hi → g (o + c) ≤ g (o + i)
structure SiftU (g : Nat → Int) (o lo r hi : Nat) : Prop where
  oth : ∀ i c, lo ≤ i → i ≠ r → (c = 2 * i + 1 ∨ c = 2 * i + 2) → c < hi → g (o + c) ≤ g (o + i)
  up : ∀ p c, lo ≤ p → (r = 2 * p + 1 ∨ r = 2 * p + 2) → (c = 2 * r + 1 ∨ c = 2 * r + 2) → c < hi → g (o + c) ≤ g (o + p)
theorem SiftU.start {g : Nat → Int} {o lo hi : Nat} (h : HeapU g o (lo + 1) hi) : SiftU g o lo lo hi := ⟨fun i c hi hne hc hh => h i c (by omega) hc hh, fun p c hp hr _ _ => by omega⟩
theorem SiftU.done {g : Nat → Int} {o lo r hi : Nat} (h : SiftU g o lo r hi) (hr : ∀ c, (c = 2 * r + 1 ∨ c = 2 * r + 2) → c < hi → g (o + c) ≤ g (o + r)) : HeapU g o lo hi := fun i c hl hc hh => by
  by_cases e : i = r
  · subst e; exact hr c hc hh
  · exact h.oth i c hl e hc hh
theorem SiftU.step {g : Nat → Int} {o lo r hi c : Nat} (h : SiftU g o lo r hi) (hl : lo ≤ r) (hc : c = 2 * r + 1 ∨ c = 2 * r + 2) (hch : c < hi) (hmax : ∀ d, (d = 2 * r + 1 ∨ d = 2 * r + 2) → d < hi → g (o + d) ≤ g (o + c)) (hlt : g (o + r) < g (o + c)) : SiftU (sw g (o + r) (o + c)) o lo c hi := by
  refine ⟨fun i d hi' hne hd hh => ?_, fun p e hp hcp he hh => ?_⟩
  · by_cases e1 : i = r
    · rw [e1, sw_fst]
      by_cases e2 : d = c
      · rw [e2, sw_snd]; omega
      · rw [sw_ne (by omega) (by omega)]; exact hmax d (by omega) hh
    · rw [sw_ne (k := o + i) (by omega) (by omega)]
      by_cases e2 : d = r
      · rw [e2, sw_fst]; exact h.up i c hi' (by omega) hc hch
      · rw [sw_ne (by omega) (by omega)]; exact h.oth i d hi' e1 hd hh
  · have e1 : p = r := by omega
    rw [e1, sw_fst, sw_ne (by omega) (by omega)]
    exact h.oth c e (by omega) (by omega) he hh
/-- The root is the greatest. -/
theorem HeapU.root {g : Nat → Int} {o hi : Nat} (h : HeapU g o 0 hi) : ∀ i, i < hi → g (o + i) ≤ g (o + 0) := fun i => by
  induction i using Nat.strongRecOn with
  | _ i ih =>
    intro hi'
    rcases Nat.eq_zero_or_pos i with h0 | h0
    · rw [h0]; exact Int.le_refl _
    · exact Int.le_trans (h ((i - 1) / 2) i (Nat.zero_le _) (by omega) hi') (ih ((i - 1) / 2) (by omega) (by omega))

section
variable {w : World} {q n c m : Nat} {f : Nat → Int}

set_option maxRecDepth 20000 in
set_option maxHeartbeats 2000000 in
theorem sift_ok {lo hi o : Nat} (hd : w.heap[q]? = some (Bl 24 (tabU f m))) (hb : o + hi ≤ n) (hn : n ≤ m) (hm : n ≤ 1000000000) (hl : lo ≤ 1000000000) (hH : HeapU f o (lo + 1) hi) :
    Ret Tryz.prog 218 #[.slice (some ⟨q, 0, none⟩) n c, .int .i64 (lo : Int), .int .i64 (hi : Int), .int .i64 (o : Int)] w fun v w' => v = .tuple #[] ∧ ∃ g, Sw o (o + hi) f g ∧ HeapU g o lo hi ∧ Ctx w [q] w' [(q, Bl 24 (tabU g m))] := by
  obtain ⟨w0, rfl⟩ : ∃ w0, w0 = w := ⟨_, rfl⟩
  have H := Ctx.start1 hd
  refine ret_of_W (fn := Tryz.f218) Tryz.func218 rfl [.slice (some ⟨q, 0, none⟩) n c, .int .i64 (lo : Int), .int .i64 (hi : Int), .int .i64 (o : Int)] rfl (by kernel_rfl) ?_
  refine W_rseq ?_
  refine op_move rfl (.int _ _) rfl ?_
  refine op_assign rfl (.int _ _) rfl ?_
  refine op_nil (at_then ?_)
  refine W_block ?_
  refine W_loop 75557863725914323417856 (α := Nat × (Nat → Int)) (fun t => [(8, .int .i64 (t.1 : Int))]) (fun t w' => lo ≤ t.1 ∧ t.1 ≤ 1000000000 ∧ Sw o (o + hi) f t.2 ∧ SiftU t.2 o lo t.1 hi ∧ Ctx w0 [q] w' [(q, Bl 24 (tabU t.2 m))]) (fun t => 1000000000 - t.1) (lo, f) rfl ?_ ?_ ?_
  · exact ⟨rfl, trivial⟩
  · exact ⟨Nat.le_refl _, hl, .refl _, .start hH, H⟩
  · rintro ⟨r, g⟩ j0 w ⟨hr1, hr2, hS, hD, H⟩; dsimp only at hr1 hr2 hS hD H; dsimp only
    refine W_block ?_
    refine W_rseq ?_
    refine op_move rfl (.int _ _) rfl ?_
    refine op_mul_i64 rfl rfl rfl (by omega) (by omega) ?_
    refine op_add_i64 rfl rfl rfl (by omega) (by omega) ?_
    rw [show 2 * (r : Int) + 1 = ((2 * r + 1 : Nat) : Int) by omega]
    refine op_assign rfl (.int _ _) rfl ?_
    refine op_nil (at_then ?_)
    refine W_seq ?_
    refine W_rseq ?_
    refine op_move rfl (.int _ _) rfl ?_
    refine op_move rfl (.int _ _) rfl ?_
    refine op_geq rfl rfl rfl ?_
    refine op_nil (at_then ?_)
    refine W_cond _ rfl ?_ ?_
    · intro h1
      replace h1 := dec_t h1
      refine W_exit (exit_then (exit_pass rfl (exit_then (exit_here (leave0n rfl rfl ?_)))))
      exact ⟨rfl, g, hS, hD.done fun c hc hh => by omega, H⟩
    · intro h1
      replace h1 := dec_f h1
      have e1 : ((o : Int) + ((2 * r + 1 : Nat) : Int)).toNat = o + (2 * r + 1) := by omega
      have e2 : ((o : Int) + ((2 * r + 1 : Nat) : Int) + 1).toNat = o + (2 * r + 2) := by omega
      refine W_skip (at_then ?_)
      refine W_seq ?_
      refine W_join 137438822400 (α := Unit) (fun _ => [(36, .bool (decide (2 * r + 2 < hi ∧ g (o + (2 * r + 1)) < g (o + (2 * r + 2)))))]) (fun _ w' => Ctx w0 [q] w' [(q, Bl 24 (tabU g m))]) rfl ?_ ?_
      · skip
        refine W_tail 18 mixed_SoB (by kernel_rfl) rfl rfl ?_
        refine q_move rfl (.int _ _) rfl ?_
        refine q_add_i64 rfl rfl rfl (by omega) (by omega) ?_
        refine q_move rfl (.int _ _) rfl ?_
        refine q_lss rfl rfl rfl ?_
        refine q_move rfl (.bool _) rfl ?_
        refine Wq_split 21 rfl ?_ ?_
        · intro h1
          replace h1 := dec_t h1
          refine q_move rfl (.slice _ _ _) rfl ?_
          refine q_move rfl (.int _ _) rfl ?_
          refine q_move rfl (.int _ _) rfl ?_
          refine q_add_i64 rfl rfl rfl (by omega) (by omega) ?_
          refine q_indexAddr rfl el_25_SoB sz_24_SoB rfl rfl (by omega) (by omega) ?_
          first | refine q_ldb rfl ag_24_SoB rfl (by rintro _ rfl; exact H.drew) (by first | exact at0 | exact at1 | exact at2 | exact at3 | exact at4 | exact at5 | exact at6 | exact at7 | exact at8 | exact at9) rfl ?_ | refine q_ld rfl ag_24_SoB rfl (by rintro _ rfl; exact ((cellU (H.drew.get at0) (by omega)))) ?_
          refine q_move rfl (.slice _ _ _) rfl ?_
          refine q_move rfl (.int _ _) rfl ?_
          refine q_move rfl (.int _ _) rfl ?_
          refine q_add_i64 rfl rfl rfl (by omega) (by omega) ?_
          refine q_add_i64 rfl rfl rfl (by omega) (by omega) ?_
          refine q_indexAddr rfl el_25_SoB sz_24_SoB rfl rfl (by omega) (by omega) ?_
          first | refine q_ldb rfl ag_24_SoB rfl (by rintro _ rfl; exact H.drew) (by first | exact at0 | exact at1 | exact at2 | exact at3 | exact at4 | exact at5 | exact at6 | exact at7 | exact at8 | exact at9) rfl ?_ | refine q_ld rfl ag_24_SoB rfl (by rintro _ rfl; exact ((cellU (H.drew.get at0) (by omega)))) ?_
          refine q_nil ?_
          replace H := H.drew
          refine op_call rfl ca_206_SoB (less_ok _ _ _) rfl ?_
          rintro v w ⟨rfl, rfl⟩
          rw [e1, e2]
          refine op_pick1 rfl rfl (.bool _) rfl ?_
          refine op_nil (at_then ?_)
          exact ⟨(), rfl, ⟨congrArg Value.bool (by rw [Bool.eq_iff_iff]; simp_all; try omega), trivial⟩, H⟩
        · intro h2
          replace h2 := dec_f h2
          refine q_skip rfl ?_
          refine q_skip rfl ?_
          refine q_skip rfl ?_
          refine q_skip rfl ?_
          refine q_skip rfl ?_
          refine q_skip rfl ?_
          refine q_skip rfl ?_
          refine q_skip rfl ?_
          refine q_skip rfl ?_
          refine q_skip rfl ?_
          refine q_skip rfl ?_
          refine q_skip rfl ?_
          refine q_skip rfl ?_
          refine q_nil ?_
          replace H := H.drew
          refine op_skip rfl ?_
          refine op_pick0 rfl rfl (.bool _) rfl ?_
          refine op_nil (at_then ?_)
          exact ⟨(), rfl, ⟨congrArg Value.bool (by rw [Bool.eq_iff_iff]; simp_all; try omega), trivial⟩, H⟩
      · rintro - j1 w H
        refine W_joinK 412316860928 (α := Nat) (fun d => [(9, .int .i64 (d : Int))]) (fun d w' => (d = 2 * r + 1 ∨ d = 2 * r + 2) ∧ d < hi ∧ (∀ e, (e = 2 * r + 1 ∨ e = 2 * r + 2) → e < hi → g (o + e) ≤ g (o + d)) ∧ Ctx w0 [q] w' [(q, Bl 24 (tabU g m))]) rfl ?_ ?_
        · skip
          refine W_cond _ rfl ?_ ?_
          · intro h2
            have h2 := of_decide_eq_true h2
            refine W_region ?_
            refine op_move rfl (.int _ _) rfl ?_
            refine op_add_i64 rfl rfl rfl (by omega) (by omega) ?_
            refine op_assign rfl (.int _ _) rfl ?_
            refine op_nil (at_then ?_)
            refine ⟨2 * r + 2, rfl, ⟨congrArg (Value.int .i64) (by omega), trivial⟩, .inr rfl, h2.1, fun e he _ => ?_, H⟩
            rcases he with rfl | rfl
            · omega
            · omega
          · intro h2
            have h2 := of_decide_eq_false h2
            refine W_skip (at_then ?_)
            refine ⟨2 * r + 1, rfl, ⟨rfl, trivial⟩, .inl rfl, by omega, fun e he hh => ?_, H⟩
            rcases he with rfl | rfl
            · omega
            · rcases Int.lt_or_le (g (o + (2 * r + 1))) (g (o + (2 * r + 2))) with h7 | h7
              · exact absurd ⟨hh, h7⟩ h2
              · exact h7
        · rintro d j2 w ⟨hd1, hd2, hmax, H⟩
          have e3 : ((o : Int) + (r : Int)).toNat = o + r := by omega
          have e4 : ((o : Int) + (d : Int)).toNat = o + d := by omega
          refine W_seq ?_
          refine W_tseq 12 mixed_SoB (by kernel_rfl) rfl rfl ?_
          refine q_move rfl (.slice _ _ _) rfl ?_
          refine q_move rfl (.int _ _) rfl ?_
          refine q_move rfl (.int _ _) rfl ?_
          refine q_add_i64 rfl rfl rfl (by omega) (by omega) ?_
          refine q_indexAddr rfl el_25_SoB sz_24_SoB rfl rfl (by omega) (by omega) ?_
          first | refine q_ldb rfl ag_24_SoB rfl (by rintro _ rfl; exact H.drew) (by first | exact at0 | exact at1 | exact at2 | exact at3 | exact at4 | exact at5 | exact at6 | exact at7 | exact at8 | exact at9) rfl ?_ | refine q_ld rfl ag_24_SoB rfl (by rintro _ rfl; exact ((cellU (H.drew.get at0) (by omega)))) ?_ | refine q_ld rfl ag_24_SoB rfl (by rintro _ rfl; exact ((cellU (H.drew.get at0) (by omega)))) ?_
          refine q_move rfl (.slice _ _ _) rfl ?_
          refine q_move rfl (.int _ _) rfl ?_
          refine q_move rfl (.int _ _) rfl ?_
          refine q_add_i64 rfl rfl rfl (by omega) (by omega) ?_
          refine q_indexAddr rfl el_25_SoB sz_24_SoB rfl rfl (by omega) (by omega) ?_
          first | refine q_ldb rfl ag_24_SoB rfl (by rintro _ rfl; exact H.drew) (by first | exact at0 | exact at1 | exact at2 | exact at3 | exact at4 | exact at5 | exact at6 | exact at7 | exact at8 | exact at9) rfl ?_ | refine q_ld rfl ag_24_SoB rfl (by rintro _ rfl; exact ((cellU (H.drew.get at0) (by omega)))) ?_ | refine q_ld rfl ag_24_SoB rfl (by rintro _ rfl; exact ((cellU (H.drew.get at0) (by omega)))) ?_
          refine q_nil ?_
          replace H := H.drew
          refine op_call rfl ca_206_SoB (less_ok _ _ _) rfl ?_
          rintro v w ⟨rfl, rfl⟩
          rw [e3, e4]
          refine op_not rfl rfl ?_
          refine op_nil (at_then ?_)
          refine W_cond _ rfl ?_ ?_
          · intro h3
            replace h3 := nvar_t h3
            refine W_ret (ret_then (ret_block (ret_then (ret_block (leave0 rfl rfl ?_)))))
            have h3 : ¬ g (o + r) < g (o + d) := by simpa using h3
            exact ⟨rfl, g, hS, hD.done fun c hc hh => Int.le_trans (hmax c hc hh) (by omega), H⟩
          · intro h3
            replace h3 := nvar_f h3
            have h3 : g (o + r) < g (o + d) := by simpa using h3
            refine W_skip (at_then ?_)
            refine W_sseqz [([0, 1, 2, 3, 4, 5, 6, 7, 8, 9, 10, 11, 12, 13, 14, 15, 16, 17, 18, 19, 20], 21), ([22], 23)] (fun z => z.heap[q]? = some (Bl 24 (tabU g m))) [21, 23] mixed_SoB (by kernel_rfl) (H.drew.get at0) ?_
            refine seg_cons rfl rfl ?_
            refine t_move rfl (.slice _ _ _) rfl ?_
            refine t_move rfl (.int _ _) rfl ?_
            refine t_move rfl (.int _ _) rfl ?_
            refine t_add_i64 rfl rfl rfl (by omega) (by omega) ?_
            refine t_move rfl (.slice _ _ _) rfl ?_
            refine t_move rfl (.int _ _) rfl ?_
            refine t_move rfl (.int _ _) rfl ?_
            refine t_add_i64 rfl rfl rfl (by omega) (by omega) ?_
            refine t_move rfl (.slice _ _ _) rfl ?_
            refine t_move rfl (.int _ _) rfl ?_
            refine t_move rfl (.int _ _) rfl ?_
            refine t_add_i64 rfl rfl rfl (by omega) (by omega) ?_
            refine t_indexAddr rfl el_25_SoB sz_24_SoB rfl rfl (by omega) (by omega) ?_
            first | refine t_ldb rfl ag_24_SoB rfl True.intro (by first | exact at0 | exact at1 | exact at2 | exact at3 | exact at4 | exact at5 | exact at6 | exact at7 | exact at8 | exact at9) rfl ?_ | refine t_ld rfl ag_24_SoB rfl (fun _ hx => (cellU hx (by omega))) ?_
            refine t_move rfl (.slice _ _ _) rfl ?_
            refine t_move rfl (.int _ _) rfl ?_
            refine t_move rfl (.int _ _) rfl ?_
            refine t_add_i64 rfl rfl rfl (by omega) (by omega) ?_
            refine t_indexAddr rfl el_25_SoB sz_24_SoB rfl rfl (by omega) (by omega) ?_
            first | refine t_ldb rfl ag_24_SoB rfl True.intro (by first | exact at0 | exact at1 | exact at2 | exact at3 | exact at4 | exact at5 | exact at6 | exact at7 | exact at8 | exact at9) rfl ?_ | refine t_ld rfl ag_24_SoB rfl (fun _ hx => (cellU hx (by omega))) ?_
            refine t_indexAddr rfl el_25_SoB sz_24_SoB rfl rfl (by omega) (by omega) ?_
            refine t_nil ?_
            replace H := H.drew
            refine op_str (o + r) (fun k => .int .u64 (if k = o + r then g (o + d) else g k)) (.int _ _) rfl sz_24_SoB rfl rfl rfl H at0 (by omega) (by omega) (by rw [if_pos rfl]; exact congrArg (fun z => Value.int .u64 (g z)) (by omega)) (fun k _ hk => by rw [if_neg hk]) ?_
            rintro w H
            refine op_nil (at_segz rfl ?_)
            refine seg_cons rfl rfl ?_
            refine t_indexAddr rfl el_25_SoB sz_24_SoB rfl rfl (by omega) (by omega) ?_
            refine t_nil ?_
            refine op_str (o + d) (fun k => .int .u64 (sw g (o + r) (o + d) k)) (.int _ _) rfl sz_24_SoB rfl rfl rfl H at0 (by omega) (by omega) (by rw [sw_snd]; exact congrArg (fun z => Value.int .u64 (g z)) (by omega)) (fun k _ hk => by rw [sw_other hk]) ?_
            rintro w H
            refine op_nil (at_segz rfl ?_)
            refine seg_nil ?_
            refine W_region ?_
            refine op_move rfl (.int _ _) rfl ?_
            refine op_assign rfl (.int _ _) rfl ?_
            refine op_nil (at_block (at_then ?_))
            exact ⟨(d, sw g (o + r) (o + d)), rfl, ⟨rfl, trivial⟩, ⟨by dsimp only; omega, by dsimp only; omega, hS.step _ _ ⟨by omega, by omega⟩ ⟨by omega, by omega⟩, hD.step hr1 hd1 hd2 hmax h3, H⟩, by dsimp only; omega⟩

/-- Sorted behind i, and what is ahead is no greater. -/
structure HsU (g : Nat → Int) (a i b : Nat) : Prop where
  srt : SrtU g (a + i) b
  le : ∀ x y, x < i → a + i ≤ y → y < b → g (a + x) ≤ g y
set_option maxRecDepth 20000 in
set_option maxHeartbeats 2000000 in
theorem heapsort_ok {a b : Nat} (hd : w.heap[q]? = some (Bl 24 (tabU f m))) (hab : a < b) (hb : b ≤ n) (hn : n ≤ m) (hm : n ≤ 1000000000) :
    Ret Tryz.prog 201 #[.slice (some ⟨q, 0, none⟩) n c, .int .i64 (a : Int), .int .i64 (b : Int)] w fun v w' => v = .tuple #[] ∧ ∃ g, Sw a b f g ∧ SrtU g a b ∧ Ctx w [q] w' [(q, Bl 24 (tabU g m))] := by
  obtain ⟨w0, rfl⟩ : ∃ w0, w0 = w := ⟨_, rfl⟩
  have H := Ctx.start1 hd
  obtain ⟨l, rfl⟩ : ∃ l, b = a + l := ⟨b - a, by omega⟩
  have hl : ((a + l : Nat) : Int) - (a : Int) = (l : Int) := by omega
  have hl1 : (l : Int) - 1 = ((l - 1 : Nat) : Int) := by omega
  refine ret_of_W (fn := Tryz.f201) Tryz.func201 rfl [.slice (some ⟨q, 0, none⟩) n c, .int .i64 (a : Int), .int .i64 ((a + l : Nat) : Int)] rfl (by kernel_rfl) ?_
  refine W_rseq ?_
  refine op_move rfl (.int _ _) rfl ?_
  refine op_assign rfl (.int _ _) rfl ?_
  refine op_nil (at_then ?_)
  refine W_rseq ?_
  refine op_assign rfl (.int _ _) rfl ?_
  refine op_nil (at_then ?_)
  refine W_rseq ?_
  refine op_move rfl (.int _ _) rfl ?_
  refine op_move rfl (.int _ _) rfl ?_
  refine op_sub_i64 rfl rfl rfl (by omega) (by omega) ?_
  rw [hl]
  refine op_assign rfl (.int _ _) rfl ?_
  refine op_nil (at_then ?_)
  refine W_seq ?_
  refine W_rseq ?_
  refine op_move rfl (.int _ _) rfl ?_
  refine op_sub_i64 rfl rfl rfl (by omega) (by omega) ?_
  refine op_quo rfl rfl rfl (by omega) (by omega) (show _ ≤ (9223372036854775807 : Int) by omega) ?_
  refine op_assign rfl (.int _ _) rfl ?_
  refine op_nil (at_then ?_)
  refine W_block ?_
  refine W_loop 133956096 (α := Nat × (Nat → Int)) (fun t => [(9, .int .i64 ((t.1 : Int) - 1))]) (fun t w' => t.1 ≤ l + 1 ∧ Sw a (a + l) f t.2 ∧ HeapU t.2 a t.1 l ∧ Ctx w0 [q] w' [(q, Bl 24 (tabU t.2 m))]) (fun t => t.1) ((l - 1) / 2 + 1, f) rfl ?_ ?_ ?_
  · exact ⟨congrArg (Value.int .i64) (by dsimp only; omega), trivial⟩
  · exact ⟨by dsimp only; omega, .refl _, fun i c h1 h2 h3 => by dsimp only at h1; omega, H⟩
  · rintro ⟨k, g⟩ j0 w ⟨hk, hS, hP, H⟩; dsimp only at hk hS hP H; dsimp only
    rcases k with _ | k
    · skip
      refine W_seq ?_
      refine W_rseq ?_
      refine op_move rfl (.int _ _) rfl ?_
      refine op_geq rfl rfl rfl ?_
      refine op_nil (at_then ?_)
      refine W_cond _ rfl ?_ ?_
      · intro h1
        replace h1 := dec_t h1
        omega
      · intro h1
        replace h1 := dec_f h1
        refine W_exit (exit_then (exit_then (exit_here (at_then ?_))))
        refine W_rseq ?_
        refine op_move rfl (.int _ _) rfl ?_
        refine op_sub_i64 rfl rfl rfl (by omega) (by omega) ?_
        refine op_assign rfl (.int _ _) rfl ?_
        refine op_nil (at_then ?_)
        refine W_block ?_
        refine W_loop 72057593501058048 (α := Nat × (Nat → Int)) (fun t => [(10, .int .i64 ((t.1 : Int) - 1))]) (fun t w' => t.1 ≤ l ∧ Sw a (a + l) f t.2 ∧ HeapU t.2 a 0 t.1 ∧ HsU t.2 a t.1 (a + l) ∧ Ctx w0 [q] w' [(q, Bl 24 (tabU t.2 m))]) (fun t => t.1) (l, g) rfl ?_ ?_ ?_
        · exact ⟨rfl, trivial⟩
        · exact ⟨Nat.le_refl _, hS, hP, ⟨fun x y h1 h2 h3 => by dsimp only at h1; omega, fun x y h1 h2 h3 => by dsimp only at h2; omega⟩, H⟩
        · rintro ⟨k, g⟩ j1 w ⟨hk, hS, hP, hQ, H⟩; dsimp only at hk hS hP hQ H; dsimp only
          rcases k with _ | k
          · skip
            refine W_seq ?_
            refine W_rseq ?_
            refine op_move rfl (.int _ _) rfl ?_
            refine op_geq rfl rfl rfl ?_
            refine op_nil (at_then ?_)
            refine W_cond _ rfl ?_ ?_
            · intro h2
              replace h2 := dec_t h2
              omega
            · intro h2
              replace h2 := dec_f h2
              refine W_exit (exit_then (exit_then (exit_here (leave0n rfl rfl ?_))))
              exact ⟨rfl, g, hS, hQ.srt, H⟩
          · rw [show ((k + 1 : Nat) : Int) - 1 = (k : Int) by omega]
            refine W_seq ?_
            refine W_rseq ?_
            refine op_move rfl (.int _ _) rfl ?_
            refine op_geq rfl rfl rfl ?_
            refine op_nil (at_then ?_)
            refine W_cond _ rfl ?_ ?_
            · intro h2
              replace h2 := dec_t h2
              refine W_skip (at_then ?_)
              refine W_seq ?_
              refine W_block ?_
              refine W_sseqz [([0, 1, 2, 3, 4, 5, 6, 7, 8, 9, 10, 11, 12, 13, 14, 15, 16], 17), ([18], 19)] (fun z => z.heap[q]? = some (Bl 24 (tabU g m))) [17, 19] mixed_SoB (by kernel_rfl) (H.drew.get at0) ?_
              refine seg_cons rfl rfl ?_
              refine t_move rfl (.slice _ _ _) rfl ?_
              refine t_move rfl (.int _ _) rfl ?_
              refine t_move rfl (.slice _ _ _) rfl ?_
              refine t_move rfl (.int _ _) rfl ?_
              refine t_move rfl (.int _ _) rfl ?_
              refine t_add_i64 rfl rfl rfl (by omega) (by omega) ?_
              refine t_move rfl (.slice _ _ _) rfl ?_
              refine t_move rfl (.int _ _) rfl ?_
              refine t_move rfl (.int _ _) rfl ?_
              refine t_add_i64 rfl rfl rfl (by omega) (by omega) ?_
              refine t_indexAddr rfl el_25_SoB sz_24_SoB rfl rfl (by omega) (by omega) ?_
              first | refine t_ldb rfl ag_24_SoB rfl True.intro (by first | exact at0 | exact at1 | exact at2 | exact at3 | exact at4 | exact at5 | exact at6 | exact at7 | exact at8 | exact at9) rfl ?_ | refine t_ld rfl ag_24_SoB rfl (fun _ hx => (cellU hx (by omega))) ?_
              refine t_move rfl (.slice _ _ _) rfl ?_
              refine t_move rfl (.int _ _) rfl ?_
              refine t_indexAddr rfl el_25_SoB sz_24_SoB rfl rfl (by omega) (by omega) ?_
              first | refine t_ldb rfl ag_24_SoB rfl True.intro (by first | exact at0 | exact at1 | exact at2 | exact at3 | exact at4 | exact at5 | exact at6 | exact at7 | exact at8 | exact at9) rfl ?_ | refine t_ld rfl ag_24_SoB rfl (fun _ hx => (cellU hx (by omega))) ?_
              refine t_indexAddr rfl el_25_SoB sz_24_SoB rfl rfl (by omega) (by omega) ?_
              refine t_nil ?_
              replace H := H.drew
              refine op_str (a + 0) (fun z => .int .u64 (if z = a + 0 then g (a + k) else g z)) (.int _ _) rfl sz_24_SoB rfl rfl rfl H at0 (by omega) (by omega) (by rw [if_pos rfl]; exact congrArg (fun z => Value.int .u64 (g z)) (by omega)) (fun z _ hz => by rw [if_neg hz]) ?_
              rintro w H
              refine op_nil (at_segz rfl ?_)
              refine seg_cons rfl rfl ?_
              refine t_indexAddr rfl el_25_SoB sz_24_SoB rfl rfl (by omega) (by omega) ?_
              refine t_nil ?_
              refine op_str (a + k) (fun z => .int .u64 (sw g (a + 0) (a + k) z)) (.int _ _) rfl sz_24_SoB rfl rfl rfl H at0 (by omega) (by omega) (by rw [sw_snd]; exact congrArg (fun z => Value.int .u64 (g z)) (by omega)) (fun z _ hz => by rw [sw_other hz]) ?_
              rintro w H
              refine op_nil (at_segz rfl ?_)
              refine seg_nil ?_
              refine W_region ?_
              refine op_move rfl (.slice _ _ _) rfl ?_
              refine op_move rfl (.int _ _) rfl ?_
              refine op_move rfl (.int _ _) rfl ?_
              refine op_move rfl (.int _ _) rfl ?_
              refine op_call rfl ca_218_SoB (sift_ok (lo := 0) (hi := k) (o := a) (f := sw g (a + 0) (a + k)) (H.get at0) (by omega) hn hm (by omega) (fun i c h1 h2 h3 => by rw [sw_ne (by omega) (by omega), sw_ne (by omega) (by omega)]; exact hP i c (by omega) h2 (by omega))) rfl ?_
              rintro rv w ⟨rfl, g2, hS2, hP2, H2⟩
              replace H := Ctx.back (L1 := [_]) (L2 := []) H H2
              refine op_nil (at_block (at_then ?_))
              refine W_region ?_
              refine op_move rfl (.int _ _) rfl ?_
              refine op_sub_i64 rfl rfl rfl (by omega) (by omega) ?_
              refine op_assign rfl (.int _ _) rfl ?_
              refine op_nil (at_then ?_)
              have hout := fun z hz => hS2.out z hz
              have hk2 : g2 (a + k) = g (a + 0) := by rw [hout _ (.inr (Nat.le_refl _)), sw_snd]
              have hot : ∀ z, a + k < z → g2 z = g z := fun z hz => by rw [hout _ (.inr (by omega)), sw_ne (by omega) (by omega)]
              refine ⟨(k, g2), rfl, ⟨rfl, trivial⟩, ⟨by dsimp only; omega, (hS.step (a + 0) (a + k) ⟨by omega, by omega⟩ ⟨by omega, by omega⟩).trans (hS2.mono (Nat.le_refl _) (by omega)), hP2, ⟨fun x y h1 h2 h3 => ?_, fun x y h1 h2 h3 => ?_⟩, H⟩, by dsimp only; omega⟩
              · dsimp only at h1 ⊢
                rw [hot y (by omega)]
                by_cases e : x = a + k
                · rw [e, hk2]; exact hQ.le 0 y (by omega) (by omega) h3
                · rw [hot x (by omega)]; exact hQ.srt x y (by omega) h2 h3
              · dsimp only at h1 h2 ⊢
                obtain ⟨z, hz1, hz2, hz3⟩ := hS2.mem (a + x) (by omega) (by omega)
                obtain ⟨u, hu1, hu2⟩ : ∃ u, u < k + 1 ∧ g2 (a + x) = g (a + u) := by
                  by_cases e : z = a + 0
                  · exact ⟨k, by omega, by rw [hz3, e, sw_fst]⟩
                  · exact ⟨z - a, by omega, by rw [hz3, sw_ne e (by omega)]; congr 1; omega⟩
                rw [hu2]
                by_cases e : y = a + k
                · rw [e, hk2]; exact hP.root u hu1
                · rw [hot y (by omega)]; exact hQ.le u y hu1 (by omega) h3
            · intro h2
              replace h2 := dec_f h2
              omega
    · rw [show ((k + 1 : Nat) : Int) - 1 = (k : Int) by omega]
      refine W_seq ?_
      refine W_rseq ?_
      refine op_move rfl (.int _ _) rfl ?_
      refine op_geq rfl rfl rfl ?_
      refine op_nil (at_then ?_)
      refine W_cond _ rfl ?_ ?_
      · intro h1
        replace h1 := dec_t h1
        refine W_skip (at_then ?_)
        refine W_seq ?_
        refine W_block ?_
        refine W_region ?_
        refine op_move rfl (.slice _ _ _) rfl ?_
        refine op_move rfl (.int _ _) rfl ?_
        refine op_move rfl (.int _ _) rfl ?_
        refine op_move rfl (.int _ _) rfl ?_
        refine op_call rfl ca_218_SoB (sift_ok (lo := k) (hi := l) (o := a) (f := g) (H.get at0) (by omega) hn hm (by omega) hP) rfl ?_
        rintro rv w ⟨rfl, g2, hS2, hP2, H2⟩
        replace H := Ctx.back (L1 := [_]) (L2 := []) H H2
        refine op_nil (at_block (at_then ?_))
        refine W_region ?_
        refine op_move rfl (.int _ _) rfl ?_
        refine op_sub_i64 rfl rfl rfl (by omega) (by omega) ?_
        refine op_assign rfl (.int _ _) rfl ?_
        refine op_nil (at_then ?_)
        exact ⟨(k, g2), rfl, ⟨rfl, trivial⟩, ⟨by dsimp only; omega, hS.trans hS2, hP2, H⟩, by dsimp only; omega⟩
      · intro h1
        replace h1 := dec_f h1
        omega
end

end Go.Proofs.YtapphbmlkdhnmaaGreat

/- Sorting numbers of 64 bits: which one is the pivot. -/
namespace Go.Proofs.YtapphbmlkdhnmaaGreat
open Go.GV
theorem ag_24_SoC : aggB Tryz.prog 24 = some false := by kernel_rfl
theorem ag_3_SoC : aggB Tryz.prog 3 = some false := by kernel_rfl
theorem ca_206_SoC : callable Tryz.prog 206 = true := by kernel_rfl
theorem ca_221_SoC : callable Tryz.prog 221 = true := by kernel_rfl
theorem ca_222_SoC : callable Tryz.prog 222 = true := by kernel_rfl
theorem ca_227_SoC : callable Tryz.prog 227 = true := by kernel_rfl
theorem el_25_SoC : elemT Tryz.prog 25 = some 24 := by kernel_rfl
theorem mixed_SoC : Tryz.prog.follows .mixedOrders = true := by kernel_rfl
theorem sz_24_SoC : tsize Tryz.prog 24 = some 1 := by kernel_rfl
theorem sz_3_SoC : tsize Tryz.prog 3 = some 1 := by kernel_rfl
theorem zc_3_SoC : zcells Tryz.prog 3 = some ([.int .i64 0]) := by kernel_rfl
attribute [local irreducible] Wops W Wq Wt

section
variable {w : World} {q n c m s : Nat} {k : Int} {f : Nat → Int}

set_option maxRecDepth 20000 in
theorem order2_ok {i j : Nat} (hd : w.heap[q]? = some (Bl 24 (tabU f m))) (hs : w.heap[s]? = some (Bl 3 [.int .i64 k])) (hi : i < n) (hj : j < n) (hn : n ≤ m) (hm : n ≤ 1000000000) :
    Ret Tryz.prog 227 #[.slice (some ⟨q, 0, none⟩) n c, .int .i64 (i : Int), .int .i64 (j : Int), ptr s] w fun v w' => ∃ (x y : Nat) (k' : Int), ((x = i ∧ y = j) ∨ (x = j ∧ y = i)) ∧ v = .tuple #[.int .i64 (x : Int), .int .i64 (y : Int)] ∧ Ctx w [s] w' [(s, Bl 3 [.int .i64 k'])] := by
  obtain ⟨w0, rfl⟩ : ∃ w0, w0 = w := ⟨_, rfl⟩
  have H := Ctx.start1 hs
  refine ret_of_W (fn := Tryz.f227) Tryz.func227 rfl [.slice (some ⟨q, 0, none⟩) n c, .int .i64 (i : Int), .int .i64 (j : Int), .pointer (some ⟨s, 0, none⟩)] rfl (by kernel_rfl) ?_
  refine W_rseq ?_
  refine op_assign rfl (.int _ _) rfl ?_
  refine op_assign rfl (.int _ _) rfl ?_
  refine op_nil (at_then ?_)
  refine W_seq ?_
  refine W_tseq 8 mixed_SoC (by kernel_rfl) rfl rfl ?_
  refine q_move rfl (.slice _ _ _) rfl ?_
  refine q_move rfl (.int _ _) rfl ?_
  refine q_indexAddr rfl el_25_SoC sz_24_SoC rfl rfl (by omega) (by omega) ?_
  first | refine q_ldb rfl ag_24_SoC rfl (by rintro _ rfl; exact H.drew) (by first | exact at0 | exact at1 | exact at2 | exact at3 | exact at4 | exact at5 | exact at6 | exact at7 | exact at8 | exact at9) rfl ?_ | refine q_ld rfl ag_24_SoC rfl (by rintro _ rfl; exact ((cellU (w := w0.drew) hd (by omega)))) ?_
  refine q_move rfl (.slice _ _ _) rfl ?_
  refine q_move rfl (.int _ _) rfl ?_
  refine q_indexAddr rfl el_25_SoC sz_24_SoC rfl rfl (by omega) (by omega) ?_
  first | refine q_ldb rfl ag_24_SoC rfl (by rintro _ rfl; exact H.drew) (by first | exact at0 | exact at1 | exact at2 | exact at3 | exact at4 | exact at5 | exact at6 | exact at7 | exact at8 | exact at9) rfl ?_ | refine q_ld rfl ag_24_SoC rfl (by rintro _ rfl; exact ((cellU (w := w0.drew) hd (by omega)))) ?_
  refine q_nil ?_
  replace H := H.drew
  refine op_call rfl ca_206_SoC (less_ok _ _ _) rfl ?_
  rintro v w ⟨rfl, rfl⟩
  refine op_nil (at_then ?_)
  refine W_cond _ rfl ?_ ?_
  · intro h1
    refine W_rseq ?_
    refine op_move rfl (.pointer _) rfl ?_
    refine op_nilCheck rfl rfl ?_
    refine op_ldb rfl ag_3_SoC rfl H (by first | exact at0 | exact at1 | exact at2 | exact at3 | exact at4 | exact at5 | exact at6 | exact at7 | exact at8 | exact at9) rfl ?_
    refine op_addw_i64 rfl rfl rfl ?_
    intro k2
    refine op_nilCheck rfl rfl ?_
    refine op_stb (.int _ _) rfl sz_3_SoC rfl rfl rfl H (by first | exact at0 | exact at1 | exact at2 | exact at3 | exact at4 | exact at5 | exact at6 | exact at7 | exact at8 | exact at9) (by first | decide | (simp; done) | (simp; omega)) ?_
    rintro w H
    refine op_nil (at_then ?_)
    refine W_rseq ?_
    refine op_move rfl (.int _ _) rfl ?_
    refine op_move rfl (.int _ _) rfl ?_
    refine op_assign rfl (.int _ _) rfl ?_
    refine op_assign rfl (.int _ _) rfl ?_
    refine op_nil (at_then ?_)
    refine W_ret (ret_then (leave2 (v1 := (.int _ _)) (v2 := (.int _ _)) rfl rfl rfl rfl ?_))
    exact ⟨j, i, k2, .inr ⟨rfl, rfl⟩, rfl, H⟩
  · intro h1
    refine W_skip (at_then ?_)
    refine W_rseq ?_
    refine op_move rfl (.int _ _) rfl ?_
    refine op_move rfl (.int _ _) rfl ?_
    refine op_assign rfl (.int _ _) rfl ?_
    refine op_assign rfl (.int _ _) rfl ?_
    refine op_nil (at_then ?_)
    refine W_ret (leave2 (v1 := (.int _ _)) (v2 := (.int _ _)) rfl rfl rfl rfl ?_)
    exact ⟨i, j, k, .inl ⟨rfl, rfl⟩, rfl, H⟩

set_option maxRecDepth 20000 in
theorem median_ok {i j l : Nat} (hd : w.heap[q]? = some (Bl 24 (tabU f m))) (hs : w.heap[s]? = some (Bl 3 [.int .i64 k])) (hne : q ≠ s) (hi : i < n) (hj : j < n) (hl : l < n) (hn : n ≤ m) (hm : n ≤ 1000000000) :
    Ret Tryz.prog 222 #[.slice (some ⟨q, 0, none⟩) n c, .int .i64 (i : Int), .int .i64 (j : Int), .int .i64 (l : Int), ptr s] w fun v w' => ∃ (x : Nat) (k' : Int), (x = i ∨ x = j ∨ x = l) ∧ v = .int .i64 (x : Int) ∧ Ctx w [s] w' [(s, Bl 3 [.int .i64 k'])] := by
  obtain ⟨w0, rfl⟩ : ∃ w0, w0 = w := ⟨_, rfl⟩
  have H := Ctx.start1 hs
  have hq : q ∉ [s] := by rw [List.mem_singleton]; exact hne
  refine ret_of_W (fn := Tryz.f222) Tryz.func222 rfl [.slice (some ⟨q, 0, none⟩) n c, .int .i64 (i : Int), .int .i64 (j : Int), .int .i64 (l : Int), .pointer (some ⟨s, 0, none⟩)] rfl (by kernel_rfl) ?_
  refine W_rseq ?_
  refine op_assign rfl (.int _ _) rfl ?_
  refine op_nil (at_then ?_)
  refine W_rseq ?_
  refine op_move rfl (.slice _ _ _) rfl ?_
  refine op_move rfl (.int _ _) rfl ?_
  refine op_move rfl (.int _ _) rfl ?_
  refine op_move rfl (.pointer _) rfl ?_
  refine op_call rfl ca_227_SoC (order2_ok (i := i) (j := j) (H.ext.to hd hq) (H.get at0) hi hj hn hm) rfl ?_
  rintro v w ⟨x1, y1, k1, h1, rfl, H2⟩
  replace H := Ctx.back (L1 := [_]) (L2 := []) H H2
  refine op_move rfl (.tuple _) rfl ?_
  refine op_extract rfl rfl rfl ?_
  refine op_extract rfl rfl rfl ?_
  refine op_assign rfl (.int _ _) rfl ?_
  refine op_assign rfl (.int _ _) rfl ?_
  refine op_nil (at_then ?_)
  refine W_rseq ?_
  refine op_move rfl (.slice _ _ _) rfl ?_
  refine op_move rfl (.int _ _) rfl ?_
  refine op_move rfl (.int _ _) rfl ?_
  refine op_move rfl (.pointer _) rfl ?_
  refine op_call rfl ca_227_SoC (order2_ok (i := y1) (j := l) (H.ext.to hd hq) (H.get at0) (by omega) hl hn hm) rfl ?_
  rintro v w ⟨x2, y2, k2, h2, rfl, H2⟩
  replace H := Ctx.back (L1 := [_]) (L2 := []) H H2
  refine op_move rfl (.tuple _) rfl ?_
  refine op_extract rfl rfl rfl ?_
  refine op_extract rfl rfl rfl ?_
  refine op_assign rfl (.int _ _) rfl ?_
  refine op_assign rfl (.int _ _) rfl ?_
  refine op_nil (at_then ?_)
  refine W_rseq ?_
  refine op_move rfl (.slice _ _ _) rfl ?_
  refine op_move rfl (.int _ _) rfl ?_
  refine op_move rfl (.int _ _) rfl ?_
  refine op_move rfl (.pointer _) rfl ?_
  refine op_call rfl ca_227_SoC (order2_ok (i := x1) (j := x2) (H.ext.to hd hq) (H.get at0) (by omega) (by omega) hn hm) rfl ?_
  rintro v w ⟨x3, y3, k3, h3, rfl, H2⟩
  replace H := Ctx.back (L1 := [_]) (L2 := []) H H2
  refine op_move rfl (.tuple _) rfl ?_
  refine op_extract rfl rfl rfl ?_
  refine op_extract rfl rfl rfl ?_
  refine op_assign rfl (.int _ _) rfl ?_
  refine op_assign rfl (.int _ _) rfl ?_
  refine op_nil (at_then ?_)
  refine W_rseq ?_
  refine op_move rfl (.int _ _) rfl ?_
  refine op_assign rfl (.int _ _) rfl ?_
  refine op_nil (at_then ?_)
  refine W_ret (leave1 (v := (.int _ _)) rfl rfl rfl ?_)
  exact ⟨y3, k3, by omega, rfl, H⟩

set_option maxRecDepth 20000 in
theorem medianadj_ok {i : Nat} (hd : w.heap[q]? = some (Bl 24 (tabU f m))) (hs : w.heap[s]? = some (Bl 3 [.int .i64 k])) (hne : q ≠ s) (hi0 : 0 < i) (hi : i + 1 < n) (hn : n ≤ m) (hm : n ≤ 1000000000) :
    Ret Tryz.prog 221 #[.slice (some ⟨q, 0, none⟩) n c, .int .i64 (i : Int), ptr s] w fun v w' => ∃ (x : Nat) (k' : Int), (x + 1 = i ∨ x = i ∨ x = i + 1) ∧ v = .int .i64 (x : Int) ∧ Ctx w [s] w' [(s, Bl 3 [.int .i64 k'])] := by
  obtain ⟨w0, rfl⟩ : ∃ w0, w0 = w := ⟨_, rfl⟩
  refine ret_of_W (fn := Tryz.f221) Tryz.func221 rfl [.slice (some ⟨q, 0, none⟩) n c, .int .i64 (i : Int), .pointer (some ⟨s, 0, none⟩)] rfl (by kernel_rfl) ?_
  refine W_rseq ?_
  refine op_assign rfl (.int _ _) rfl ?_
  refine op_nil (at_then ?_)
  refine W_rseq ?_
  refine op_move rfl (.slice _ _ _) rfl ?_
  refine op_move rfl (.int _ _) rfl ?_
  refine op_sub_i64 rfl rfl rfl (by omega) (by omega) ?_
  rw [show (i : Int) - 1 = ((i - 1 : Nat) : Int) by omega]
  refine op_move rfl (.int _ _) rfl ?_
  refine op_move rfl (.int _ _) rfl ?_
  refine op_add_i64 rfl rfl rfl (by omega) (by omega) ?_
  rw [show (i : Int) + 1 = ((i + 1 : Nat) : Int) by omega]
  refine op_move rfl (.pointer _) rfl ?_
  refine op_call rfl ca_222_SoC (median_ok (i := i - 1) (j := i) (l := i + 1) hd hs hne (by omega) (by omega) (by omega) hn hm) rfl ?_
  rintro v w ⟨x1, k1, h1, rfl, H⟩
  refine op_assign rfl (.int _ _) rfl ?_
  refine op_nil (at_then ?_)
  refine W_ret (leave1 (v := (.int _ _)) rfl rfl rfl ?_)
  exact ⟨x1, k1, by omega, rfl, H⟩

set_option maxRecDepth 20000 in
set_option maxHeartbeats 2000000 in
theorem pivot_ok {a b : Nat} (hd : w.heap[q]? = some (Bl 24 (tabU f m))) (hab : a < b) (hb : b ≤ n) (hn : n ≤ m) (hm : n ≤ 1000000000) :
    Ret Tryz.prog 203 #[.slice (some ⟨q, 0, none⟩) n c, .int .i64 (a : Int), .int .i64 (b : Int)] w fun v w' => ∃ (x : Nat) (h : Int), a ≤ x ∧ x < b ∧ v = .tuple #[.int .i64 (x : Int), .int .i64 h] ∧ Ext [] w w' := by
  obtain ⟨w0, rfl⟩ : ∃ w0, w0 = w := ⟨_, rfl⟩
  have H := Ctx.start w0 []
  obtain ⟨l, rfl⟩ : ∃ l, b = a + l := ⟨b - a, by omega⟩
  have hl : ((a + l : Nat) : Int) - (a : Int) = (l : Int) := by omega
  have hql := heap_lt hd
  refine ret_of_W (fn := Tryz.f203) Tryz.func203 rfl [.slice (some ⟨q, 0, none⟩) n c, .int .i64 (a : Int), .int .i64 ((a + l : Nat) : Int)] rfl (by kernel_rfl) ?_
  refine W_rseq ?_
  refine op_assign rfl (.int _ _) rfl ?_
  refine op_assign rfl (.int _ _) rfl ?_
  refine op_nil (at_then ?_)
  refine W_rseq ?_
  refine op_move rfl (.int _ _) rfl ?_
  refine op_move rfl (.int _ _) rfl ?_
  refine op_sub_i64 rfl rfl rfl (by omega) (by omega) ?_
  rw [hl]
  refine op_assign rfl (.int _ _) rfl ?_
  refine op_nil (at_then ?_)
  refine W_rseq ?_
  refine op_alloc rfl zc_3_SoC H ?_
  rintro b9 w - H
  refine op_nil (at_then ?_)
  refine W_rseq ?_
  refine op_move rfl (.int _ _) rfl ?_
  refine op_move rfl (.int _ _) rfl ?_
  refine op_quo rfl rfl rfl (by omega) (by omega) (show _ ≤ (9223372036854775807 : Int) by omega) ?_
  refine op_mul_i64 rfl rfl rfl (by omega) (by omega) ?_
  refine op_add_i64 rfl rfl rfl (by omega) (by omega) ?_
  rw [show (a : Int) + (l : Int) / 4 * 1 = ((a + l / 4 : Nat) : Int) by omega]
  refine op_assign rfl (.int _ _) rfl ?_
  refine op_nil (at_then ?_)
  refine W_rseq ?_
  refine op_move rfl (.int _ _) rfl ?_
  refine op_move rfl (.int _ _) rfl ?_
  refine op_quo rfl rfl rfl (by omega) (by omega) (show _ ≤ (9223372036854775807 : Int) by omega) ?_
  refine op_mul_i64 rfl rfl rfl (by omega) (by omega) ?_
  refine op_add_i64 rfl rfl rfl (by omega) (by omega) ?_
  rw [show (a : Int) + (l : Int) / 4 * 2 = ((a + l / 4 * 2 : Nat) : Int) by omega]
  refine op_assign rfl (.int _ _) rfl ?_
  refine op_nil (at_then ?_)
  refine W_rseq ?_
  refine op_move rfl (.int _ _) rfl ?_
  refine op_move rfl (.int _ _) rfl ?_
  refine op_quo rfl rfl rfl (by omega) (by omega) (show _ ≤ (9223372036854775807 : Int) by omega) ?_
  refine op_mul_i64 rfl rfl rfl (by omega) (by omega) ?_
  refine op_add_i64 rfl rfl rfl (by omega) (by omega) ?_
  rw [show (a : Int) + (l : Int) / 4 * 3 = ((a + l / 4 * 3 : Nat) : Int) by omega]
  refine op_assign rfl (.int _ _) rfl ?_
  refine op_nil (at_then ?_)
  refine W_seq ?_
  refine W_rseq ?_
  refine op_move rfl (.int _ _) rfl ?_
  refine op_geq rfl rfl rfl ?_
  refine op_nil (at_then ?_)
  have hqs := H.own _ (List.mem_cons_self ..)
  have hne : q ≠ b9 := fun e => by subst e; rcases hqs with h | h; cases h; dsimp only at h; omega
  refine W_joinK 562941363493888 (α := Nat × Int) (fun z => [(11, .int .i64 (z.1 : Int))]) (fun z w' => a ≤ z.1 ∧ z.1 < a + l ∧ Ctx w0 [] w' [(b9, Bl 3 [.int .i64 z.2])]) rfl ?_ ?_
  · skip
    refine W_cond _ rfl ?_ ?_
    · intro h1
      replace h1 := dec_t h1
      refine W_seq ?_
      refine W_rseq ?_
      refine op_move rfl (.int _ _) rfl ?_
      refine op_geq rfl rfl rfl ?_
      refine op_nil (at_then ?_)
      refine W_joinK 17557826313216 (α := Nat × Nat × Nat × Int) (fun z => [(10, .int .i64 (z.1 : Int)), (11, .int .i64 (z.2.1 : Int)), (12, .int .i64 (z.2.2.1 : Int))]) (fun z w' => (a ≤ z.1 ∧ z.1 < a + l) ∧ (a ≤ z.2.1 ∧ z.2.1 < a + l) ∧ (a ≤ z.2.2.1 ∧ z.2.2.1 < a + l) ∧ Ctx w0 [] w' [(b9, Bl 3 [.int .i64 z.2.2.2])]) rfl ?_ ?_
      · skip
        refine W_cond _ rfl ?_ ?_
        · intro h2
          replace h2 := dec_t h2
          refine W_rseq ?_
          refine op_move rfl (.slice _ _ _) rfl ?_
          refine op_move rfl (.int _ _) rfl ?_
          refine op_call rfl ca_221_SoC (medianadj_ok (i := a + l / 4) (H.ext.to hd (by simp)) (H.get at0) hne (by omega) (by omega) hn hm) rfl ?_
          rintro v w ⟨x1, k1, h3, rfl, H2⟩
          replace H := Ctx.back (L1 := [_]) (L2 := []) H H2
          refine op_assign rfl (.int _ _) rfl ?_
          refine op_nil (at_then ?_)
          refine W_rseq ?_
          refine op_move rfl (.slice _ _ _) rfl ?_
          refine op_move rfl (.int _ _) rfl ?_
          refine op_call rfl ca_221_SoC (medianadj_ok (i := a + l / 4 * 2) (H.ext.to hd (by simp)) (H.get at0) hne (by omega) (by omega) hn hm) rfl ?_
          rintro v w ⟨x2, k2, h4, rfl, H2⟩
          replace H := Ctx.back (L1 := [_]) (L2 := []) H H2
          refine op_assign rfl (.int _ _) rfl ?_
          refine op_nil (at_then ?_)
          refine W_region ?_
          refine op_move rfl (.slice _ _ _) rfl ?_
          refine op_move rfl (.int _ _) rfl ?_
          refine op_call rfl ca_221_SoC (medianadj_ok (i := a + l / 4 * 3) (H.ext.to hd (by simp)) (H.get at0) hne (by omega) (by omega) hn hm) rfl ?_
          rintro v w ⟨x3, k3, h5, rfl, H2⟩
          replace H := Ctx.back (L1 := [_]) (L2 := []) H H2
          refine op_assign rfl (.int _ _) rfl ?_
          refine op_nil (at_then ?_)
          exact ⟨(x1, x2, x3, k3), rfl, ⟨rfl, rfl, rfl, trivial⟩, by dsimp only; omega, by dsimp only; omega, by dsimp only; omega, H⟩
        · intro h2
          replace h2 := dec_f h2
          refine W_skip (at_then ?_)
          exact ⟨(a + l / 4, a + l / 4 * 2, a + l / 4 * 3, _), rfl, ⟨rfl, rfl, rfl, trivial⟩, by dsimp only; omega, by dsimp only; omega, by dsimp only; omega, H⟩
      · rintro ⟨x1, x2, x3, k1⟩ j1 w ⟨g1, g2, g3, H⟩; dsimp only at g1 g2 g3 H; dsimp only
        refine W_region ?_
        refine op_move rfl (.slice _ _ _) rfl ?_
        refine op_move rfl (.int _ _) rfl ?_
        refine op_move rfl (.int _ _) rfl ?_
        refine op_move rfl (.int _ _) rfl ?_
        refine op_call rfl ca_222_SoC (median_ok (i := x1) (j := x2) (l := x3) (H.ext.to hd (by simp)) (H.get at0) hne (by omega) (by omega) (by omega) hn hm) rfl ?_
        rintro v w ⟨x4, k4, h3, rfl, H2⟩
        replace H := Ctx.back (L1 := [_]) (L2 := []) H H2
        refine op_assign rfl (.int _ _) rfl ?_
        refine op_nil (at_then ?_)
        exact ⟨(x4, k4), rfl, ⟨rfl, trivial⟩, by dsimp only; omega, by dsimp only; omega, H⟩
    · intro h1
      replace h1 := dec_f h1
      refine W_skip (at_then ?_)
      exact ⟨(a + l / 4 * 2, _), rfl, ⟨rfl, trivial⟩, by dsimp only; omega, by dsimp only; omega, H⟩
  · rintro ⟨x, k⟩ j w ⟨g1, g2, H⟩; dsimp only at g1 g2 H; dsimp only
    refine W_rseq ?_
    refine op_ldb rfl ag_3_SoC rfl H (by first | exact at0 | exact at1 | exact at2 | exact at3 | exact at4 | exact at5 | exact at6 | exact at7 | exact at8 | exact at9) rfl ?_
    refine op_nil (at_then ?_)
    refine W_block ?_
    refine W_rseq ?_
    refine op_eql rfl rfl rfl ?_
    refine op_assign rfl (.bool _) rfl ?_
    refine op_nil (at_then ?_)
    refine W_cond _ rfl ?_ ?_
    · intro h1
      replace h1 := dec_t h1
      refine W_rseq ?_
      refine op_move rfl (.int _ _) rfl ?_
      refine op_assign rfl (.int _ _) rfl ?_
      refine op_assign rfl (.int _ _) rfl ?_
      refine op_nil (at_then ?_)
      refine W_ret (ret_block (leave2 (v1 := (.int _ _)) (v2 := (.int _ _)) rfl rfl rfl rfl ?_))
      exact ⟨x, _, g1, g2, rfl, H.ext⟩
    · intro h2
      replace h2 := dec_f h2
      refine W_rseq ?_
      refine op_eql rfl rfl rfl ?_
      refine op_assign rfl (.bool _) rfl ?_
      refine op_nil (at_then ?_)
      refine W_cond _ rfl ?_ ?_
      · intro h3
        replace h3 := dec_t h3
        refine W_rseq ?_
        refine op_move rfl (.int _ _) rfl ?_
        refine op_assign rfl (.int _ _) rfl ?_
        refine op_assign rfl (.int _ _) rfl ?_
        refine op_nil (at_then ?_)
        refine W_ret (ret_block (leave2 (v1 := (.int _ _)) (v2 := (.int _ _)) rfl rfl rfl rfl ?_))
        exact ⟨x, _, g1, g2, rfl, H.ext⟩
      · intro h4
        replace h4 := dec_f h4
        refine W_rseq ?_
        refine op_move rfl (.int _ _) rfl ?_
        refine op_assign rfl (.int _ _) rfl ?_
        refine op_assign rfl (.int _ _) rfl ?_
        refine op_nil (at_then ?_)
        refine W_ret (ret_block (leave2 (v1 := (.int _ _)) (v2 := (.int _ _)) rfl rfl rfl rfl ?_))
        exact ⟨x, _, g1, g2, rfl, H.ext⟩

set_option maxRecDepth 20000 in
set_option maxHeartbeats 2000000 in
theorem reverse_ok {a b : Nat} (hd : w.heap[q]? = some (Bl 24 (tabU f m))) (hab : a < b) (hb : b ≤ n) (hn : n ≤ m) (hm : n ≤ 1000000000) :
    Ret Tryz.prog 204 #[.slice (some ⟨q, 0, none⟩) n c, .int .i64 (a : Int), .int .i64 (b : Int)] w fun v w' => v = .tuple #[] ∧ ∃ g, Sw a b f g ∧ Ctx w [q] w' [(q, Bl 24 (tabU g m))] := by
  obtain ⟨w0, rfl⟩ : ∃ w0, w0 = w := ⟨_, rfl⟩
  have H := Ctx.start1 hd
  refine ret_of_W (fn := Tryz.f204) Tryz.func204 rfl [.slice (some ⟨q, 0, none⟩) n c, .int .i64 (a : Int), .int .i64 (b : Int)] rfl (by kernel_rfl) ?_
  refine W_rseq ?_
  refine op_move rfl (.int _ _) rfl ?_
  refine op_assign rfl (.int _ _) rfl ?_
  refine op_nil (at_then ?_)
  refine W_rseq ?_
  refine op_move rfl (.int _ _) rfl ?_
  refine op_sub_i64 rfl rfl rfl (by omega) (by omega) ?_
  rw [show (b : Int) - 1 = ((b - 1 : Nat) : Int) by omega]
  refine op_assign rfl (.int _ _) rfl ?_
  refine op_nil (at_then ?_)
  refine W_block ?_
  refine W_loop 4294965440 (α := Nat × Nat × (Nat → Int)) (fun t => [(6, .int .i64 (t.1 : Int)), (7, .int .i64 (t.2.1 : Int))]) (fun t w' => a ≤ t.1 ∧ t.2.1 < b ∧ t.1 ≤ b ∧ Sw a b f t.2.2 ∧ Ctx w0 [q] w' [(q, Bl 24 (tabU t.2.2 m))]) (fun t => b - t.1) (a, b - 1, f) rfl ?_ ?_ ?_
  · exact ⟨rfl, rfl, trivial⟩
  · exact ⟨Nat.le_refl _, by dsimp only; omega, by dsimp only; omega, .refl _, H⟩
  · rintro ⟨i, j, g⟩ j0 w ⟨g1, g2, g3, hS, H⟩; dsimp only at g1 g2 g3 hS H; dsimp only
    refine W_seq ?_
    refine W_rseq ?_
    refine op_move rfl (.int _ _) rfl ?_
    refine op_move rfl (.int _ _) rfl ?_
    refine op_lss rfl rfl rfl ?_
    refine op_nil (at_then ?_)
    refine W_cond _ rfl ?_ ?_
    · intro h1
      replace h1 := dec_t h1
      refine W_skip (at_then ?_)
      refine W_block ?_
      refine W_sseqz [([0, 1, 2, 3, 4, 5, 6, 7, 8, 9, 10, 11, 12], 13), ([14], 15)] (fun z => z.heap[q]? = some (Bl 24 (tabU g m))) [13, 15] mixed_SoC (by kernel_rfl) (H.drew.get at0) ?_
      refine seg_cons rfl rfl ?_
      refine t_move rfl (.slice _ _ _) rfl ?_
      refine t_move rfl (.int _ _) rfl ?_
      refine t_move rfl (.slice _ _ _) rfl ?_
      refine t_move rfl (.int _ _) rfl ?_
      refine t_move rfl (.slice _ _ _) rfl ?_
      refine t_move rfl (.int _ _) rfl ?_
      refine t_indexAddr rfl el_25_SoC sz_24_SoC rfl rfl (by omega) (by omega) ?_
      first | refine t_ldb rfl ag_24_SoC rfl True.intro (by first | exact at0 | exact at1 | exact at2 | exact at3 | exact at4 | exact at5 | exact at6 | exact at7 | exact at8 | exact at9) rfl ?_ | refine t_ld rfl ag_24_SoC rfl (fun _ hx => (cellU hx (by omega))) ?_
      refine t_move rfl (.slice _ _ _) rfl ?_
      refine t_move rfl (.int _ _) rfl ?_
      refine t_indexAddr rfl el_25_SoC sz_24_SoC rfl rfl (by omega) (by omega) ?_
      first | refine t_ldb rfl ag_24_SoC rfl True.intro (by first | exact at0 | exact at1 | exact at2 | exact at3 | exact at4 | exact at5 | exact at6 | exact at7 | exact at8 | exact at9) rfl ?_ | refine t_ld rfl ag_24_SoC rfl (fun _ hx => (cellU hx (by omega))) ?_
      refine t_indexAddr rfl el_25_SoC sz_24_SoC rfl rfl (by omega) (by omega) ?_
      refine t_nil ?_
      replace H := H.drew
      refine op_str i (fun z => .int .u64 (if z = i then g j else g z)) (.int _ _) rfl sz_24_SoC rfl rfl rfl H at0 (by omega) (by omega) (by rw [if_pos rfl]; exact congrArg (fun z => Value.int .u64 (g z)) (by omega)) (fun z _ hz => by rw [if_neg hz]) ?_
      rintro w H
      refine op_nil (at_segz rfl ?_)
      refine seg_cons rfl rfl ?_
      refine t_indexAddr rfl el_25_SoC sz_24_SoC rfl rfl (by omega) (by omega) ?_
      refine t_nil ?_
      refine op_str j (fun z => .int .u64 (sw g i j z)) (.int _ _) rfl sz_24_SoC rfl rfl rfl H at0 (by omega) (by omega) (by rw [sw_snd]; exact congrArg (fun z => Value.int .u64 (g z)) (by omega)) (fun z _ hz => by rw [sw_other hz]) ?_
      rintro w H
      refine op_nil (at_segz rfl ?_)
      refine seg_nil ?_
      refine W_rseq ?_
      refine op_move rfl (.int _ _) rfl ?_
      refine op_add_i64 rfl rfl rfl (by omega) (by omega) ?_
      refine op_assign rfl (.int _ _) rfl ?_
      refine op_nil (at_then ?_)
      refine W_region ?_
      refine op_move rfl (.int _ _) rfl ?_
      refine op_sub_i64 rfl rfl rfl (by omega) (by omega) ?_
      refine op_assign rfl (.int _ _) rfl ?_
      refine op_nil (at_block (at_then ?_))
      exact ⟨(i + 1, j - 1, sw g i j), rfl, ⟨congrArg (Value.int .i64) (by dsimp only; omega), congrArg (Value.int .i64) (by dsimp only; omega), trivial⟩, ⟨by dsimp only; omega, by dsimp only; omega, by dsimp only; omega, hS.step i j ⟨by omega, by omega⟩ ⟨by omega, by omega⟩, H⟩, by dsimp only; omega⟩
    · intro h1
      replace h1 := dec_f h1
      refine W_exit (exit_then (exit_then (exit_here (leave0n rfl rfl ?_))))
      exact ⟨rfl, g, hS, H⟩
end

end Go.Proofs.YtapphbmlkdhnmaaGreat
