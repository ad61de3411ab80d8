/- Joins and slices that are built of more than one part. It holds for every program. -/
import Derived.Test.YtogaoppnoibgdaaGVMap
import Derived.Laws.Tables
namespace Go.GV
open Go

def placesB (P : Program) (t : TypeId) : Option (List (Nat × Nat)) :=
  match P.underlying t with
  | some (.struct fs) => fs.toList.mapM (fun f => (P.info? f.type).map fun i => (f.offset, i.size))
  | _ => none

section
variable {P : Program} {r : Option Nat} {ops rest : List Oper} {Q : Exit → Env → World → Prop} {e : Env} {w w0 : World} {S : List Nat} {L : List (Nat × Obj)}
  {dst : Option Tmp} {ty : TypeId} {pos : String} {af : Array Edge} {g : Option (Nat × Bool)}

theorem built_of {t : TypeId} {pl : List (Nat × Nat)} {zl : List Value} {ps : List (Nat × Value)} {l : Array Value} (hp : placesB P t = some pl) (hz : zcells P t = some zl)
    (hl : Instr.fill (fun i => pl.toArray[i]?) zl.toArray ps = some l) : P.built t ps = some l := by
  unfold placesB at hp
  unfold zcells at hz
  unfold Program.built
  cases hu : P.underlying t with
  | none => rw [hu] at hp; cases hp
  | some d =>
    rw [hu] at hp
    cases hi : P.info? t with
    | none => rw [hi] at hz; cases hz
    | some it =>
      rw [hi] at hz
      cases hzz : it.zero with
      | none => simp [hzz] at hz
      | some z =>
        simp only [Option.bind_some, hzz, Option.map_some, Option.some.injEq] at hz
        subst hz
        cases d <;> first | (cases hp; done) | skip
        rename_i fields
        have hp' : fields.toList.mapM (fun f => (P.info? f.type).map fun i => (f.offset, i.size)) = some pl := hp
        simp only [hzz, hp']
        simpa using hl

theorem op_buildS {t : TypeId} {parts : Array (Nat × Operand)} {pl : List (Nat × Nat)} {zl : List Value} (l : List Value) (hg : wants ⟨dst, .build t parts, ty, pos, af, g⟩ ops e = true) (hp : placesB P t = some pl) (hz : zcells P t = some zl)
    (hl : Instr.fill (fun i => pl.toArray[i]?) zl.toArray (parts.toList.map fun p => (p.1, ev e p.2)) = some l.toArray) (h : Wops P r ops Q rest (put e dst (.agg l.toArray)) w) :
    Wops P r ops Q (⟨dst, .build t parts, ty, pos, af, g⟩ :: rest) e w := by
  refine op_val hg rfl ?_ h
  have hb : P.built t (parts.map fun (i, x) => (i, ev e x)).toList = some l.toArray := built_of hp hz (by rw [Array.toList_map]; exact hl)
  simp [execOp, run_build w t _ _ hb]

theorem op_buildL {t el : TypeId} {n : Nat} {parts : Array (Nat × Operand)} {s : Nat} {zl : List Value} (l : List Value) (hg : wants ⟨dst, .buildSlice t n parts, ty, pos, af, g⟩ ops e = true)
    (hu : elemT P t = some el) (hs : tsize P el = some s) (hz : zcells P el = some zl) (hn : ¬ n * s = 0) (hbig : ¬ 16777216 < n * s)
    (hl : Instr.fill (fun i => some (i * s, s)) ((Array.range (n * s)).map fun k => zl.toArray[k % zl.toArray.size]!) (parts.toList.map fun p => (p.1, ev e p.2)) = some l.toArray) (H : Ctx w0 S w L)
    (h : ∀ b w', w.heap.size = b → Ctx w0 S w' ((b, Bl el l) :: L) → Wops P r ops Q rest (put e dst (.slice (some ⟨b, 0, none⟩) n n)) w') :
    Wops P r ops Q (⟨dst, .buildSlice t n parts, ty, pos, af, g⟩ :: rest) e w := by
  obtain ⟨z, hz1, hz2⟩ := run_zero hz w
  have hzc : z.cells = zl.toArray := by apply Array.ext'; rw [hz2]
  refine op_val (w' := w.alloc (Bl el l)) (v := .slice (some ⟨w.heap.size, 0, none⟩) n n) hg rfl ?_ (h _ _ rfl (H.alloc _))
  have hf : Instr.fill (fun i => some (i * s, s)) ((Array.range (n * s)).map fun k => zl.toArray[k % zl.toArray.size]!) (parts.map fun (i, x) => (i, ev e x)).toList = some l.toArray := by rw [Array.toList_map]; exact hl
  simp only [execOp, Instr.buildSlice, Sem.run_bind, run_under (elemT_u hu), run_size hs, Result.andThen_ok, if_neg hbig, if_neg hn, hz1, Sem.run_pure, hzc]
  rw [hf]
  simp [newRow, newObj, Sem.run]
  rfl

/-- A result that lies in a block. -/
theorem leave1c {fn : Func} {R : Value → World → Prop} {a : Tmp} {t : TypeId} {p : Addr} {v : Value} (hr : fn.results = #[.cell a t]) (hd : e.ds = []) (ha : e.g a = .pointer (some p)) (hv : (loadVar t p).run P w = .ok v w) (h : R v w) : Qret P fn R .ret e w :=
  ⟨hd, fun tmps ht => by
    have h1 := (ht a).trans ha
    rw [Array.getD_eq_getD_getElem?] at h1
    exact ⟨v, by simp [results, hr, h1, asAddr, hv], h⟩⟩
theorem leave1b {fn : Func} {R : Value → World → Prop} {a : Tmp} {t t2 : TypeId} {b k s : Nat} {l : List Value} (hr : fn.results = #[.cell a t]) (hd : e.ds = []) (ha : e.g a = .pointer (some ⟨b, 0, none⟩)) (hag : aggB P t = some true) (hs : tsize P t = some s)
    (H : Ctx w0 S w L) (hk : L[k]? = some (b, Bl t2 l)) (hl : l.length = s) (h : R (.agg l.toArray) w) : Qret P fn R .ret e w :=
  leave1c hr hd ha (run_loadN hag hs hl (fun j v hv => by rw [cell_bl (H.get hk), Nat.zero_add]; exact hv)) h
end
end Go.GV
