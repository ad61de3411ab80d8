/- Part 8 of the proof. -/
import Derived.Test.YtbkadlngijkmmaaGreatDoorPart7
/- What a page's node has, once something is done below it: what the walk needs. -/
namespace Go.Proofs.YtbkadlngijkmmaaGreatDoor
open Go.GV

theorem Grown.weak {M M' M'' : Mut} {w w' : World} (t : Grown M M' w w') (h : ∀ x, M'' x → M' x) : Grown M M'' w w' := ⟨t.1, fun x hx => t.2 x (h x hx)⟩
theorem Grown.nil {M M' : Mut} {w w' : World} (t : Grown (MY M []) M' w w') : Grown M M' w w' := by
  obtain ⟨⟨S, hS, hx⟩, g⟩ := t
  exact ⟨⟨S, fun x h => MY.nil x (hS x h), hx⟩, fun x h => (g x h).imp (MY.nil x) id⟩
/-- A change in the midst of a function that has blocks of its own. -/
structure Fr (w0 : World) (Z M0 : Mut) (w : World) (bt bd bp ba fr bc : Nat) (c : Ch) (F : Mut) (L Y : List (Nat × Obj)) : Prop where
  X : Cx w bt bd bp ba fr bc c F L
  O : Fo w (MZ (TM F ba bt bp L) Z) Y
  GT : Grown M0 (TM F ba bt bp L) w0 w
  GA : Grown (MZ M0 Z) (MY (MZ (TM F ba bt bp L) Z) Y) w0 w
  yo : ∀ y ∈ Y.map (·.1), w0.heap.size ≤ y
  sz : w0.heap.size ≤ w.heap.size
  hZ : ∀ x, Z x → x < w0.heap.size
section
variable {w0 w w' : World} {Z M0 : Mut} {bt bd bp ba fr bc : Nat} {c c' : Ch} {F F' : Mut} {L L' Y Y' : List (Nat × Obj)}
theorem Fr.start (X : Cx w bt bd bp ba fr bc c F L) (hZ : ∀ x, Z x → x < w.heap.size) : Fr w Z (TM F ba bt bp L) w bt bd bp ba fr bc c F L [] :=
  ⟨X, Fo.nil, .call0 (.refl _ _), (Grown.call0 (.refl _ _)).weak MY.nil, (fun y h => by cases h), Nat.le_refl _, hZ⟩
theorem Fr.lt (E : Fr w0 Z M0 w bt bd bp ba fr bc c F L Y) : ∀ x, MZ (TM F ba bt bp L) Z x → x < w.heap.size := fun x h => h.elim (E.X.T.mlt x) fun h => Nat.lt_of_lt_of_le (E.hZ x h) E.sz
theorem Fr.mylt (E : Fr w0 Z M0 w bt bd bp ba fr bc c F L Y) : ∀ x, MY (MZ (TM F ba bt bp L) Z) Y x → x < w.heap.size := E.O.lt E.lt
theorem Fr.zlt (E : Fr w0 Z M0 w bt bd bp ba fr bc c F L Y) : ∀ x, MY Z Y x → x < w.heap.size := fun x h => E.mylt x (h.elim (fun h => .inl (.inr h)) .inr)
theorem Fr.fresh (E : Fr w0 Z M0 w bt bd bp ba fr bc c F L Y) : ∀ x, MY (MZ (TM F' ba bt bp L') Z) Y x → MZ (TM F' ba bt bp L') (Old w) x := fun x h => by
  rcases h with (h | h) | h
  · exact .inl h
  · exact .inr (E.lt x (.inr h))
  · exact .inr (E.mylt x (.inr h))
theorem Fr.own (E : Fr w0 Z M0 w bt bd bp ba fr bc c F L Y) (H : Ctx w (Y.map (·.1)) w' Y') : Fr w0 Z M0 w' bt bd bp ba fr bc c F L Y' ∧ Grown (MY (MZ (TM F ba bt bp L) Z) Y) (MY (MZ (TM F ba bt bp L) Z) Y') w w' := by
  obtain ⟨O', g⟩ := E.O.own E.lt H
  exact ⟨⟨E.X.side (E.O.weak fun _ h => .inl h) H.ext, O', E.GT.side H.ext E.yo, E.GA.trans g, young E.yo E.sz H, Nat.le_trans E.sz H.ext.size, E.hZ⟩, g⟩
theorem Fr.call (E : Fr w0 Z M0 w bt bd bp ba fr bc c F L Y) (X' : Cx w' bt bd bp ba fr bc c' F' L') (t : Grown (TM F ba bt bp L) (TM F' ba bt bp L') w w') : Fr w0 Z M0 w' bt bd bp ba fr bc c' F' L' Y ∧ Grown (MY (MZ (TM F ba bt bp L) Z) Y) (MY (MZ (TM F' ba bt bp L') Z) Y) w w' := by
  obtain ⟨O', g⟩ := E.O.call (t.or Z)
  obtain ⟨S, _, hx⟩ := t.1
  exact ⟨⟨X', O', E.GT.trans t, E.GA.trans g, E.yo, Nat.le_trans E.sz hx.size, E.hZ⟩, g⟩
theorem Fr.call0 (E : Fr w0 Z M0 w bt bd bp ba fr bc c F L Y) (hx : Ext [] w w') : Fr w0 Z M0 w' bt bd bp ba fr bc c F L Y ∧ Grown (MY (MZ (TM F ba bt bp L) Z) Y) (MY (MZ (TM F ba bt bp L) Z) Y) w w' :=
  E.call (E.X.side Fo.nil hx) (.call0 hx)
end
/-- What is done to a leaf's items, wherever. -/
def DoOk (f : Nat) (cl : List Value) (G : List It → List It) (w : World) (M : Mut) : Prop :=
  ∀ (w' : World) (M' : Mut), Grown M M' w w' → (∀ x, M' x → x < w'.heap.size) → ∀ (a : Option Addr) (n c : Nat) (l : List It), Its w' M' a n c l → n ≤ 100000 →
    Ret Tryz.prog f (Value.slice a n c :: cl).toArray w' fun v w'' => ∃ a' c', v = .slice a' (G l).length c' ∧ Its w'' M' a' (G l).length c' (G l) ∧ Ext [] w' w''
theorem DoOk.keep {f : Nat} {cl : List Value} {G : List It → List It} {w w' : World} {M M' : Mut} (h : DoOk f cl G w M) (t : Grown M M' w w') : DoOk f cl G w' M' := fun w2 M2 t2 => h w2 M2 (t.trans t2)

/-! ### How much is taken -/
theorem wrC_gn {fr : Nat} {c : Ch} {i : Bool} {M : List It} : (wrC fr c i M).2.gn = c.gn := by
  unfold wrC
  split
  · rfl
  · split <;> rfl
theorem putF_bnd {fr : Nat} {i : Bool} {m : Nat} : ∀ {Hs : List (List It)} {c : Ch} {acc : List It}, (putF fr i Hs c acc).2.1.tk.length ≤ c.tk.length + Hs.length ∧ (putF fr i Hs c acc).2.1.gn = c.gn ∧ (Few c.A m → Few (putF fr i Hs c acc).2.1.A (m + Hs.length)) ∧ (putF fr i Hs c acc).2.2.length ≤ acc.length + Hs.length
  | [], c, acc => ⟨Nat.le_refl _, rfl, fun h => h, Nat.le_refl _⟩
  | h :: Hs, c, acc => by
    have h1 := wrC_tk (fr := fr) (c := c) (inner := i) (M := h)
    have h2 := wrC_gn (fr := fr) (c := c) (i := i) (M := h)
    unfold putF
    split
    · obtain ⟨a1, a2, a3, a4⟩ := putF_bnd (fr := fr) (i := i) (m := m + 1) (Hs := Hs) (c := (wrC fr c i h).2) (acc := acc ++ [⟨keyOf0 h, [], takeK c.P⟩])
      refine ⟨by rw [List.length_cons]; omega, a2.trans h2, fun hf => (a3 (wrC_few hf)).mono (by rw [List.length_cons]; omega), ?_⟩
      rw [List.length_append, List.length_singleton] at a4
      rw [List.length_cons]; omega
    · exact ⟨by rw [List.length_cons]; dsimp only; omega, h2, fun hf => (wrC_few hf).mono (by rw [List.length_cons]; omega), by simp⟩
theorem putS_bnd {fr : Nat} {c : Ch} {i : Bool} {M : List It} {m : Nat} : (putS fr c i M).2.1.tk.length ≤ c.tk.length + 2 ∧ (putS fr c i M).2.1.gn = c.gn ∧ (Few c.A m → Few (putS fr c i M).2.1.A (m + 2)) ∧ (putS fr c i M).2.2.length ≤ 2 := by
  unfold putS
  cases okM i M with
  | false => exact ⟨Nat.le_add_right _ _, rfl, fun h => h.mono (by omega), Nat.zero_le _⟩
  | true =>
    show (putC fr c i M).2.1.tk.length ≤ _ ∧ (putC fr c i M).2.1.gn = _ ∧ (Few c.A m → Few (putC fr c i M).2.1.A _) ∧ (putC fr c i M).2.2.length ≤ 2
    unfold putC
    split
    · exact ⟨Nat.le_add_right _ _, rfl, fun h => h.mono (by omega), Nat.zero_le _⟩
    · have h2 := halves_num i M
      obtain ⟨a1, a2, a3, a4⟩ := putF_bnd (fr := fr) (i := i) (m := m) (Hs := halvesN i M) (c := c) (acc := [])
      rw [List.length_nil] at a4
      exact ⟨by omega, a2, fun h => (a3 h).mono (by omega), by omega⟩
theorem rdC_bnd {fr : Nat} {c : Ch} {p d : Nat} : (rdC fr c p d).tk = c.tk ∧ (rdC fr c p d).gn.length ≤ c.gn.length + 1 ∧ (rdC fr c p d).A = c.A ∧ (rdC fr c p d).P = c.P := by
  unfold rdC
  split
  · exact ⟨rfl, by simp, rfl, rfl⟩
  · exact ⟨rfl, Nat.le_succ _, rfl, rfl⟩
theorem sideC_bnd {fr : Nat} {c : Ch} {l : List It} {i d : Nat} {inner : Bool} {kid : List It} : (sideC fr c l i d inner kid).2.1.tk = c.tk ∧ (sideC fr c l i d inner kid).2.1.gn.length ≤ c.gn.length + 1 ∧ (sideC fr c l i d inner kid).2.1.A = c.A := by
  unfold sideC
  split
  · split
    · exact ⟨rfl, Nat.le_succ _, rfl⟩
    · split
      · exact ⟨rfl, Nat.le_succ _, rfl⟩
      · exact ⟨rdC_bnd.1, rdC_bnd.2.1, rdC_bnd.2.2.1⟩
      · exact ⟨rdC_bnd.1, rdC_bnd.2.1, rdC_bnd.2.2.1⟩
  · exact ⟨rfl, Nat.le_succ _, rfl⟩
theorem editC_bnd {fr : Nat} {G : List It → List It} {key : Byt} {m : Nat} : ∀ {n : Nat} {c : Ch} {p d : Nat}, (editC fr G key n c p d).2.1.tk.length ≤ c.tk.length + 2 * n ∧ (editC fr G key n c p d).2.1.gn.length ≤ c.gn.length + 2 * n ∧ (Few c.A m → Few (editC fr G key n c p d).2.1.A (m + 2 * n))
  | 0, c, p, d => ⟨Nat.le_refl _, Nat.le_refl _, fun h => h⟩
  | n + 1, c, p, d => by
    have hr := rdC_bnd (fr := fr) (c := c) (p := p) (d := d)
    unfold editC
    split
    · exact ⟨Nat.le_add_right _ _, Nat.le_add_right _ _, fun h => h.mono (by omega)⟩
    · exact ⟨by rw [hr.1]; omega, by have := hr.2.1; show (rdC fr c p d).gn.length ≤ _; omega, fun h => by show Few (rdC fr c p d).A _; rw [hr.2.2.1]; exact h.mono (by omega)⟩
    · rename_i l _
      obtain ⟨a1, a2, a3⟩ := editC_bnd (fr := fr) (G := G) (key := key) (m := m) (n := n) (c := rdC fr c p d) (p := pageAt l (belowN l key)) (d := d + 1)
      rw [hr.1] at a1; rw [hr.2.2.1] at a3
      have h2 := hr.2.1
      dsimp only
      split
      · exact ⟨by dsimp only; omega, by dsimp only; omega, fun h => (a3 h).mono (by omega)⟩
      · obtain ⟨b1, b2, b3⟩ := sideC_bnd (fr := fr) (c := (editC fr G key n (rdC fr c p d) (pageAt l (belowN l key)) (d + 1)).2.1) (l := l) (i := belowN l key) (d := d) (inner := (editC fr G key n (rdC fr c p d) (pageAt l (belowN l key)) (d + 1)).2.2.1) (kid := (editC fr G key n (rdC fr c p d) (pageAt l (belowN l key)) (d + 1)).2.2.2)
        split
        · exact ⟨by rw [b1]; omega, by dsimp only; omega, fun h => by rw [b3]; exact (a3 h).mono (by omega)⟩
        · obtain ⟨q1, q2, q3, _⟩ := putS_bnd (fr := fr) (c := (sideC fr (editC fr G key n (rdC fr c p d) (pageAt l (belowN l key)) (d + 1)).2.1 l (belowN l key) d (editC fr G key n (rdC fr c p d) (pageAt l (belowN l key)) (d + 1)).2.2.1 (editC fr G key n (rdC fr c p d) (pageAt l (belowN l key)) (d + 1)).2.2.2).2.1)
            (i := (editC fr G key n (rdC fr c p d) (pageAt l (belowN l key)) (d + 1)).2.2.1) (M := (sideC fr (editC fr G key n (rdC fr c p d) (pageAt l (belowN l key)) (d + 1)).2.1 l (belowN l key) d (editC fr G key n (rdC fr c p d) (pageAt l (belowN l key)) (d + 1)).2.2.1 (editC fr G key n (rdC fr c p d) (pageAt l (belowN l key)) (d + 1)).2.2.2).2.2.1) (m := m + 2 * n)
          rw [b1] at q1; rw [b3] at q3
          exact ⟨by dsimp only; omega, by dsimp only; rw [q2]; omega, fun h => (q3 (a3 h)).mono (by omega)⟩
/-- What may be put: what the walk of a put asks. -/
theorem okM_of {i : Bool} {M : List It} (h : okM i M = true) : M.length ≤ 1000 ∧ (∀ x ∈ M, x.key.length ≤ 65535 ∧ x.val.length ≤ 65535) ∧ (∀ x ∈ M, x.page < 9223372036854775808) ∧ (M ≠ [] → ∀ h ∈ halvesN i M, h ≠ []) := by
  unfold okM at h
  simp only [Bool.and_eq_true, Bool.or_eq_true, decide_eq_true_eq, List.all_eq_true] at h
  obtain ⟨h1, h2, h3⟩ := h
  exact ⟨h1, fun x hx => ⟨(h2 x hx).1, (h2 x hx).2.1⟩, fun x hx => (h2 x hx).2.2, fun hM a ha => h3.elim (fun h => absurd h hM) fun h => h a ha⟩
theorem putS_99 {fr : Nat} {c : Ch} {i : Bool} {M : List It} (h : (putS fr c i M).1 ≠ 99) : okM i M = true ∧ putS fr c i M = putC fr c i M := by
  unfold putS at h ⊢
  cases ho : okM i M with
  | false => rw [ho] at h; exact absurd rfl h
  | true => exact ⟨rfl, rfl⟩

end Go.Proofs.YtbkadlngijkmmaaGreatDoor

/- What a page's node has, once something is done below it: the walk. -/
namespace Go.Proofs.YtbkadlngijkmmaaGreatDoor
open Go.GV
theorem ag_114_TrU : aggB Tryz.prog 114 = some false := by kernel_rfl
theorem ag_116_TrU : aggB Tryz.prog 116 = some true := by kernel_rfl
theorem ar_232_TrU : arrT Tryz.prog 232 = some (2, 114) := by kernel_rfl
theorem ca_131_TrU : callable Tryz.prog 131 = true := by kernel_rfl
theorem ca_168_TrU : callable Tryz.prog 168 = true := by kernel_rfl
theorem ca_169_TrU : callable Tryz.prog 169 = true := by kernel_rfl
theorem ca_67_TrU : callable Tryz.prog 67 = true := by kernel_rfl
theorem ca_74_TrU : callable Tryz.prog 74 = true := by kernel_rfl
theorem el_114_TrU : elemT Tryz.prog 114 = some 120 := by kernel_rfl
theorem el_196_TrU : elemT Tryz.prog 196 = some 114 := by kernel_rfl
theorem fo_116_0_TrU : fieldO Tryz.prog 116 0 = some 0 := by kernel_rfl
theorem fo_116_1_TrU : fieldO Tryz.prog 116 1 = some 1 := by kernel_rfl
theorem fo_120_2_TrU : fieldO Tryz.prog 120 2 = some 2 := by kernel_rfl
theorem sz_114_TrU : tsize Tryz.prog 114 = some 1 := by kernel_rfl
theorem sz_116_TrU : tsize Tryz.prog 116 = some 2 := by kernel_rfl
theorem sz_120_TrU : tsize Tryz.prog 120 = some 3 := by kernel_rfl
theorem sz_232_TrU : tsize Tryz.prog 232 = some 2 := by kernel_rfl
theorem zc_114_TrU : zcells Tryz.prog 114 = some ([.slice none 0 0]) := by kernel_rfl
theorem zc_116_TrU : zcells Tryz.prog 116 = some ([.bool false, .slice none 0 0]) := by kernel_rfl
theorem zc_232_TrU : zcells Tryz.prog 232 = some ([.slice none 0 0, .slice none 0 0]) := by kernel_rfl
attribute [local irreducible] Wops W Wq Wt

def EdSpec (f : Nat) (cl : List Value) (G : List It → List It) (key : Byt) (fr n : Nat) : Prop :=
  ∀ {w : World} {bt bd bp ba bc : Nat} {c : Ch} {F : Mut} {L : List (Nat × Obj)}, Cx w bt bd bp ba fr bc c F L → c.tk.length + 2 * n ≤ 90000 → c.gn.length + 2 * n ≤ 90000 → ∀ (page depth : Nat), depth + n = 17 → page ≤ 4294967296 →
    ∀ (Z : Mut), (∀ x, Z x → x < w.heap.size) → DoOk f cl G w (MZ (TM F ba bt bp L) Z) → ∀ (ka : Option Addr) (kc : Nat), Rdx w (MZ (TM F ba bt bp L) Z) ka key → ∀ (mx : Nat), Few c.A mx → mx + 2 * n ≤ 900000000 → (editC fr G key (n + 1) c page depth).1 ≠ 99 →
    Ret Tryz.prog 131 #[ptr bc, .int .i64 (page : Int), .int .i64 (depth : Int), .slice ka key.length kc, .func (.func f) #[] cl.toArray] w fun v w' => ∃ (inner : Bool) (a : Option Addr) (m cc : Nat) (F' : Mut) (L' : List (Nat × Obj)),
      v = .tuple #[.agg #[.bool inner, .slice a m cc], .int .i64 (editC fr G key (n + 1) c page depth).1] ∧ Cx w' bt bd bp ba fr bc (editC fr G key (n + 1) c page depth).2.1 F' L' ∧ Grown (TM F ba bt bp L) (TM F' ba bt bp L') w w' ∧
      ((editC fr G key (n + 1) c page depth).1 = 0 → inner = (editC fr G key (n + 1) c page depth).2.2.1 ∧ Its w' (MZ (TM F' ba bt bp L') Z) a m cc (editC fr G key (n + 1) c page depth).2.2.2)
/-- Where the walk stands once what is put is known. -/
structure ES where
  a : Option Addr
  n : Nat
  c : Nat
  M : List It
  fr : Nat
  to : Nat
  ch : Ch
  L : List (Nat × Obj)
  Y : List (Nat × Obj)
abbrev NBl (inner : Bool) (a : Option Addr) (n c : Nat) : Obj := Bl 116 [.bool inner, .slice a n c]

theorem edit_parts {w : World} {M : Mut} {aa qa : Option Addr} {nn cc qn qc sfr sto : Nat} {l q : List It} (I : Its w M aa nn cc l) (Q : Its w M qa qn qc q) (hf : sfr ≤ nn) (ht : sto ≤ nn) (h1 : (l.take sfr).length = sfr) (h2 : (l.drop sto).length = nn - sto) :
    ∀ x ∈ ([(aa, l.take sfr, cc), (qa, q, qc), (cutA aa cc sto 3, l.drop sto, cc - sto)] : List SI), Its w M x.1 x.2.1.length x.2.2 x.2.1 := by
  intro x hx
  simp only [List.mem_cons, List.not_mem_nil, or_false] at hx
  rcases hx with rfl | rfl | rfl
  · show Its w M aa (l.take sfr).length cc (l.take sfr)
    rw [h1]; exact I.take hf
  · show Its w M qa q.length qc q
    rw [← Q.num]; exact Q
  · show Its w M _ (l.drop sto).length _ (l.drop sto)
    rw [h2]; exact I.drop ht

theorem side_parts {w : World} {M : Mut} {a b : Option Addr} {n c m d : Nat} {l q : List It} (I : Its w M a n c l) (Q : Its w M b m d q) : ∀ x ∈ ([(a, l, c), (b, q, d)] : List SI), Its w M x.1 x.2.1.length x.2.2 x.2.1 := by
  intro x hx
  simp only [List.mem_cons, List.not_mem_nil, or_false] at hx
  rcases hx with rfl | rfl
  · show Its w M a l.length c l
    rw [← I.num]; exact I
  · show Its w M b q.length d q
    rw [← Q.num]; exact Q

set_option maxRecDepth 20000 in
set_option maxHeartbeats 16000000 in
theorem edit_step {f : Nat} {cl : List Value} {G : List It → List It} {key : Byt} {fr : Nat} (hf : callable Tryz.prog f = true) (hfr : fr ≤ 5000) (_ : key.length ≤ 100000) (n : Nat) (IH : ∀ n', n = n' + 1 → EdSpec f cl G key fr n') : EdSpec f cl G key fr n := by
  intro w bt bd bp ba bc c F L X htk hgn page depth hd hp Z hZ D ka kc Rk mx hfew hmx hok
  obtain ⟨w0, rfl⟩ : ∃ w0, w0 = w := ⟨_, rfl⟩
  obtain ⟨ec, hec⟩ : ∃ ec, ec = editC fr G key (n + 1) c page depth := ⟨_, rfl⟩
  rw [← hec] at hok ⊢
  rw [editC] at hec
  obtain ⟨rt, hrt⟩ : ∃ rt, rt = readT c.A fr c.P.length (page : Int) (depth : Int) := ⟨_, rfl⟩
  rw [← hrt] at hec
  have E0 := Fr.start X hZ
  have H := Ctx.start w0 []
  obtain ⟨rb1, rb2, rb3, rb4⟩ := rdC_bnd (fr := fr) (c := c) (p := page) (d := depth)
  refine ret_of_W (fn := Tryz.f131) Tryz.func131 rfl [.pointer (some ⟨bc, 0, none⟩), .int .i64 (page : Int), .int .i64 (depth : Int), .slice ka key.length kc, .func (.func f) #[] cl.toArray] rfl (by kernel_rfl) ?_
  refine W_rseq ?_
  refine op_alloc rfl zc_116_TrU H ?_
  rintro b10 w - H
  refine op_assign rfl (.int _ _) rfl ?_
  refine op_nil (at_then ?_)
  refine W_rseq ?_
  refine op_move rfl (.pointer _) rfl ?_
  refine op_move rfl (.int _ _) rfl ?_
  refine op_move rfl (.int _ _) rfl ?_
  obtain ⟨E1, -⟩ := E0.own H
  refine op_call rfl ca_168_TrU (cread_ok E1.X hfr (by omega) page depth (by omega) hfew (by omega)) rfl ?_
  rintro v w2 ⟨inner, aa, nn, cc, L2, rfl, X2, g2, hits⟩
  rw [← hrt] at hits
  rw [← hrt]
  obtain ⟨E2, -⟩ := E1.call X2 g2
  replace H := E2.O.ctx
  refine op_move rfl (.tuple _) rfl ?_
  refine op_extract rfl rfl rfl ?_
  refine op_extract rfl rfl rfl ?_
  refine op_alloc rfl zc_116_TrU H ?_
  rintro b12 w - H
  refine op_stb0 rfl sz_116_TrU rfl rfl rfl (by simp [oneCell]) H (by first | exact at0 | exact at1 | exact at2 | exact at3 | exact at4 | exact at5 | exact at6 | exact at7 | exact at8 | exact at9) rfl ?_
  rintro w H
  refine op_assign rfl (.int _ _) rfl ?_
  refine op_nil (at_then ?_)
  refine W_seq ?_
  refine W_rseq ?_
  refine op_move rfl (.int _ _) rfl ?_
  refine op_neq rfl rfl rfl ?_
  refine op_nil (at_then ?_)
  refine W_cond _ rfl ?_ ?_
  · intro hA
    replace hA := ndec_t hA
    have hnone : rt.2 = none := by
      cases h5 : rt.2 with
      | none => rfl
      | some r => obtain ⟨i, l⟩ := r; rw [hrt] at h5; rw [hrt] at hA; exact absurd (readT_some h5).1 hA
    rw [hnone] at hec
    dsimp only at hec
    have hrd : rdC fr c page depth = c := by unfold rdC; rw [← hrt, if_neg hA]
    refine W_rseq ?_
    refine op_ldbN rfl ag_116_TrU sz_116_TrU rfl H (by first | exact at0 | exact at1 | exact at2 | exact at3 | exact at4 | exact at5 | exact at6 | exact at7 | exact at8 | exact at9) rfl ?_
    refine op_move rfl (.int _ _) rfl ?_
    refine op_stb0 rfl sz_116_TrU rfl rfl rfl (by simp [oneCell]) H (by first | exact at0 | exact at1 | exact at2 | exact at3 | exact at4 | exact at5 | exact at6 | exact at7 | exact at8 | exact at9) rfl ?_
    rintro w H
    refine op_assign rfl (.int _ _) rfl ?_
    refine op_nil (at_then ?_)
    refine W_ret (ret_then (leave2b rfl rfl rfl ag_116_TrU sz_116_TrU H (by first | exact at0 | exact at1 | exact at2 | exact at3 | exact at4 | exact at5 | exact at6 | exact at7 | exact at8 | exact at9) rfl (show _ = (.int _ _) from rfl) ?_))
    obtain ⟨E3, -⟩ := E2.own H
    have X3 := E3.X
    rw [hrd] at X3
    exact ⟨inner, aa, nn, cc, F, L2, by rw [hec], by rw [hec]; exact X3, E3.GT, fun h => absurd (by rw [hec] at h; exact h) hA⟩
  · intro hA
    replace hA := ndec_f hA
    have hA' : rt.1 = 0 := by simpa using hA
    obtain ⟨⟨i, l⟩, hsome⟩ : ∃ r, rt.2 = some r := by
      cases h5 : rt.2 with
      | none => rw [hrt] at h5; rw [hrt] at hA'; exact absurd hA' (readT_none h5)
      | some r => exact ⟨r, rfl⟩
    obtain ⟨-, hne, hd16, -, -, hll⟩ := readT_some (A := c.A) (fr := fr) (sz := c.P.length) (page := (page : Int)) (depth := (depth : Int)) (by rw [← hrt]; exact hsome)
    obtain ⟨rfl, I2f, hb⟩ := hits i l hsome
    have I2 := I2f.weak E1.fresh
    rw [hsome] at hec
    have hnum := I2.num
    refine W_skip (at_then ?_)
    refine W_seq ?_
    refine W_rseq ?_
    refine op_fieldAddr rfl fo_116_0_TrU rfl ?_
    refine op_ldb rfl ag_4 rfl H (by first | exact at0 | exact at1 | exact at2 | exact at3 | exact at4 | exact at5 | exact at6 | exact at7 | exact at8 | exact at9) rfl ?_
    refine op_not rfl rfl ?_
    refine op_nil (at_then ?_)
    refine W_cond _ rfl ?_ ?_
    · intro hB
      replace hB := nvar_t hB
      subst hB
      dsimp only at hec
      refine W_rseq ?_
      refine op_move rfl (.func _ _ _) rfl ?_
      refine op_fieldAddr rfl fo_116_1_TrU rfl ?_
      refine op_ldb rfl ag_114_TrU rfl H (by first | exact at0 | exact at1 | exact at2 | exact at3 | exact at4 | exact at5 | exact at6 | exact at7 | exact at8 | exact at9) rfl ?_
      obtain ⟨E3, g3⟩ := E2.own H
      have I3 := I2.turn g3
      refine op_calld rfl rfl hf (D _ _ E3.GA E3.mylt _ _ _ _ I3 (by omega)) rfl ?_
      rintro v w4 ⟨a4, c4, rfl, I4, hx4⟩
      obtain ⟨E4, g4⟩ := E3.call0 hx4
      replace H := E4.O.ctx
      refine op_fieldAddr rfl fo_116_1_TrU rfl ?_
      refine op_stb (.slice _ _ _) rfl sz_114_TrU rfl rfl rfl H (by first | exact at0 | exact at1 | exact at2 | exact at3 | exact at4 | exact at5 | exact at6 | exact at7 | exact at8 | exact at9) (by first | decide | (simp; done) | (simp; omega)) ?_
      rintro w H
      refine op_nil (at_then ?_)
      refine W_rseq ?_
      refine op_ldbN rfl ag_116_TrU sz_116_TrU rfl H (by first | exact at0 | exact at1 | exact at2 | exact at3 | exact at4 | exact at5 | exact at6 | exact at7 | exact at8 | exact at9) rfl ?_
      refine op_stb0 rfl sz_116_TrU rfl rfl rfl (by simp [oneCell]) H (by first | exact at0 | exact at1 | exact at2 | exact at3 | exact at4 | exact at5 | exact at6 | exact at7 | exact at8 | exact at9) rfl ?_
      rintro w H
      refine op_assign rfl (.int _ _) rfl ?_
      refine op_nil (at_then ?_)
      refine W_ret (ret_then (leave2b rfl rfl rfl ag_116_TrU sz_116_TrU H (by first | exact at0 | exact at1 | exact at2 | exact at3 | exact at4 | exact at5 | exact at6 | exact at7 | exact at8 | exact at9) rfl (show _ = (.int _ _) from rfl) ?_))
      obtain ⟨E5, g5⟩ := E4.own H
      exact ⟨false, a4, (G l).length, c4, F, L2, by rw [hec]; rfl, by rw [hec]; exact E5.X, E5.GT, fun _ => ⟨by rw [hec], by rw [hec]; exact (I4.turn g5).weak MY.le⟩⟩
    · intro hB
      replace hB := nvar_f hB
      subst hB
      dsimp only at hec
      obtain ⟨E3, g3⟩ := E2.own H
      have I3 := I2.turn g3
      replace H := E3.O.ctx
      obtain ⟨w3, rfl⟩ : ∃ x, x = w := ⟨_, rfl⟩
      obtain ⟨ms, R, -, hl, hok3⟩ := I3.ex
      have hml : ms.length = nn := by rw [hnum, ← hl, List.length_map]
      have hbl := belowN_lt hne key
      obtain ⟨bi, hbi⟩ : ∃ bi, bi = belowN l key := ⟨_, rfl⟩
      obtain ⟨x, hx1⟩ := get_some (l := ms) (i := bi) (by omega)
      have hxL := Im.at hl hx1
      have hpa : pageAt l bi = x.it.page := by unfold pageAt; rw [hxL]; rfl
      have hxb := hb x.it (List.mem_of_getElem? hxL)
      obtain ⟨n', rfl⟩ : ∃ n', n = n' + 1 := ⟨n - 1, by omega⟩
      have Rk3 := (Rk.turn E3.GA).1
      rw [← hbi] at hec
      obtain ⟨r, hr⟩ : ∃ r, r = editC fr G key (n' + 1) (rdC fr c page depth) (pageAt l bi) (depth + 1) := ⟨_, rfl⟩
      rw [← hr] at hec
      rw [hpa] at hr
      have hok5 : r.1 ≠ 99 := fun h => hok (by rw [hec, if_pos (by rw [h]; decide)]; exact h)
      obtain ⟨eb1, eb2, eb3⟩ := editC_bnd (fr := fr) (G := G) (key := key) (m := mx) (n := n' + 1) (c := rdC fr c page depth) (p := x.it.page) (d := depth + 1)
      rw [← hr] at eb1 eb2 eb3
      rw [rb1] at eb1
      have hfew2 : Few (rdC fr c page depth).A mx := by rw [rb3]; exact hfew
      replace eb3 := eb3 hfew2
      refine W_skip (at_then ?_)
      refine W_rseq ?_
      refine op_fieldAddr rfl fo_116_1_TrU rfl ?_
      first | refine op_ldb rfl ag_114_TrU rfl H (by first | exact at0 | exact at1 | exact at2 | exact at3 | exact at4 | exact at5 | exact at6 | exact at7 | exact at8 | exact at9) rfl ?_ | refine op_ld rfl ag_114_TrU rfl (R.fld hx1 rfl (j := 2) rfl) ?_
      refine op_move rfl (.slice _ _ _) rfl ?_
      refine op_call rfl ca_67_TrU (below_ok I3 ka kc _ key Rk3 rfl (by omega)) rfl ?_
      rintro v w5 ⟨rfl, rfl⟩
      rw [← hbi]
      refine op_assign rfl (.int _ _) rfl ?_
      refine op_nil (at_then ?_)
      refine W_rseq ?_
      refine op_move rfl (.pointer _) rfl ?_
      refine op_fieldAddr rfl fo_116_1_TrU rfl ?_
      first | refine op_ldb rfl ag_114_TrU rfl H (by first | exact at0 | exact at1 | exact at2 | exact at3 | exact at4 | exact at5 | exact at6 | exact at7 | exact at8 | exact at9) rfl ?_ | refine op_ld rfl ag_114_TrU rfl (R.fld hx1 rfl (j := 2) rfl) ?_
      refine op_move rfl (.int _ _) rfl ?_
      first | refine op_indexRd R rfl el_114_TrU sz_120_TrU rfl rfl (by omega) (by omega) (by first | rfl | omega) ?_ | refine op_indexAddr rfl el_114_TrU sz_120_TrU rfl rfl (by omega) (by omega) ?_
      refine op_fieldAddr rfl fo_120_2_TrU rfl ?_
      first | refine op_ldb rfl ag_3 rfl H (by first | exact at0 | exact at1 | exact at2 | exact at3 | exact at4 | exact at5 | exact at6 | exact at7 | exact at8 | exact at9) rfl ?_ | refine op_ld rfl ag_3 rfl (R.fld hx1 rfl (j := 2) rfl) ?_
      refine op_move rfl (.int _ _) rfl ?_
      refine op_add_i64 rfl rfl rfl (by omega) (by omega) ?_
      rw [show ((depth : Int) + 1) = ((depth + 1 : Nat) : Int) by omega]
      refine op_move rfl (.slice _ _ _) rfl ?_
      refine op_move rfl (.func _ _ _) rfl ?_
      refine op_call rfl ca_131_TrU (IH n' rfl E3.X (by rw [rb1]; omega) (by omega) x.it.page (depth + 1) (by omega) (by omega) (MY Z _) E3.zlt (D.keep (E3.GA.weak MYZ)) ka kc ((Rk.turn E3.GA).weak MYZ) mx hfew2 (by omega) (by rw [← hr]; exact hok5)) rfl ?_
      rintro v w5 ⟨kin, k5, n5, c5, F5, L5, rfl, X5, g5, hk5⟩
      rw [← hr] at X5 hk5
      rw [← hr]
      obtain ⟨E5, gg5⟩ := E3.call X5 g5
      have I5 := I3.turn gg5
      replace H := E5.O.ctx
      refine op_move rfl (.tuple _) rfl ?_
      refine op_extract rfl rfl rfl ?_
      refine op_extract rfl rfl rfl ?_
      refine op_alloc rfl zc_116_TrU H ?_
      rintro b15 w - H
      refine op_stb0 rfl sz_116_TrU rfl rfl rfl (by simp [oneCell]) H (by first | exact at0 | exact at1 | exact at2 | exact at3 | exact at4 | exact at5 | exact at6 | exact at7 | exact at8 | exact at9) rfl ?_
      rintro w H
      refine op_assign rfl (.int _ _) rfl ?_
      refine op_nil (at_then ?_)
      refine W_seq ?_
      refine W_rseq ?_
      refine op_move rfl (.int _ _) rfl ?_
      refine op_neq rfl rfl rfl ?_
      refine op_nil (at_then ?_)
      refine W_cond _ rfl ?_ ?_
      · intro hC
        replace hC := ndec_t hC
        rw [if_pos hC] at hec
        refine W_rseq ?_
        refine op_ldbN rfl ag_116_TrU sz_116_TrU rfl H (by first | exact at0 | exact at1 | exact at2 | exact at3 | exact at4 | exact at5 | exact at6 | exact at7 | exact at8 | exact at9) rfl ?_
        refine op_move rfl (.int _ _) rfl ?_
        refine op_stb0 rfl sz_116_TrU rfl rfl rfl (by simp [oneCell]) H (by first | exact at0 | exact at1 | exact at2 | exact at3 | exact at4 | exact at5 | exact at6 | exact at7 | exact at8 | exact at9) rfl ?_
        rintro w H
        refine op_assign rfl (.int _ _) rfl ?_
        refine op_nil (at_then ?_)
        refine W_ret (ret_then (leave2b rfl rfl rfl ag_116_TrU sz_116_TrU H (by first | exact at0 | exact at1 | exact at2 | exact at3 | exact at4 | exact at5 | exact at6 | exact at7 | exact at8 | exact at9) rfl (show _ = (.int _ _) from rfl) ?_))
        obtain ⟨E6, -⟩ := E5.own H
        exact ⟨true, aa, nn, cc, F5, L5, by rw [hec], by rw [hec]; exact E6.X, E6.GT, fun h => absurd (by rw [hec] at h; exact h) hC⟩
      · intro hC
        replace hC := ndec_f hC
        have hC' : r.1 = 0 := by simpa using hC
        rw [if_neg (by simpa using hC)] at hec
        obtain ⟨rfl, K5⟩ := hk5 hC'
        obtain ⟨E6, g6⟩ := E5.own H
        have I6 := I5.turn g6
        have K6 := (K5.weak MYZ').turn g6
        replace H := E6.O.ctx
        obtain ⟨w6, rfl⟩ : ∃ x, x = w := ⟨_, rfl⟩
        obtain ⟨sc, hsc⟩ : ∃ sc, sc = sideC fr r.2.1 l bi depth r.2.2.1 r.2.2.2 := ⟨_, rfl⟩
        rw [← hsc] at hec
        have hkn := K6.num
        obtain ⟨sb1, sb2, sb3⟩ := sideC_bnd (fr := fr) (c := r.2.1) (l := l) (i := bi) (d := depth) (inner := r.2.2.1) (kid := r.2.2.2)
        rw [← hsc] at sb1 sb2 sb3
        obtain ⟨kin, hkin⟩ : ∃ kin, kin = r.2.2.1 := ⟨_, rfl⟩
        rw [← hkin] at hec hsc H E6 I6 K6
        rw [← hkin]
        refine W_skip (at_then ?_)
        refine W_rseq ?_
        refine op_move rfl (.int _ _) rfl ?_
        refine op_move rfl (.int _ _) rfl ?_
        refine op_add_i64 rfl rfl rfl (by omega) (by omega) ?_
        rw [show ((bi : Int) + 1) = ((bi + 1 : Nat) : Int) by omega]
        refine op_assign rfl (.int _ _) rfl ?_
        refine op_assign rfl (.int _ _) rfl ?_
        refine op_nil (at_then ?_)
        refine W_seq ?_
        refine W_rseq (Wops_join (α := Unit) 150525431641469941186560 (fun _ => [(76, .bool (kin && decide (n5 = 1)))]) (fun _ w' => w6 = w') rfl ?_ ?_)
        · refine op_fieldAddr rfl fo_116_0_TrU rfl ?_
          first | refine op_ldb rfl ag_4 rfl H (by first | exact at0 | exact at1 | exact at2 | exact at3 | exact at4 | exact at5 | exact at6 | exact at7 | exact at8 | exact at9) rfl ?_ | refine op_ld rfl ag_4 rfl (R.fld hx1 rfl (j := 2) rfl) ?_
          refine op_move rfl (.bool _) rfl ?_
          refine Wops_split 71 rfl ?_ ?_
          · intro h1
            refine op_fieldAddr rfl fo_116_1_TrU rfl ?_
            first | refine op_ldb rfl ag_114_TrU rfl H (by first | exact at0 | exact at1 | exact at2 | exact at3 | exact at4 | exact at5 | exact at6 | exact at7 | exact at8 | exact at9) rfl ?_ | refine op_ld rfl ag_114_TrU rfl (R.fld hx1 rfl (j := 2) rfl) ?_
            refine op_len rfl el_114_TrU rfl ?_
            refine op_eql rfl rfl rfl ?_
            refine op_pick1 rfl rfl (.bool _) rfl ?_
            refine op_nil ?_
            exact ⟨rfl, (), rfl, ⟨congrArg Value.bool (by (first | rw [h2] | rw [h1]); (try rw [Bool.eq_iff_iff]); simp; try omega), trivial⟩, rfl⟩
          · intro h2
            refine op_skip rfl ?_
            refine op_skip rfl ?_
            refine op_skip rfl ?_
            refine op_skip rfl ?_
            refine op_pick0 rfl rfl (.bool _) rfl ?_
            refine op_nil ?_
            exact ⟨rfl, (), rfl, ⟨congrArg Value.bool (by (first | rw [h2] | rw [h1]); (try rw [Bool.eq_iff_iff]); simp; try omega), trivial⟩, rfl⟩
        rintro - j76 w rfl
        refine W_joinK 2787593149816327892540849056629216545540096 (α := ES) (fun s => [(16, .int .i64 (s.fr : Int)), (17, .int .i64 (s.to : Int))]) (fun s w' => Fr w0 Z (TM F ba bt bp L) w' bt bd bp ba fr bc s.ch F5 s.L ((b15, NBl kin s.a s.n s.c) :: (b12, NBl true aa nn cc) :: (b10, NBl false none 0 0) :: s.Y) ∧ Its w' (MY (MZ (TM F5 ba bt bp s.L) Z) ((b15, NBl kin s.a s.n s.c) :: (b12, NBl true aa nn cc) :: (b10, NBl false none 0 0) :: s.Y)) aa nn cc l ∧ Its w' (MY (MZ (TM F5 ba bt bp s.L) Z) ((b15, NBl kin s.a s.n s.c) :: (b12, NBl true aa nn cc) :: (b10, NBl false none 0 0) :: s.Y)) s.a s.n s.c s.M ∧ sc = (0, s.ch, s.M, s.fr, s.to) ∧ s.fr ≤ nn ∧ s.to ≤ nn) rfl ?_ ?_
        · skip
          refine W_cond _ rfl ?_ ?_
          · intro hE
            have hfw : few1 kin r.2.2.2 = true := by unfold few1; rw [← hkn]; exact hE
            have hk1 : kin = true ∧ n5 = 1 := by simpa using hE
            obtain ⟨hk2, hn5⟩ := hk1
            have hk5l := K6.le
            unfold sideC at hsc
            rw [if_pos hfw] at hsc
            refine W_seq ?_
            refine W_rseq ?_
            refine op_move rfl (.int _ _) rfl ?_
            refine op_sub_i64 rfl rfl rfl (by omega) (by omega) ?_
            refine op_max2 rfl rfl rfl ?_
            rw [show max ((bi : Int) - 1) 0 = ((bi - 1 : Nat) : Int) by omega]
            refine op_move rfl (.int _ _) rfl ?_
            refine op_add_i64 rfl rfl rfl (by omega) (by omega) ?_
            rw [show ((bi : Int) + 1) = ((bi + 1 : Nat) : Int) by omega]
            refine op_assign rfl (.int _ _) rfl ?_
            refine op_assign rfl (.int _ _) rfl ?_
            refine op_nil (at_then ?_)
            refine W_rseq ?_
            refine op_move rfl (.int _ _) rfl ?_
            refine op_eql rfl rfl rfl ?_
            refine op_nil (at_then ?_)
            refine W_joinK 131072 (α := Unit) (fun _ => [(17, .int .i64 ((if bi = 0 then 2 else bi + 1 : Nat) : Int))]) (fun _ w' => w6 = w') rfl ?_ ?_
            · skip
              refine W_cond _ rfl ?_ ?_
              · intro hF
                replace hF := dec_t hF
                refine W_region ?_
                refine op_assign rfl (.int _ _) rfl ?_
                refine op_nil (at_then ?_)
                exact ⟨(), rfl, ⟨congrArg (Value.int .i64) (by rw [if_pos (by omega)]; rfl), trivial⟩, rfl⟩
              · intro hF
                replace hF := dec_f hF
                refine W_skip (at_then ?_)
                exact ⟨(), rfl, ⟨congrArg (Value.int .i64) (by rw [if_neg (by omega)]), trivial⟩, rfl⟩
            · rintro - j17 w' rfl
              obtain ⟨to, hto⟩ : ∃ to, to = if bi = 0 then 2 else bi + 1 := ⟨_, rfl⟩
              rw [← hto] at hsc ⊢
              obtain ⟨kk, hkk⟩ : ∃ kk, kk = sideK bi := ⟨_, rfl⟩
              rw [← hkk] at hsc
              have hto2 : to ≤ bi + 2 := by rw [hto]; split <;> omega
              have hkk2 : ((bi - 1 : Nat) : Int) + (to : Int) - 1 - (bi : Int) = (kk : Int) := by
                rw [hkk, hto]; unfold sideK
                by_cases h0 : bi = 0
                · rw [if_pos h0, if_pos h0]; omega
                · rw [if_neg h0, if_neg h0]; omega
              have htk : kk + 1 = to ∨ to ≤ nn := by
                rw [hto, hkk]; unfold sideK
                by_cases h0 : bi = 0
                · left; rw [if_pos h0, if_pos h0]
                · right; rw [if_neg h0]; omega
              refine W_rseq ?_
              refine op_move rfl (.int _ _) rfl ?_
              refine op_move rfl (.int _ _) rfl ?_
              refine op_add_i64 rfl rfl rfl (by omega) (by omega) ?_
              refine op_sub_i64 rfl rfl rfl (by omega) (by omega) ?_
              refine op_move rfl (.int _ _) rfl ?_
              refine op_sub_i64 rfl rfl rfl (by omega) (by omega) ?_
              rw [hkk2]
              refine op_assign rfl (.int _ _) rfl ?_
              refine op_nil (at_then ?_)
              refine W_seq ?_
              refine W_rseq ?_
              refine op_move rfl (.int _ _) rfl ?_
              refine op_fieldAddr rfl fo_116_1_TrU rfl ?_
              first | refine op_ldb rfl ag_114_TrU rfl H (by first | exact at0 | exact at1 | exact at2 | exact at3 | exact at4 | exact at5 | exact at6 | exact at7 | exact at8 | exact at9) rfl ?_ | refine op_ld rfl ag_114_TrU rfl (R.fld hx1 rfl (j := 2) rfl) ?_
              refine op_len rfl el_114_TrU rfl ?_
              refine op_geq rfl rfl rfl ?_
              refine op_nil (at_then ?_)
              refine W_cond _ rfl ?_ ?_
              · intro hG
                replace hG := dec_t hG
                rw [if_pos (by omega)] at hsc
                rw [hsc] at hec
                dsimp only at hec
                rw [if_pos (by decide)] at hec
                refine W_rseq ?_
                refine op_ldbN rfl ag_116_TrU sz_116_TrU rfl H (by first | exact at0 | exact at1 | exact at2 | exact at3 | exact at4 | exact at5 | exact at6 | exact at7 | exact at8 | exact at9) rfl ?_
                refine op_stb0 rfl sz_116_TrU rfl rfl rfl (by simp [oneCell]) H (by first | exact at0 | exact at1 | exact at2 | exact at3 | exact at4 | exact at5 | exact at6 | exact at7 | exact at8 | exact at9) rfl ?_
                rintro w H
                refine op_assign rfl (.int _ _) rfl ?_
                refine op_nil (at_then ?_)
                refine W_ret (ret_then (ret_then (leave2b rfl rfl rfl ag_116_TrU sz_116_TrU H (by first | exact at0 | exact at1 | exact at2 | exact at3 | exact at4 | exact at5 | exact at6 | exact at7 | exact at8 | exact at9) rfl (show _ = (.int _ _) from rfl) ?_)))
                obtain ⟨E7, -⟩ := E6.own H
                exact ⟨true, aa, nn, cc, F5, L5, by rw [hec], by rw [hec]; exact E7.X, E7.GT, fun h => by rw [hec] at h; cases h⟩
              · intro hG
                replace hG := dec_f hG
                rw [if_neg (by omega)] at hsc
                obtain ⟨ms6, R6, -, hl6, hok6⟩ := I6.ex
                have hml6 : ms6.length = nn := by rw [hnum, ← hl6, List.length_map]
                obtain ⟨y, hy1⟩ := get_some (l := ms6) (i := kk) (by omega)
                have hyL := Im.at hl6 hy1
                have hpy : pageAt l kk = y.it.page := by unfold pageAt; rw [hyL]; rfl
                have hyb := hb y.it (List.mem_of_getElem? hyL)
                obtain ⟨rt2, hrt2⟩ : ∃ rt2, rt2 = readT r.2.1.A fr r.2.1.P.length ((y.it.page : Nat) : Int) ((depth + 1 : Nat) : Int) := ⟨_, rfl⟩
                rw [hpy, ← hrt2] at hsc
                refine W_skip (at_then ?_)
                refine W_rseq ?_
                refine op_move rfl (.pointer _) rfl ?_
                refine op_fieldAddr rfl fo_116_1_TrU rfl ?_
                first | refine op_ldb rfl ag_114_TrU rfl H (by first | exact at0 | exact at1 | exact at2 | exact at3 | exact at4 | exact at5 | exact at6 | exact at7 | exact at8 | exact at9) rfl ?_ | refine op_ld rfl ag_114_TrU rfl (R6.fld hy1 rfl (j := 2) rfl) ?_
                refine op_move rfl (.int _ _) rfl ?_
                first | refine op_indexRd R6 rfl el_114_TrU sz_120_TrU rfl rfl (by omega) (by omega) (by first | rfl | omega) ?_ | refine op_indexAddr rfl el_114_TrU sz_120_TrU rfl rfl (by omega) (by omega) ?_
                refine op_fieldAddr rfl fo_120_2_TrU rfl ?_
                first | refine op_ldb rfl ag_3 rfl H (by first | exact at0 | exact at1 | exact at2 | exact at3 | exact at4 | exact at5 | exact at6 | exact at7 | exact at8 | exact at9) rfl ?_ | refine op_ld rfl ag_3 rfl (R6.fld hy1 rfl (j := 2) rfl) ?_
                refine op_move rfl (.int _ _) rfl ?_
                refine op_add_i64 rfl rfl rfl (by omega) (by omega) ?_
                rw [show ((depth : Int) + 1) = ((depth + 1 : Nat) : Int) by omega]
                refine op_call rfl ca_168_TrU (cread_ok E6.X hfr (by omega) y.it.page (depth + 1) (by omega) eb3 (by omega)) rfl ?_
                rintro v w7 ⟨oin, oa, on, oc, L7, rfl, X7, g7, hits7⟩
                rw [← hrt2] at hits7
                rw [← hrt2]
                obtain ⟨E7, gg7⟩ := E6.call X7 g7
                replace H := E7.O.ctx
                refine op_move rfl (.tuple _) rfl ?_
                refine op_extract rfl rfl rfl ?_
                refine op_extract rfl rfl rfl ?_
                refine op_alloc rfl zc_116_TrU H ?_
                rintro b19 w - H
                refine op_stb0 rfl sz_116_TrU rfl rfl rfl (by simp [oneCell]) H (by first | exact at0 | exact at1 | exact at2 | exact at3 | exact at4 | exact at5 | exact at6 | exact at7 | exact at8 | exact at9) rfl ?_
                rintro w H
                refine op_assign rfl (.int _ _) rfl ?_
                refine op_nil (at_then ?_)
                refine W_seq ?_
                refine W_rseq (Wops_join (α := Unit) 82427712629240388602921629226369024 (fun _ => [(115, .bool (decide (rt2.1 = 0) && !oin))]) (fun _ w' => Ctx w7 [b15, b12, b10] w' [(b19, NBl oin oa on oc), (b15, NBl kin k5 n5 c5), (b12, NBl true aa nn cc), (b10, NBl false none 0 0)]) rfl ?_ ?_)
                · refine op_move rfl (.int _ _) rfl ?_
                  refine op_eql rfl rfl rfl ?_
                  refine op_move rfl (.bool _) rfl ?_
                  refine Wops_split 111 rfl ?_ ?_
                  · intro h3
                    replace h3 := dec_t h3
                    refine op_fieldAddr rfl fo_116_0_TrU rfl ?_
                    first | refine op_ldb rfl ag_4 rfl H (by first | exact at0 | exact at1 | exact at2 | exact at3 | exact at4 | exact at5 | exact at6 | exact at7 | exact at8 | exact at9) rfl ?_ | refine op_ld rfl ag_4 rfl (R6.fld hy1 rfl (j := 2) rfl) ?_
                    refine op_not rfl rfl ?_
                    refine op_pick1 rfl rfl (.bool _) rfl ?_
                    refine op_nil ?_
                    exact ⟨rfl, (), rfl, ⟨congrArg Value.bool (by (first | rw [decide_eq_true h3] | rw [decide_eq_false h4]); simp), trivial⟩, H⟩
                  · intro h4
                    replace h4 := dec_f h4
                    refine op_skip rfl ?_
                    refine op_skip rfl ?_
                    refine op_skip rfl ?_
                    refine op_pick0 rfl rfl (.bool _) rfl ?_
                    refine op_nil ?_
                    exact ⟨rfl, (), rfl, ⟨congrArg Value.bool (by (first | rw [decide_eq_true h3] | rw [decide_eq_false h4]); simp), trivial⟩, H⟩
                rintro - j115 w H
                refine W_cond _ rfl ?_ ?_
                · intro hI
                  have hI2 : rt2.1 = 0 ∧ oin = false := by simpa using hI
                  obtain ⟨⟨i2, o⟩, hsome2⟩ : ∃ z, rt2.2 = some z := by
                    cases h5 : rt2.2 with
                    | none => rw [hrt2] at h5; exact absurd (by rw [← hrt2]; exact hI2.1) (readT_none h5)
                    | some z => exact ⟨z, rfl⟩
                  obtain ⟨hi2, -, -⟩ := hits7 i2 o hsome2
                  rw [hsome2, ← hi2, hI2.2] at hsc
                  dsimp only at hsc
                  rw [hsc] at hec
                  dsimp only at hec
                  rw [if_pos (by decide)] at hec
                  refine W_region ?_
                  refine op_assign rfl (.int _ _) rfl ?_
                  refine op_nil (at_then ?_)
                  refine W_seq ?_
                  refine W_rseq ?_
                  refine op_move rfl (.int _ _) rfl ?_
                  refine op_neq rfl rfl rfl ?_
                  refine op_nil (at_then ?_)
                  refine W_cond _ rfl ?_ ?_
                  · intro hJ
                    replace hJ := ndec_t hJ
                    refine W_rseq ?_
                    refine op_ldbN rfl ag_116_TrU sz_116_TrU rfl H (by first | exact at0 | exact at1 | exact at2 | exact at3 | exact at4 | exact at5 | exact at6 | exact at7 | exact at8 | exact at9) rfl ?_
                    refine op_move rfl (.int _ _) rfl ?_
                    refine op_stb0 rfl sz_116_TrU rfl rfl rfl (by simp [oneCell]) H (by first | exact at0 | exact at1 | exact at2 | exact at3 | exact at4 | exact at5 | exact at6 | exact at7 | exact at8 | exact at9) rfl ?_
                    rintro w H
                    refine op_assign rfl (.int _ _) rfl ?_
                    refine op_nil (at_then ?_)
                    refine W_ret (ret_then (ret_then (leave2b rfl rfl rfl ag_116_TrU sz_116_TrU H (by first | exact at0 | exact at1 | exact at2 | exact at3 | exact at4 | exact at5 | exact at6 | exact at7 | exact at8 | exact at9) rfl (show _ = (.int _ _) from rfl) ?_)))
                    obtain ⟨E8, -⟩ := E7.own H
                    exact ⟨true, aa, nn, cc, F5, L7, by rw [hec], by rw [hec]; exact E8.X, E8.GT, fun h => by rw [hec] at h; cases h⟩
                  · intro hJ
                    replace hJ := ndec_f hJ
                    exact absurd hJ (by decide)
                · intro hI
                  refine W_skip (at_then ?_)
                  refine W_seq ?_
                  refine W_rseq ?_
                  refine op_move rfl (.int _ _) rfl ?_
                  refine op_neq rfl rfl rfl ?_
                  refine op_nil (at_then ?_)
                  refine W_cond _ rfl ?_ ?_
                  · intro hJ
                    replace hJ := ndec_t hJ
                    have hnone2 : rt2.2 = none := by
                      cases h5 : rt2.2 with
                      | none => rfl
                      | some z => obtain ⟨i2, o⟩ := z; rw [hrt2] at h5; exact absurd (by rw [hrt2]; exact (readT_some h5).1) hJ
                    rw [hnone2] at hsc
                    dsimp only at hsc
                    rw [hsc] at hec
                    dsimp only at hec
                    rw [if_pos hJ] at hec
                    have hrd2 : rdC fr r.2.1 y.it.page (depth + 1) = r.2.1 := by unfold rdC; rw [← hrt2, if_neg hJ]
                    refine W_rseq ?_
                    refine op_ldbN rfl ag_116_TrU sz_116_TrU rfl H (by first | exact at0 | exact at1 | exact at2 | exact at3 | exact at4 | exact at5 | exact at6 | exact at7 | exact at8 | exact at9) rfl ?_
                    refine op_move rfl (.int _ _) rfl ?_
                    refine op_stb0 rfl sz_116_TrU rfl rfl rfl (by simp [oneCell]) H (by first | exact at0 | exact at1 | exact at2 | exact at3 | exact at4 | exact at5 | exact at6 | exact at7 | exact at8 | exact at9) rfl ?_
                    rintro w H
                    refine op_assign rfl (.int _ _) rfl ?_
                    refine op_nil (at_then ?_)
                    refine W_ret (ret_then (ret_then (leave2b rfl rfl rfl ag_116_TrU sz_116_TrU H (by first | exact at0 | exact at1 | exact at2 | exact at3 | exact at4 | exact at5 | exact at6 | exact at7 | exact at8 | exact at9) rfl (show _ = (.int _ _) from rfl) ?_)))
                    obtain ⟨E8, -⟩ := E7.own H
                    have X8 := E8.X
                    rw [hrd2] at X8
                    exact ⟨true, aa, nn, cc, F5, L7, by rw [hec], by rw [hec]; exact X8, E8.GT, fun h => absurd (by rw [hec] at h; exact h) hJ⟩
                  · intro hJ
                    replace hJ := ndec_f hJ
                    have hJ' : rt2.1 = 0 := by simpa using hJ
                    obtain ⟨⟨i2, o⟩, hsome2⟩ : ∃ z, rt2.2 = some z := by
                      cases h5 : rt2.2 with
                      | none => rw [hrt2] at h5; exact absurd (by rw [← hrt2]; exact hJ') (readT_none h5)
                      | some z => exact ⟨z, rfl⟩
                    obtain ⟨rfl, O7, hb7⟩ := hits7 i2 o hsome2
                    have hoin : oin = true := by
                      cases oin with
                      | true => rfl
                      | false => rw [hJ'] at hI; simp at hI
                    subst hoin
                    rw [hsome2] at hsc
                    dsimp only at hsc
                    obtain ⟨-, -, -, -, -, hol⟩ := readT_some (A := r.2.1.A) (fr := fr) (sz := r.2.1.P.length) (page := ((y.it.page : Nat) : Int)) (depth := ((depth + 1 : Nat) : Int)) (by rw [← hrt2]; exact hsome2)
                    obtain ⟨E8, g8⟩ := E7.own H
                    have I8 := (I6.turn gg7).turn g8
                    have K8 := (K6.turn gg7).turn g8
                    have O8 := (O7.weak E6.fresh).turn g8
                    have hon := O8.num
                    have htn : to ≤ nn := by omega
                    replace H := E8.O.ctx
                    obtain ⟨w8, rfl⟩ : ∃ x, x = w := ⟨_, rfl⟩
                    refine W_skip (at_then ?_)
                    refine W_rseq ?_
                    refine op_fieldAddr rfl fo_116_1_TrU rfl ?_
                    refine op_ldb rfl ag_114_TrU rfl H (by first | exact at0 | exact at1 | exact at2 | exact at3 | exact at4 | exact at5 | exact at6 | exact at7 | exact at8 | exact at9) rfl ?_
                    refine op_fieldAddr rfl fo_116_1_TrU rfl ?_
                    refine op_ldb rfl ag_114_TrU rfl H (by first | exact at0 | exact at1 | exact at2 | exact at3 | exact at4 | exact at5 | exact at6 | exact at7 | exact at8 | exact at9) rfl ?_
                    refine op_buildA [.slice k5 n5 c5, .slice oa on oc] rfl ar_232_TrU sz_114_TrU zc_232_TrU (by kernel_rfl) ?_
                    refine op_alloc rfl zc_232_TrU H ?_
                    rintro b21 w - H
                    refine op_stb0 rfl sz_232_TrU rfl rfl rfl (by simp [oneCell]) H (by first | exact at0 | exact at1 | exact at2 | exact at3 | exact at4 | exact at5 | exact at6 | exact at7 | exact at8 | exact at9) rfl ?_
                    rintro w H
                    refine op_nil (at_then ?_)
                    refine W_seq ?_
                    refine W_rseq ?_
                    refine op_move rfl (.int _ _) rfl ?_
                    refine op_move rfl (.int _ _) rfl ?_
                    refine op_lss rfl rfl rfl ?_
                    refine op_nil (at_then ?_)
                    refine W_cond _ rfl ?_ ?_
                    · intro hK
                      replace hK := dec_t hK
                      have hbi0 : bi ≠ 0 := by
                        intro h0; rw [hkk] at hK; unfold sideK at hK; rw [if_pos h0] at hK; omega
                      rw [if_neg hbi0] at hsc
                      refine W_region ?_
                      refine op_indexArr rfl ar_232_TrU sz_114_TrU rfl rfl (by omega) (by omega) ?_
                      refine op_ldb rfl ag_114_TrU rfl H (by first | exact at0 | exact at1 | exact at2 | exact at3 | exact at4 | exact at5 | exact at6 | exact at7 | exact at8 | exact at9) rfl ?_
                      refine op_indexArr rfl ar_232_TrU sz_114_TrU rfl rfl (by omega) (by omega) ?_
                      refine op_ldb rfl ag_114_TrU rfl H (by first | exact at0 | exact at1 | exact at2 | exact at3 | exact at4 | exact at5 | exact at6 | exact at7 | exact at8 | exact at9) rfl ?_
                      refine op_indexArr rfl ar_232_TrU sz_114_TrU rfl rfl (by omega) (by omega) ?_
                      refine op_stb (.slice _ _ _) rfl sz_114_TrU rfl rfl rfl H (by first | exact at0 | exact at1 | exact at2 | exact at3 | exact at4 | exact at5 | exact at6 | exact at7 | exact at8 | exact at9) (by first | decide | (simp; done) | (simp; omega)) ?_
                      rintro w H
                      refine op_indexArr rfl ar_232_TrU sz_114_TrU rfl rfl (by omega) (by omega) ?_
                      refine op_stb (.slice _ _ _) rfl sz_114_TrU rfl rfl rfl H (by first | exact at0 | exact at1 | exact at2 | exact at3 | exact at4 | exact at5 | exact at6 | exact at7 | exact at8 | exact at9) (by first | decide | (simp; done) | (simp; omega)) ?_
                      rintro w H
                      refine op_nil (at_then ?_)
                      refine W_region ?_
                      refine op_indexArr rfl ar_232_TrU sz_114_TrU rfl rfl (by omega) (by omega) ?_
                      refine op_ldb rfl ag_114_TrU rfl H (by first | exact at0 | exact at1 | exact at2 | exact at3 | exact at4 | exact at5 | exact at6 | exact at7 | exact at8 | exact at9) rfl ?_
                      refine op_indexArr rfl ar_232_TrU sz_114_TrU rfl rfl (by omega) (by omega) ?_
                      refine op_ldb rfl ag_114_TrU rfl H (by first | exact at0 | exact at1 | exact at2 | exact at3 | exact at4 | exact at5 | exact at6 | exact at7 | exact at8 | exact at9) rfl ?_
                      refine op_buildL [.slice oa on oc, .slice k5 n5 c5] rfl el_196_TrU sz_114_TrU zc_114_TrU (by decide) (by decide) (by kernel_rfl) H ?_
                      rintro b138 w - H
                      obtain ⟨E9, g9⟩ := E8.own H
                      have I9 := I8.turn g9
                      have K9 := K8.turn g9
                      have O9 := O8.turn g9
                      have RR : Rd w (some ⟨b138, 0, none⟩) 1 encT [(oa, o, oc), (k5, r.2.2.2, c5)] := Rd.of_bl (r := []) (H.get at0) (by simp [encT, ← hon, ← hkn]) (fun _ _ => rfl)
                      have CC := concatI_ok (n := 2) (c := 2) E9.mylt _ RR (side_parts O9 K9) rfl (by omega) (by simp only [List.map_cons, List.map_nil, List.sum_cons, List.sum_nil]; omega)
                      rw [show ([(oa, o, oc), (k5, r.2.2.2, c5)] : List SI).flatMap (fun x => x.2.1) = o ++ r.2.2.2 by simp] at CC
                      refine op_call rfl ca_74_TrU CC rfl ?_
                      rintro v w11 ⟨a11, c11, rfl, J11, hx11⟩
                      obtain ⟨E11, g11⟩ := E9.call0 hx11
                      replace H := E11.O.ctx
                      refine op_fieldAddr rfl fo_116_1_TrU rfl ?_
                      refine op_stb (.slice _ _ _) rfl sz_114_TrU rfl rfl rfl H (by first | exact at0 | exact at1 | exact at2 | exact at3 | exact at4 | exact at5 | exact at6 | exact at7 | exact at8 | exact at9) (by first | decide | (simp; done) | (simp; omega)) ?_
                      rintro w H
                      refine op_nil (at_then ?_)
                      obtain ⟨E12, g12⟩ := E11.own H.tail.tail.tail
                      exact ⟨⟨a11, (o ++ r.2.2.2).length, c11, o ++ r.2.2.2, bi - 1, to, rdC fr r.2.1 y.it.page (depth + 1), L7, []⟩, rfl, ⟨rfl, rfl, trivial⟩, E12, (I9.turn g11).turn g12, J11.turn g12, hsc, by dsimp only; omega, htn⟩
                    · intro hK
                      replace hK := dec_f hK
                      have hbi0 : bi = 0 := by
                        rw [hkk] at hK; unfold sideK at hK
                        by_cases h0 : bi = 0
                        · exact h0
                        · rw [if_neg h0] at hK; omega
                      rw [if_pos hbi0] at hsc
                      refine W_skip (at_then ?_)
                      refine W_region ?_
                      refine op_indexArr rfl ar_232_TrU sz_114_TrU rfl rfl (by omega) (by omega) ?_
                      refine op_ldb rfl ag_114_TrU rfl H (by first | exact at0 | exact at1 | exact at2 | exact at3 | exact at4 | exact at5 | exact at6 | exact at7 | exact at8 | exact at9) rfl ?_
                      refine op_indexArr rfl ar_232_TrU sz_114_TrU rfl rfl (by omega) (by omega) ?_
                      refine op_ldb rfl ag_114_TrU rfl H (by first | exact at0 | exact at1 | exact at2 | exact at3 | exact at4 | exact at5 | exact at6 | exact at7 | exact at8 | exact at9) rfl ?_
                      refine op_buildL [.slice k5 n5 c5, .slice oa on oc] rfl el_196_TrU sz_114_TrU zc_114_TrU (by decide) (by decide) (by kernel_rfl) H ?_
                      rintro b138 w - H
                      obtain ⟨E9, g9⟩ := E8.own H
                      have I9 := I8.turn g9
                      have K9 := K8.turn g9
                      have O9 := O8.turn g9
                      have RR : Rd w (some ⟨b138, 0, none⟩) 1 encT [(k5, r.2.2.2, c5), (oa, o, oc)] := Rd.of_bl (r := []) (H.get at0) (by simp [encT, ← hon, ← hkn]) (fun _ _ => rfl)
                      have CC := concatI_ok (n := 2) (c := 2) E9.mylt _ RR (side_parts K9 O9) rfl (by omega) (by simp only [List.map_cons, List.map_nil, List.sum_cons, List.sum_nil]; omega)
                      rw [show ([(k5, r.2.2.2, c5), (oa, o, oc)] : List SI).flatMap (fun x => x.2.1) = r.2.2.2 ++ o by simp] at CC
                      refine op_call rfl ca_74_TrU CC rfl ?_
                      rintro v w11 ⟨a11, c11, rfl, J11, hx11⟩
                      obtain ⟨E11, g11⟩ := E9.call0 hx11
                      replace H := E11.O.ctx
                      refine op_fieldAddr rfl fo_116_1_TrU rfl ?_
                      refine op_stb (.slice _ _ _) rfl sz_114_TrU rfl rfl rfl H (by first | exact at0 | exact at1 | exact at2 | exact at3 | exact at4 | exact at5 | exact at6 | exact at7 | exact at8 | exact at9) (by first | decide | (simp; done) | (simp; omega)) ?_
                      rintro w H
                      refine op_nil (at_then ?_)
                      obtain ⟨E12, g12⟩ := E11.own H.tail.tail.tail
                      exact ⟨⟨a11, (r.2.2.2 ++ o).length, c11, r.2.2.2 ++ o, bi - 1, to, rdC fr r.2.1 y.it.page (depth + 1), L7, []⟩, rfl, ⟨rfl, rfl, trivial⟩, E12, (I9.turn g11).turn g12, J11.turn g12, hsc, by dsimp only; omega, htn⟩
          · intro hE
            have hfw : ¬ few1 kin r.2.2.2 = true := by unfold few1; rw [← hkn, hE]; simp
            unfold sideC at hsc
            rw [if_neg hfw] at hsc
            refine W_skip (at_then ?_)
            exact ⟨⟨k5, n5, c5, r.2.2.2, bi, bi + 1, r.2.1, L5, []⟩, rfl, ⟨rfl, rfl, trivial⟩, E6, I6, K6, hsc, by dsimp only; omega, by dsimp only; omega⟩
        · rintro ⟨sa, sn, scc, sM, sfr, sto, sch, L8, Y8⟩ j8 w ⟨E8, I8, K8, hsc8, hfn, htn⟩; dsimp only at E8 I8 K8 hsc8 hfn htn; dsimp only
          rw [hsc8] at hec
          dsimp only at hec
          rw [if_neg (by simp)] at hec
          have hch : sch = sc.2.1 := by rw [hsc8]
          rw [← hch] at sb1 sb2 sb3
          obtain ⟨q, hq⟩ : ∃ q, q = putS fr sch kin sM := ⟨_, rfl⟩
          rw [← hq] at hec
          have hok8 : q.1 ≠ 99 := fun h => hok (by rw [hec]; exact h)
          obtain ⟨hokM, hqc⟩ := putS_99 (fr := fr) (c := sch) (i := kin) (M := sM) (by rw [← hq]; exact hok8)
          rw [← hq] at hqc
          obtain ⟨m1, m2, m3, m4⟩ := okM_of hokM
          obtain ⟨qb1, qb2, qb3, qb4⟩ := putS_bnd (fr := fr) (c := sch) (i := kin) (M := sM) (m := mx + 2 * (n' + 1))
          rw [← hq] at qb1 qb2 qb3 qb4
          have hkn8 := K8.num
          have hcc8 := I8.le
          have hfew8 : Few sch.A (mx + 2 * (n' + 1)) := by rw [sb3]; exact eb3
          have H := E8.O.ctx
          refine W_rseq ?_
          refine op_move rfl (.pointer _) rfl ?_
          refine op_ldbN rfl ag_116_TrU sz_116_TrU rfl H (by first | exact at0 | exact at1 | exact at2 | exact at3 | exact at4 | exact at5 | exact at6 | exact at7 | exact at8 | exact at9) rfl ?_
          refine op_call rfl ca_169_TrU (put7_ok E8.X hfr (by rw [sb1]; omega) kin (MY Z _) E8.zlt (K8.weak MYZ) (by omega) m2 m3 m4 hfew8 (by omega)) rfl ?_
          rintro v w9 ⟨qa, qn, qc, F9, L9, rfl, X9, g9, Q9⟩
          rw [← hqc] at X9 Q9
          rw [← hqc]
          obtain ⟨E9, gg9⟩ := E8.call X9 g9
          have Q9' := Q9.weak MYZ'
          have I9 := I8.turn gg9
          replace H := E9.O.ctx
          refine op_move rfl (.tuple _) rfl ?_
          refine op_extract rfl rfl rfl ?_
          refine op_extract rfl rfl rfl ?_
          refine op_assign rfl (.slice _ _ _) rfl ?_
          refine op_assign rfl (.int _ _) rfl ?_
          refine op_nil (at_then ?_)
          refine W_sseqz [([0, 1, 2, 3, 4, 5, 6, 7, 8], 9), ([], 10), ([11], 12)] (fun z => z.heap[b12]? = some (NBl true aa nn cc)) [12] mixed (by kernel_rfl) (H.drew.get at1) ?_
          refine seg_cons rfl rfl ?_
          refine t_fieldAddr rfl fo_116_1_TrU rfl ?_
          first | refine t_ldb rfl ag_114_TrU rfl (fun _ _ => Ctx.start _ []) (by first | exact at0 | exact at1 | exact at2 | exact at3 | exact at4 | exact at5 | exact at6 | exact at7 | exact at8 | exact at9) rfl ?_ | refine t_ld rfl ag_114_TrU rfl (fun _ hx => cell_bl hx (0 + 1)) ?_
          refine t_move rfl (.int _ _) rfl ?_
          refine t_slice_hi rfl el_114_TrU sz_120_TrU rfl rfl (by omega) (by omega) ?_
          refine t_move rfl (.slice _ _ _) rfl ?_
          refine t_fieldAddr rfl fo_116_1_TrU rfl ?_
          first | refine t_ldb rfl ag_114_TrU rfl (fun _ _ => Ctx.start _ []) (by first | exact at0 | exact at1 | exact at2 | exact at3 | exact at4 | exact at5 | exact at6 | exact at7 | exact at8 | exact at9) rfl ?_ | refine t_ld rfl ag_114_TrU rfl (fun _ hx => cell_bl hx (0 + 1)) ?_
          refine t_move rfl (.int _ _) rfl ?_
          refine t_slice_lo rfl el_114_TrU sz_120_TrU rfl rfl (by omega) (by omega) ?_
          refine t_nil ?_
          replace H := H.drew
          refine op_buildL [.slice aa sfr cc, .slice qa qn qc, .slice (cutA aa cc sto 3) (nn - sto) (cc - sto)] rfl el_196_TrU sz_114_TrU zc_114_TrU (by decide) (by decide) (by kernel_rfl) H ?_
          rintro b156 w - H
          refine op_nil (at_seg (H.get at2) ?_)
          refine seg_cons rfl rfl ?_
          refine t_nil ?_
          obtain ⟨E10, g10⟩ := E9.own H
          have I10 := I9.turn g10
          have Q10 := Q9'.turn g10
          have hlt9 : (l.take sfr).length = sfr := (by rw [List.length_take]; omega)
          have hld9 : (l.drop sto).length = nn - sto := (by rw [List.length_drop]; omega)
          have hqn9 : q.2.2.length = qn := Q10.num.symm
          have RR : Rd w (some ⟨b156, 0, none⟩) 1 encT [(aa, l.take sfr, cc), (qa, q.2.2, qc), (cutA aa cc sto 3, l.drop sto, cc - sto)] := Rd.of_bl (r := []) (H.get at0) (by simp [encT, hlt9, hld9, hqn9]) (fun _ _ => rfl)
          have hIts : ∀ x ∈ ([(aa, l.take sfr, cc), (qa, q.2.2, qc), (cutA aa cc sto 3, l.drop sto, cc - sto)] : List SI), Its w _ x.1 x.2.1.length x.2.2 x.2.1 := edit_parts I10 Q10 hfn htn hlt9 hld9
          have hfl : ([(aa, l.take sfr, cc), (qa, q.2.2, qc), (cutA aa cc sto 3, l.drop sto, cc - sto)] : List SI).flatMap (fun x => x.2.1) = l.take sfr ++ (q.2.2 ++ l.drop sto) := (by simp)
          have CC := concatI_ok (n := 3) (c := 3) E10.mylt _ RR hIts rfl (by omega) (by simp only [List.map_cons, List.map_nil, List.sum_cons, List.sum_nil]; omega)
          rw [hfl] at CC
          refine op_call rfl ca_74_TrU CC rfl ?_
          rintro v w11 ⟨a11, c11, rfl, J11, hx11⟩
          obtain ⟨E11, g11⟩ := E10.call0 hx11
          replace H := E11.O.ctx
          refine op_nil (at_seg (H.get at2) ?_)
          refine seg_cons rfl rfl ?_
          refine t_fieldAddr rfl fo_116_1_TrU rfl ?_
          refine t_nil ?_
          refine op_stb (.slice _ _ _) rfl sz_114_TrU rfl rfl rfl H (by first | exact at0 | exact at1 | exact at2 | exact at3 | exact at4 | exact at5 | exact at6 | exact at7 | exact at8 | exact at9) (by first | decide | (simp; done) | (simp; omega)) ?_
          rintro w H
          refine op_nil (at_segz rfl ?_)
          refine seg_nil ?_
          refine W_rseq ?_
          refine op_ldbN rfl ag_116_TrU sz_116_TrU rfl H (by first | exact at0 | exact at1 | exact at2 | exact at3 | exact at4 | exact at5 | exact at6 | exact at7 | exact at8 | exact at9) rfl ?_
          refine op_move rfl (.int _ _) rfl ?_
          refine op_stb0 rfl sz_116_TrU rfl rfl rfl (by simp [oneCell]) H (by first | exact at0 | exact at1 | exact at2 | exact at3 | exact at4 | exact at5 | exact at6 | exact at7 | exact at8 | exact at9) rfl ?_
          rintro w H
          refine op_assign rfl (.int _ _) rfl ?_
          refine op_nil (at_then ?_)
          refine W_ret (leave2b rfl rfl rfl ag_116_TrU sz_116_TrU H (by first | exact at0 | exact at1 | exact at2 | exact at3 | exact at4 | exact at5 | exact at6 | exact at7 | exact at8 | exact at9) rfl (show _ = (.int _ _) from rfl) ?_)
          obtain ⟨E12, g12⟩ := E11.own H
          exact ⟨true, a11, _, c11, F9, L9, by rw [hec]; rfl, by rw [hec]; exact E12.X, E12.GT, fun _ => ⟨by rw [hec], by rw [hec]; exact (J11.turn g12).weak MY.le⟩⟩

theorem edit7_ok {f : Nat} {cl : List Value} {G : List It → List It} {key : Byt} {fr : Nat} (hf : callable Tryz.prog f = true) (hfr : fr ≤ 5000) (hkl : key.length ≤ 100000) : ∀ n, EdSpec f cl G key fr n
  | 0 => edit_step hf hfr hkl 0 fun n' h => by omega
  | n + 1 => edit_step hf hfr hkl (n + 1) fun n' h => by obtain rfl : n = n' := by omega
                                                         exact edit7_ok hf hfr hkl n

end Go.Proofs.YtbkadlngijkmmaaGreatDoor

/- The root of what the uppermost node has: the walk. -/
namespace Go.Proofs.YtbkadlngijkmmaaGreatDoor
open Go.GV
theorem ag_114_TrV : aggB Tryz.prog 114 = some false := by kernel_rfl
theorem ag_116_TrV : aggB Tryz.prog 116 = some true := by kernel_rfl
theorem ca_169_TrV : callable Tryz.prog 169 = true := by kernel_rfl
theorem ca_80_TrV : callable Tryz.prog 80 = true := by kernel_rfl
theorem el_114_TrV : elemT Tryz.prog 114 = some 120 := by kernel_rfl
theorem fo_116_0_TrV : fieldO Tryz.prog 116 0 = some 0 := by kernel_rfl
theorem fo_116_1_TrV : fieldO Tryz.prog 116 1 = some 1 := by kernel_rfl
theorem fo_120_2_TrV : fieldO Tryz.prog 120 2 = some 2 := by kernel_rfl
theorem pl_116_TrV : placesB Tryz.prog 116 = some [(0, 1), (1, 1)] := by kernel_rfl
theorem sz_116_TrV : tsize Tryz.prog 116 = some 2 := by kernel_rfl
theorem sz_120_TrV : tsize Tryz.prog 120 = some 3 := by kernel_rfl
theorem zc_116_TrV : zcells Tryz.prog 116 = some ([.bool false, .slice none 0 0]) := by kernel_rfl
theorem zc_120_TrV : zcells Tryz.prog 120 = some ([.slice none 0 0, .slice none 0 0, .int .i64 0]) := by kernel_rfl
attribute [local irreducible] Wops W Wq Wt

theorem takeP_len (P : List Nat) : (takeP' P).length = P.length := by
  unfold takeP'; split
  · rfl
  · simp
theorem wrC_len {fr : Nat} {c : Ch} {i : Bool} {M : List It} : (wrC fr c i M).2.P.length = c.P.length := by
  unfold wrC
  split
  · rfl
  · split
    · exact takeP_len _
    · exact takeP_len _
theorem putF_sz {fr : Nat} {i : Bool} : ∀ {Hs : List (List It)} {c : Ch} {acc : List It}, c.P.length ≤ 4096 → (∀ h ∈ Hs, (keyOf0 h).length ≤ 65535) → (∀ x ∈ acc, x.key.length ≤ 65535 ∧ x.val.length ≤ 65535 ∧ x.page ≤ 4096) → ∀ x ∈ (putF fr i Hs c acc).2.2, x.key.length ≤ 65535 ∧ x.val.length ≤ 65535 ∧ x.page ≤ 4096
  | [], c, acc, _, _, ha => ha
  | h :: Hs, c, acc, hP, hk, ha => by
    unfold putF
    split
    · refine putF_sz (by rw [wrC_len]; exact hP) (fun h hh => hk h (List.mem_cons_of_mem _ hh)) fun x hx => ?_
      rcases List.mem_append.1 hx with hx | hx
      · exact ha x hx
      · rw [List.mem_singleton.1 hx]
        have := takeK_le c.P
        exact ⟨hk h (List.mem_cons_self ..), by simp, by dsimp only; omega⟩
    · intro x hx; cases hx
theorem putC_sz {fr : Nat} {c : Ch} {i : Bool} {M : List It} (hP : c.P.length ≤ 4096) (hM : ∀ x ∈ M, x.key.length ≤ 65535) : ∀ x ∈ (putC fr c i M).2.2, x.key.length ≤ 65535 ∧ x.val.length ≤ 65535 ∧ x.page ≤ 4096 := by
  unfold putC
  split
  · intro x hx; cases hx
  · refine putF_sz hP (fun h hh => ?_) (fun x hx => by cases hx)
    unfold keyOf0
    cases h0 : h[0]? with
    | none => simp
    | some y => exact hM y ((halves_mem hh).2 y (List.mem_of_getElem? h0))

set_option maxRecDepth 20000 in
set_option maxHeartbeats 8000000 in
theorem top7_ok {w : World} {bt bd bp ba fr bc : Nat} {c : Ch} {F : Mut} {L : List (Nat × Obj)} (X : Cx w bt bd bp ba fr bc c F L) (hfr : fr ≤ 5000) (htk : c.tk.length ≤ 99980) (inner : Bool) {a : Option Addr} {n cc : Nat} {M : List It} (Z : Mut) (hZ : ∀ x, Z x → x < w.heap.size) (I : Its w (MZ (TM F ba bt bp L) Z) a n cc M)
    {mx : Nat} (hfew : Few c.A mx) (hmx : mx ≤ 999999980) (hok : (topC fr c inner M).1 ≠ 99) :
    Ret Tryz.prog 132 #[ptr bc, .agg #[.bool inner, .slice a n cc]] w fun v w' => ∃ (p : Int) (F' : Mut) (L' : List (Nat × Obj)), v = .tuple #[.int .i64 p, .int .i64 (topC fr c inner M).1] ∧ Cx w' bt bd bp ba fr bc (topC fr c inner M).2.1 F' L' ∧ Grown (TM F ba bt bp L) (TM F' ba bt bp L') w w' ∧ ((topC fr c inner M).1 = 0 → p = (topC fr c inner M).2.2) := by
  obtain ⟨w0, rfl⟩ : ∃ w0, w0 = w := ⟨_, rfl⟩
  have hnum := I.num
  obtain ⟨tc, htc⟩ : ∃ tc, tc = topC fr c inner M := ⟨_, rfl⟩
  rw [← htc] at hok ⊢
  unfold topC at htc
  have E0 := Fr.start X hZ
  have H := Ctx.start w0 []
  refine ret_of_W (fn := Tryz.f132) Tryz.func132 rfl [.pointer (some ⟨bc, 0, none⟩), .agg #[.bool inner, .slice a n cc]] rfl (by kernel_rfl) ?_
  refine W_rseq ?_
  refine op_box rfl [.bool inner, .slice a n cc] (.agg _) rfl rfl H ?_
  rintro b3 w - H
  refine op_assign rfl (.int _ _) rfl ?_
  refine op_assign rfl (.int _ _) rfl ?_
  refine op_nil (at_then ?_)
  refine W_seq ?_
  refine W_rseq (Wops_join (α := Unit) 261120 (fun _ => [(17, .bool (inner && decide (n = 1)))]) (fun _ w' => Ctx w0 [] w' [(b3, Bl 116 [.bool inner, .slice a n cc])]) rfl ?_ ?_)
  · refine op_fieldAddr rfl fo_116_0_TrV rfl ?_
    refine op_ldb rfl ag_4 rfl H (by first | exact at0 | exact at1 | exact at2 | exact at3 | exact at4 | exact at5 | exact at6 | exact at7 | exact at8 | exact at9) rfl ?_
    refine op_move rfl (.bool _) rfl ?_
    refine Wops_split 12 rfl ?_ ?_
    · intro h1
      refine op_fieldAddr rfl fo_116_1_TrV rfl ?_
      refine op_ldb rfl ag_114_TrV rfl H (by first | exact at0 | exact at1 | exact at2 | exact at3 | exact at4 | exact at5 | exact at6 | exact at7 | exact at8 | exact at9) rfl ?_
      refine op_len rfl el_114_TrV rfl ?_
      refine op_eql rfl rfl rfl ?_
      refine op_pick1 rfl rfl (.bool _) rfl ?_
      refine op_nil ?_
      exact ⟨rfl, (), rfl, ⟨congrArg Value.bool (by (first | rw [h2] | rw [h1]); (try rw [Bool.eq_iff_iff]); simp; try omega), trivial⟩, H⟩
    · intro h2
      refine op_skip rfl ?_
      refine op_skip rfl ?_
      refine op_skip rfl ?_
      refine op_skip rfl ?_
      refine op_pick0 rfl rfl (.bool _) rfl ?_
      refine op_nil ?_
      exact ⟨rfl, (), rfl, ⟨congrArg Value.bool (by (first | rw [h2] | rw [h1]); (try rw [Bool.eq_iff_iff]); simp; try omega), trivial⟩, H⟩
  rintro - j17 w H
  refine W_cond _ rfl ?_ ?_
  · intro hA
    have hfw : few1 inner M = true := by unfold few1; rw [← hnum]; exact hA
    rw [if_pos hfw] at htc
    have hn1 : n = 1 := by simp at hA; exact hA.2
    obtain ⟨E1, g1⟩ := E0.own H
    have I1 := (I.weak MY.nil).turn g1
    replace H := E1.O.ctx
    obtain ⟨ms, R, -, hl, hok1⟩ := I1.ex
    have hml : ms.length = n := by rw [hnum, ← hl, List.length_map]
    obtain ⟨x, hx1⟩ := get_some (l := ms) (i := 0) (by omega)
    have hxL := Im.at hl hx1
    have hpa : pageAt M 0 = x.it.page := by unfold pageAt; rw [hxL]; rfl
    refine W_rseq ?_
    refine op_fieldAddr rfl fo_116_1_TrV rfl ?_
    first | refine op_ldb rfl ag_114_TrV rfl H (by first | exact at0 | exact at1 | exact at2 | exact at3 | exact at4 | exact at5 | exact at6 | exact at7 | exact at8 | exact at9) rfl ?_ | refine op_ld rfl ag_114_TrV rfl (R.fld hx1 rfl (j := 2) rfl) ?_
    first | refine op_indexRd R rfl el_114_TrV sz_120_TrV rfl rfl (by omega) (by omega) (by first | rfl | omega) ?_ | refine op_indexAddr rfl el_114_TrV sz_120_TrV rfl rfl (by omega) (by omega) ?_
    refine op_fieldAddr rfl fo_120_2_TrV rfl ?_
    first | refine op_ldb rfl ag_3 rfl H (by first | exact at0 | exact at1 | exact at2 | exact at3 | exact at4 | exact at5 | exact at6 | exact at7 | exact at8 | exact at9) rfl ?_ | refine op_ld rfl ag_3 rfl (R.fld hx1 rfl (j := 2) rfl) ?_
    refine op_assign rfl (.int _ _) rfl ?_
    refine op_assign rfl (.int _ _) rfl ?_
    refine op_nil (at_then ?_)
    refine W_ret (ret_then (leave2 (v1 := (.int _ _)) (v2 := (.int _ _)) rfl rfl rfl rfl ?_))
    exact ⟨_, F, L, by rw [htc], by rw [htc]; exact E1.X, E1.GT, fun _ => by rw [htc, hpa]⟩
  · intro hA
    have hfw : ¬ few1 inner M = true := by unfold few1; rw [← hnum, hA]; simp
    rw [if_neg hfw] at htc
    obtain ⟨q, hq⟩ : ∃ q, q = putS fr c inner M := ⟨_, rfl⟩
    rw [← hq] at htc
    have hok8 : q.1 ≠ 99 := fun h => hok (by rw [htc, if_pos (by rw [h]; decide)]; exact h)
    obtain ⟨hokM, hqc⟩ := putS_99 (fr := fr) (c := c) (i := inner) (M := M) (by rw [← hq]; exact hok8)
    rw [← hq] at hqc
    obtain ⟨m1, m2, m3, m4⟩ := okM_of hokM
    obtain ⟨qb1, qb2, qb3, qb4⟩ := putS_bnd (fr := fr) (c := c) (i := inner) (M := M) (m := mx)
    rw [← hq] at qb1 qb2 qb3 qb4
    have hsz := putC_sz (fr := fr) (c := c) (i := inner) (M := M) X.T.pg.len (fun x hx => (m2 x hx).1)
    rw [← hqc] at hsz
    obtain ⟨E1, g1⟩ := E0.own H
    have I1 := (I.weak MY.nil).turn g1
    replace H := E1.O.ctx
    refine W_skip (at_then ?_)
    refine W_rseq ?_
    refine op_move rfl (.pointer _) rfl ?_
    refine op_ldbN rfl ag_116_TrV sz_116_TrV rfl H (by first | exact at0 | exact at1 | exact at2 | exact at3 | exact at4 | exact at5 | exact at6 | exact at7 | exact at8 | exact at9) rfl ?_
    refine op_call rfl ca_169_TrV (put7_ok E1.X hfr (by omega) inner (MY Z _) E1.zlt (I1.weak MYZ) (by omega) m2 m3 m4 hfew (by omega)) rfl ?_
    rintro v w9 ⟨qa, qn, qc, F9, L9, rfl, X9, g9, Q9⟩
    rw [← hqc] at X9 Q9
    rw [← hqc]
    obtain ⟨E9, gg9⟩ := E1.call X9 g9
    have hqn := Q9.num
    replace H := E9.O.ctx
    refine op_move rfl (.tuple _) rfl ?_
    refine op_extract rfl rfl rfl ?_
    refine op_extract rfl rfl rfl ?_
    refine op_assign rfl (.slice _ _ _) rfl ?_
    refine op_assign rfl (.int _ _) rfl ?_
    refine op_nil (at_then ?_)
    refine W_seq ?_
    refine W_rseq (Wops_join (α := Unit) 68182605824 (fun _ => [(35, .bool (decide (q.1 ≠ 0) || decide (q.2.2.length = 0)))]) (fun _ w' => Ctx w9 [b3] w' [(b3, Bl 116 [.bool inner, .slice a n cc])]) rfl ?_ ?_)
    · refine op_move rfl (.int _ _) rfl ?_
      refine op_neq rfl rfl rfl ?_
      refine op_move rfl (.bool _) rfl ?_
      refine Wops_split 31 rfl ?_ ?_
      · intro h3
        replace h3 := ndec_t h3
        refine op_skip rfl ?_
        refine op_skip rfl ?_
        refine op_skip rfl ?_
        refine op_pick1 rfl rfl (.bool _) rfl ?_
        refine op_nil ?_
        exact ⟨rfl, (), rfl, ⟨congrArg Value.bool (by (first | rw [decide_eq_true (show q.1 ≠ 0 from h3)] | rw [decide_eq_false (show ¬ q.1 ≠ 0 from fun h => h h4)]); (try rw [← hqn]); (try rw [Bool.eq_iff_iff]); simp; try omega), trivial⟩, H⟩
      · intro h4
        replace h4 := ndec_f h4
        refine op_move rfl (.slice _ _ _) rfl ?_
        refine op_len rfl el_114_TrV rfl ?_
        refine op_eql rfl rfl rfl ?_
        refine op_pick0 rfl rfl (.bool _) rfl ?_
        refine op_nil ?_
        exact ⟨rfl, (), rfl, ⟨congrArg Value.bool (by (first | rw [decide_eq_true (show q.1 ≠ 0 from h3)] | rw [decide_eq_false (show ¬ q.1 ≠ 0 from fun h => h h4)]); (try rw [← hqn]); (try rw [Bool.eq_iff_iff]); simp; try omega), trivial⟩, H⟩
    rintro - j35 w H
    refine W_cond _ rfl ?_ ?_
    · intro hB
      refine W_rseq ?_
      refine op_move rfl (.int _ _) rfl ?_
      refine op_assign rfl (.int _ _) rfl ?_
      refine op_assign rfl (.int _ _) rfl ?_
      refine op_nil (at_then ?_)
      refine W_ret (ret_then (leave2 (v1 := (.int _ _)) (v2 := (.int _ _)) rfl rfl rfl rfl ?_))
      obtain ⟨E10, -⟩ := E9.own H
      by_cases h0 : q.1 = 0
      · have h1 : q.2.2 = [] := by
          rw [h0] at hB
          simpa using hB
        rw [if_neg (by rw [h0]; simp), if_pos h1] at htc
        exact ⟨-1, F9, L9, by rw [htc, h0], by rw [htc]; exact E10.X, E10.GT, fun _ => by rw [htc]⟩
      · rw [if_pos h0] at htc
        exact ⟨-1, F9, L9, by rw [htc], by rw [htc]; exact E10.X, E10.GT, fun _ => by rw [htc]⟩
    · intro hB
      have hB2 : q.1 = 0 ∧ q.2.2 ≠ [] := by
        simp at hB
        exact ⟨hB.1, hB.2⟩
      obtain ⟨h0, h1⟩ := hB2
      rw [if_neg (by rw [h0]; simp), if_neg h1] at htc
      obtain ⟨E10, g10⟩ := E9.own H
      have Q10 := (Q9.weak MYZ').turn g10
      replace H := E10.O.ctx
      obtain ⟨w10, rfl⟩ : ∃ x, x = w := ⟨_, rfl⟩
      refine W_skip (at_then ?_)
      refine W_seq ?_
      refine W_rseq ?_
      refine op_move rfl (.slice _ _ _) rfl ?_
      refine op_len rfl el_114_TrV rfl ?_
      refine op_gtr rfl rfl rfl ?_
      refine op_nil (at_then ?_)
      refine W_cond _ rfl ?_ ?_
      · intro hC
        replace hC := dec_t hC
        rw [if_pos (by omega)] at htc
        refine W_rseq ?_
        refine op_move rfl (.pointer _) rfl ?_
        refine op_move rfl (.slice _ _ _) rfl ?_
        refine op_buildS [.bool true, .slice qa qn qc] rfl pl_116_TrV zc_116_TrV (by kernel_rfl) ?_
        refine op_call rfl ca_80_TrV (write7_ok E10.X hfr (by omega) true (MY Z _) (Q10.weak MYZ) h1 (by omega) (fun x hx => ⟨(hsz x hx).1, (hsz x hx).2.1⟩) (fun x hx => by have := (hsz x hx).2.2; omega) (qb3 hfew) (by omega)) rfl ?_
        rintro v w11 ⟨m, F11, L11, rfl, X11, g11, -, -, hm11⟩
        obtain ⟨E11, -⟩ := E10.call X11 g11
        replace H := E11.O.ctx
        refine op_move rfl (.tuple _) rfl ?_
        refine op_extract rfl rfl rfl ?_
        refine op_extract rfl rfl rfl ?_
        refine op_alloc rfl zc_120_TrV H ?_
        rintro b8 w - H
        refine op_stb0 rfl sz_120_TrV rfl rfl rfl (by first | exact (by first | exact Im.oneE _ | exact Im.oneE m) | simp [oneCell]) H (by first | exact at0 | exact at1 | exact at2 | exact at3 | exact at4 | exact at5 | exact at6 | exact at7 | exact at8 | exact at9) rfl ?_
        rintro w H
        refine op_assign rfl (.int _ _) rfl ?_
        refine op_nil (at_then ?_)
        refine W_rseq ?_
        refine op_fieldAddr rfl fo_120_2_TrV rfl ?_
        first | refine op_ldb rfl ag_3 rfl H (by first | exact at0 | exact at1 | exact at2 | exact at3 | exact at4 | exact at5 | exact at6 | exact at7 | exact at8 | exact at9) rfl ?_ | refine op_ld rfl ag_3 rfl (R.fld hx1 rfl (j := 2) rfl) ?_
        refine op_move rfl (.int _ _) rfl ?_
        refine op_assign rfl (.int _ _) rfl ?_
        refine op_assign rfl (.int _ _) rfl ?_
        refine op_nil (at_then ?_)
        refine W_ret (ret_then (leave2 (v1 := (.int _ _)) (v2 := (.int _ _)) rfl rfl rfl rfl ?_))
        obtain ⟨E12, -⟩ := E11.own H
        exact ⟨_, F11, L11, by rw [htc], by rw [htc]; exact E12.X, E12.GT, fun h => by rw [htc] at h ⊢; rw [hm11 h]⟩
      · intro hC
        replace hC := dec_f hC
        rw [if_neg (by omega)] at htc
        obtain ⟨ms, R, -, hl, hok1⟩ := Q10.ex
        have hml : ms.length = qn := by rw [hqn, ← hl, List.length_map]
        have hpos := List.length_pos_iff.2 h1
        obtain ⟨x, hx1⟩ := get_some (l := ms) (i := 0) (by omega)
        have hxL := Im.at hl hx1
        have hpa : pageAt q.2.2 0 = x.it.page := by unfold pageAt; rw [hxL]; rfl
        refine W_skip (at_then ?_)
        refine W_rseq ?_
        refine op_move rfl (.slice _ _ _) rfl ?_
        first | refine op_indexRd R rfl el_114_TrV sz_120_TrV rfl rfl (by omega) (by omega) (by first | rfl | omega) ?_ | refine op_indexAddr rfl el_114_TrV sz_120_TrV rfl rfl (by omega) (by omega) ?_
        refine op_fieldAddr rfl fo_120_2_TrV rfl ?_
        first | refine op_ldb rfl ag_3 rfl H (by first | exact at0 | exact at1 | exact at2 | exact at3 | exact at4 | exact at5 | exact at6 | exact at7 | exact at8 | exact at9) rfl ?_ | refine op_ld rfl ag_3 rfl (R.fld hx1 rfl (j := 2) rfl) ?_
        refine op_assign rfl (.int _ _) rfl ?_
        refine op_assign rfl (.int _ _) rfl ?_
        refine op_nil (at_then ?_)
        refine W_ret (leave2 (v1 := (.int _ _)) (v2 := (.int _ _)) rfl rfl rfl rfl ?_)
        exact ⟨_, F9, L9, by rw [htc], by rw [htc]; exact E10.X, E10.GT, fun _ => by rw [htc, hpa]⟩

end Go.Proofs.YtbkadlngijkmmaaGreatDoor

/- Something is done to the leaf of a root: the walk. -/
namespace Go.Proofs.YtbkadlngijkmmaaGreatDoor
open Go.GV
theorem ag_116_TrW : aggB Tryz.prog 116 = some true := by kernel_rfl
theorem ag_133_TrW : aggB Tryz.prog 133 = some false := by kernel_rfl
theorem ag_31_TrW : aggB Tryz.prog 31 = some false := by kernel_rfl
theorem ca_130_TrW : callable Tryz.prog 130 = true := by kernel_rfl
theorem ca_131_TrW : callable Tryz.prog 131 = true := by kernel_rfl
theorem ca_132_TrW : callable Tryz.prog 132 = true := by kernel_rfl
theorem ca_78_TrW : callable Tryz.prog 78 = true := by kernel_rfl
theorem fo_116_1_TrW : fieldO Tryz.prog 116 1 = some 1 := by kernel_rfl
theorem pl_116_TrW : placesB Tryz.prog 116 = some [(0, 1), (1, 1)] := by kernel_rfl
theorem pl_135_TrW : placesB Tryz.prog 135 = some [(0, 1), (1, 1), (2, 1)] := by kernel_rfl
theorem sz_114_TrW : tsize Tryz.prog 114 = some 1 := by kernel_rfl
theorem sz_116_TrW : tsize Tryz.prog 116 = some 2 := by kernel_rfl
theorem sz_133_TrW : tsize Tryz.prog 133 = some 1 := by kernel_rfl
theorem sz_31_TrW : tsize Tryz.prog 31 = some 1 := by kernel_rfl
theorem zc_116_TrW : zcells Tryz.prog 116 = some ([.bool false, .slice none 0 0]) := by kernel_rfl
theorem zc_133_TrW : zcells Tryz.prog 133 = some ([.pointer none]) := by kernel_rfl
theorem zc_135_TrW : zcells Tryz.prog 135 = some ([.pointer none, .slice none 0 0, .slice none 0 0]) := by kernel_rfl
theorem zc_31_TrW : zcells Tryz.prog 31 = some ([.int .i64 0]) := by kernel_rfl
attribute [local irreducible] Wops W Wq Wt

theorem Tx.none {w : World} {bt bd bp ba fr : Nat} {A : Dev} {P : List Nat} {F : Mut} {L : List (Nat × Obj)} (T : Tx w bt bd bp ba fr A P F L) : Tx w bt bd bp ba fr A P F [] :=
  ⟨T.tr, T.pg, T.dev, (fun x h => by cases h), List.Pairwise.nil, (fun x h => by cases h), T.nbt, T.nbp, T.nba, T.lt⟩
theorem TM.none {F : Mut} {ba bt bp : Nat} {L : List (Nat × Obj)} : ∀ x, TM F ba bt bp [] x → TM F ba bt bp L x := fun x h => by
  rcases h with h | h | h | h | h
  · exact .inl h
  · exact .inr (.inl h)
  · exact .inr (.inr (.inl h))
  · exact .inr (.inr (.inr (.inl h)))
  · cases h
/-- A change begins, in a function that has blocks of its own. -/
theorem Fr.born {w0 w : World} {bt bd bp ba fr bc : Nat} {c : Ch} {F Z : Mut} {L Y : List (Nat × Obj)} (T : Tx w0 bt bd bp ba fr c.A c.P F []) (hZ : ∀ x, Z x → x < w0.heap.size) (H : Ctx w0 [] w (L ++ Y))
    (hex : ∃ ta tc tf ga gc gf, L = CL bt bc ta c.tk.length tc tf ga c.gn.length gc gf ∧ OS ta c.tk.length tc 1 tf (c.tk.map pv) ∧ OS ga c.gn.length gc 1 gf (c.gn.map pv)) : Fr w0 Z (TM F ba bt bp []) w bt bd bp ba fr bc c F L Y := by
  have hnd := List.pairwise_append.1 H.nd
  have hlt0 : ∀ x, TM F ba bt bp [] x → x < w0.heap.size := T.mlt
  have hyo : ∀ y ∈ L ++ Y, w0.heap.size ≤ y.1 := fun y hy => (H.own y hy).elim (fun h => by cases h) id
  obtain ⟨T1, g1⟩ := T.own (H.sub (L' := L) (fun x h => List.mem_append_left _ h) hnd.1)
  refine ⟨⟨T1, hex⟩, ⟨fun y hy => H.blk y (List.mem_append_right _ hy), hnd.2.1, fun y hy h => ?_⟩, g1, ⟨.of0 H.ext, fun x h => ?_⟩, fun y hy => ?_, H.ext.size, hZ⟩
  · have h5 := hyo y (List.mem_append_right _ hy)
    rcases h with h | h
    · by_cases h6 : y.1 ∈ L.map (·.1)
      · obtain ⟨x, hx, he⟩ := List.mem_map.1 h6
        exact hnd.2.2 x hx y hy he
      · have : TM F ba bt bp [] y.1 := by
          rcases h with h | h | h | h | h
          · exact .inl h
          · exact .inr (.inl h)
          · exact .inr (.inr (.inl h))
          · exact .inr (.inr (.inr (.inl h)))
          · exact absurd h h6
        have := hlt0 _ this
        omega
    · have := hZ _ h; omega
  · rcases h with (h | h) | h
    · by_cases h6 : x ∈ L.map (·.1)
      · obtain ⟨y, hy, rfl⟩ := List.mem_map.1 h6
        exact .inr (hyo y (List.mem_append_left _ hy))
      · left; left
        rcases h with h | h | h | h | h
        · exact .inl h
        · exact .inr (.inl h)
        · exact .inr (.inr (.inl h))
        · exact .inr (.inr (.inr (.inl h)))
        · exact absurd h h6
    · exact .inl (.inr h)
    · obtain ⟨y, hy, rfl⟩ := List.mem_map.1 h
      exact .inr (hyo y (List.mem_append_right _ hy))
  · obtain ⟨z, hz, rfl⟩ := List.mem_map.1 hy
    exact hyo z (List.mem_append_right _ hz)

theorem turn1_ok {w : World} {bt bd bp ba fr bc : Nat} {c : Ch} {F : Mut} {L : List (Nat × Obj)} (X : Cx w bt bd bp ba fr bc c F L) {b10 b9 t1 t2 : Nat} {e : Int} {l1 l2 : List Value} (h10 : w.heap[b10]? = some (Bl t1 (ptr bc :: l1))) (h9 : w.heap[b9]? = some (Bl t2 (.int .i64 e :: l2))) (htk : c.tk.length ≤ 1000000) (hgn : c.gn.length ≤ 1000000) :
    RetD Tryz.prog 130 #[ptr b10, ptr b9] w fun w' => Cx w' bt bd bp ba fr bc (overC c e) F L ∧ Grown (TM F ba bt bp L) (TM F ba bt bp L) w w' := by
  obtain ⟨w0, rfl⟩ : ∃ w0, w0 = w := ⟨_, rfl⟩
  have H := Ctx.start w0 []
  refine retD_of_W (fn := Tryz.f130) Tryz.func130 rfl [.pointer (some ⟨b10, 0, none⟩), .pointer (some ⟨b9, 0, none⟩)] rfl (by kernel_rfl) ?_
  refine W_region ?_
  first | refine op_ldb rfl ag_133_TrW rfl H (by first | exact at0 | exact at1 | exact at2 | exact at3 | exact at4 | exact at5 | exact at6 | exact at7 | exact at8 | exact at9) rfl ?_ | refine op_ld rfl ag_133_TrW rfl ((by rw [cell_bl h10]; rfl)) ?_ | refine op_ld rfl ag_133_TrW rfl ((by rw [cell_bl h9]; rfl)) ?_
  first | refine op_ldb rfl ag_31_TrW rfl H (by first | exact at0 | exact at1 | exact at2 | exact at3 | exact at4 | exact at5 | exact at6 | exact at7 | exact at8 | exact at9) rfl ?_ | refine op_ld rfl ag_31_TrW rfl ((by rw [cell_bl h10]; rfl)) ?_ | refine op_ld rfl ag_31_TrW rfl ((by rw [cell_bl h9]; rfl)) ?_
  refine op_call rfl ca_78_TrW (over_ok7 X e htk hgn) rfl ?_
  rintro v w2 ⟨rfl, X2, g2⟩
  refine op_nil (leave0n rfl rfl ?_)
  exact ⟨X2, g2⟩
theorem turnC_eq {fr : Nat} {A : Dev} {P : List Nat} {root : Int} {key : Byt} {G : List It → List It} {ed : Int × Ch × Bool × List It} (hed : ed = if root = -1 then (0, ⟨A, P, [], []⟩, false, G []) else editC fr G key 18 ⟨A, P, [], []⟩ root.toNat 0) :
    turnC fr A P root key G = if ed.1 ≠ 0 then (ed.1, root, overC ed.2.1 ed.1) else if (topC fr ed.2.1 ed.2.2.1 ed.2.2.2).1 ≠ 0 then ((topC fr ed.2.1 ed.2.2.1 ed.2.2.2).1, root, overC (topC fr ed.2.1 ed.2.2.1 ed.2.2.2).2.1 (topC fr ed.2.1 ed.2.2.1 ed.2.2.2).1)
      else (0, (topC fr ed.2.1 ed.2.2.1 ed.2.2.2).2.2, overC (topC fr ed.2.1 ed.2.2.1 ed.2.2.2).2.1 0) := by
  unfold turnC; rw [hed]
theorem topC_bnd {fr : Nat} {c : Ch} {i : Bool} {M : List It} : (topC fr c i M).2.1.tk.length ≤ c.tk.length + 3 ∧ (topC fr c i M).2.1.gn = c.gn := by
  obtain ⟨q1, q2, -, -⟩ := putS_bnd (fr := fr) (c := c) (i := i) (M := M) (m := 0)
  unfold topC
  split
  · exact ⟨Nat.le_add_right _ _, rfl⟩
  · split
    · exact ⟨by dsimp only; omega, q2⟩
    · split
      · exact ⟨by dsimp only; omega, q2⟩
      · split
        · have h1 := wrC_tk (fr := fr) (c := (putS fr c i M).2.1) (inner := true) (M := (putS fr c i M).2.2)
          exact ⟨by dsimp only; omega, wrC_gn.trans q2⟩
        · exact ⟨by dsimp only; omega, q2⟩
/-- Where the walk stands once what is put is known. -/
structure US where
  i : Bool
  a : Option Addr
  n : Nat
  c : Nat
  M : List It
  ch : Ch
  F : Mut
  L : List (Nat × Obj)

set_option maxRecDepth 20000 in
set_option maxHeartbeats 8000000 in
theorem turn7_ok {f : Nat} {cl : List Value} {G : List It → List It} {key : Byt} {fr : Nat} (hf : callable Tryz.prog f = true) (hfr : fr ≤ 5000) (hkl : key.length ≤ 100000) {w : World} {bt bd bp ba : Nat} {A : Dev} {P : List Nat} {F : Mut} (T : Tx w bt bd bp ba fr A P F []) (root : Int) (hr1 : -1 ≤ root) (hr2 : root ≤ 4294967296)
    (Z : Mut) (hZ : ∀ x, Z x → x < w.heap.size) (D : DoOk f cl G w (MZ (TM F ba bt bp []) Z)) (ka : Option Addr) (kc : Nat) (Rk : Rdx w (MZ (TM F ba bt bp []) Z) ka key) {mx : Nat} (hfew : Few A mx) (hmx : mx ≤ 800000000) (hok : (turnC fr A P root key G).1 ≠ 99) :
    Ret Tryz.prog 72 #[ptr bt, .int .i64 root, .slice ka key.length kc, .func (.func f) #[] cl.toArray] w fun v w' => ∃ F', v = .tuple #[.int .i64 (turnC fr A P root key G).2.1, .int .i64 (turnC fr A P root key G).1] ∧ Tx w' bt bd bp ba fr (turnC fr A P root key G).2.2.A (turnC fr A P root key G).2.2.P F' [] ∧ Grown (TM F ba bt bp []) (TM F' ba bt bp []) w w' := by
  obtain ⟨w0, rfl⟩ : ∃ w0, w0 = w := ⟨_, rfl⟩
  obtain ⟨ed, hed⟩ : ∃ ed, ed = (if root = -1 then (0, ⟨A, P, [], []⟩, false, G []) else editC fr G key 18 ⟨A, P, [], []⟩ root.toNat 0 : Int × Ch × Bool × List It) := ⟨_, rfl⟩
  have htc := turnC_eq hed
  obtain ⟨tc, htc2⟩ : ∃ tc, tc = turnC fr A P root key G := ⟨_, rfl⟩
  rw [← htc2] at htc hok ⊢
  have H := Ctx.start w0 []
  refine ret_of_WD (fn := Tryz.f72) Tryz.func72 rfl [.pointer (some ⟨bt, 0, none⟩), .int .i64 root, .slice ka key.length kc, .func (.func f) #[] cl.toArray] rfl (by kernel_rfl) ?_
  refine W_rseq ?_
  refine op_assign rfl (.int _ _) rfl ?_
  refine op_alloc rfl zc_31_TrW H ?_
  rintro b9 w - H
  refine op_nil (at_then ?_)
  refine W_rseq ?_
  refine op_move rfl (.pointer _) rfl ?_
  refine op_buildS [ptr bt, .slice none 0 0, .slice none 0 0] rfl pl_135_TrW zc_135_TrW (by kernel_rfl) ?_
  refine op_box rfl [ptr bt, .slice none 0 0, .slice none 0 0] (.agg _) rfl rfl H ?_
  rintro bc w - H
  refine op_alloc rfl zc_133_TrW H ?_
  rintro b10 w - H
  refine op_stb (.pointer _) rfl sz_133_TrW rfl rfl rfl H (by first | exact at0 | exact at1 | exact at2 | exact at3 | exact at4 | exact at5 | exact at6 | exact at7 | exact at8 | exact at9) (by first | decide | (simp; done) | (simp; omega)) ?_
  rintro w H
  refine op_nil (at_then ?_)
  refine W_rseq ?_
  refine op_makeFuncL rfl [.pointer _, .pointer _] rfl ?_
  refine op_defer rfl rfl ?_
  refine op_nil (at_then ?_)
  refine W_rseq ?_
  refine op_buildS [.bool false, .slice none 0 0] rfl pl_116_TrW zc_116_TrW (by kernel_rfl) ?_
  refine op_alloc rfl zc_116_TrW H ?_
  rintro b11 w - H
  refine op_stb0 rfl sz_116_TrW rfl rfl rfl (by simp [oneCell]) H (by first | exact at0 | exact at1 | exact at2 | exact at3 | exact at4 | exact at5 | exact at6 | exact at7 | exact at8 | exact at9) rfl ?_
  rintro w H
  refine op_nil (at_then ?_)
  refine W_seq ?_
  refine W_rseq ?_
  refine op_move rfl (.int _ _) rfl ?_
  refine op_eql rfl rfl rfl ?_
  refine op_nil (at_then ?_)
  have E1 : Fr w0 Z (TM F ba bt bp []) w bt bd bp ba fr bc ⟨A, P, [], []⟩ F [(bc, Bl TC [ptr bt, .slice none 0 0, .slice none 0 0])] [(b11, NBl false none 0 0), (b10, Bl 133 [ptr bc]), (b9, Bl 31 [.int .i64 0])] := Fr.born T hZ (H.perm (List.perm_middle (l₁ := [_, _]) (l₂ := [_]))) ⟨none, 0, [], none, 0, [], rfl, OS.nil, OS.nil⟩
  replace H := E1.O.ctx
  have hb : ed.2.1.tk.length ≤ 36 ∧ ed.2.1.gn.length ≤ 36 ∧ Few ed.2.1.A (mx + 36) := by
    rw [hed]
    split
    · exact ⟨Nat.zero_le _, Nat.zero_le _, hfew.mono (by omega)⟩
    · obtain ⟨x1, x2, x3⟩ := editC_bnd (fr := fr) (G := G) (key := key) (m := mx) (n := 18) (c := ⟨A, P, [], []⟩) (p := root.toNat) (d := 0)
      exact ⟨by simpa using x1, by simpa using x2, x3 hfew⟩
  refine W_joinK 17179345152 (α := US) (fun _ => []) (fun s w' => Fr w0 Z (TM F ba bt bp []) w' bt bd bp ba fr bc s.ch s.F s.L [(b11, NBl s.i s.a s.n s.c), (b10, Bl 133 [ptr bc]), (b9, Bl 31 [.int .i64 0])] ∧ Its w' (MY (MZ (TM s.F ba bt bp s.L) Z) [(b11, NBl s.i s.a s.n s.c), (b10, Bl 133 [ptr bc]), (b9, Bl 31 [.int .i64 0])]) s.a s.n s.c s.M ∧ ed = (0, s.ch, s.i, s.M)) rfl ?_ ?_
  · skip
    refine W_cond _ rfl ?_ ?_
    · intro hA
      replace hA := dec_t hA
      rw [if_pos hA] at hed
      refine W_region ?_
      refine op_move rfl (.func _ _ _) rfl ?_
      refine op_calld rfl rfl hf (D _ _ E1.GA E1.mylt none 0 0 [] Its.nil (by omega)) rfl ?_
      rintro v w4 ⟨a4, c4, rfl, I4, hx4⟩
      obtain ⟨E4, -⟩ := E1.call0 hx4
      replace H := E4.O.ctx
      refine op_fieldAddr rfl fo_116_1_TrW rfl ?_
      refine op_stb (.slice _ _ _) rfl sz_114_TrW rfl rfl rfl H (by first | exact at0 | exact at1 | exact at2 | exact at3 | exact at4 | exact at5 | exact at6 | exact at7 | exact at8 | exact at9) (by first | decide | (simp; done) | (simp; omega)) ?_
      rintro w H
      refine op_nil (at_then ?_)
      obtain ⟨E5, g5⟩ := E4.own H
      exact ⟨⟨false, a4, (G []).length, c4, G [], ⟨A, P, [], []⟩, F, _⟩, rfl, trivial, E5, I4.turn g5, hed⟩
    · intro hA
      replace hA := dec_f hA
      obtain ⟨p, rfl⟩ : ∃ p : Nat, root = (p : Int) := ⟨root.toNat, by omega⟩
      rw [if_neg hA, Int.toNat_natCast] at hed
      have hed' : ed = editC fr G key (17 + 1) ⟨A, P, [], []⟩ p 0 := hed
      have hok5 : ed.1 ≠ 99 := fun h => hok (by rw [htc, if_pos (by rw [h]; decide)]; exact h)
      refine W_rseq ?_
      refine op_ldb rfl ag_133_TrW rfl H (by first | exact at0 | exact at1 | exact at2 | exact at3 | exact at4 | exact at5 | exact at6 | exact at7 | exact at8 | exact at9) rfl ?_
      refine op_move rfl (.int _ _) rfl ?_
      refine op_move rfl (.slice _ _ _) rfl ?_
      refine op_move rfl (.func _ _ _) rfl ?_
      refine op_call rfl ca_131_TrW (edit7_ok hf hfr hkl 17 E1.X (by simp) (by simp) p 0 (by omega) (by omega) (MY Z _) E1.zlt (D.keep (E1.GA.weak MYZ)) ka kc ((Rk.turn E1.GA).weak MYZ) mx hfew (by omega) (by rw [← hed']; exact hok5)) rfl ?_
      rintro v w5 ⟨kin, k5, n5, c5, F5, L5, rfl, X5, g5, hk5⟩
      rw [← hed'] at X5 hk5
      rw [← hed']
      obtain ⟨E5, gg5⟩ := E1.call X5 g5
      replace H := E5.O.ctx
      refine op_move rfl (.tuple _) rfl ?_
      refine op_extract rfl rfl rfl ?_
      refine op_extract rfl rfl rfl ?_
      refine op_stb0 rfl sz_116_TrW rfl rfl rfl (by simp [oneCell]) H (by first | exact at0 | exact at1 | exact at2 | exact at3 | exact at4 | exact at5 | exact at6 | exact at7 | exact at8 | exact at9) rfl ?_
      rintro w H
      refine op_stb (.int _ _) rfl sz_31_TrW rfl rfl rfl H (by first | exact at0 | exact at1 | exact at2 | exact at3 | exact at4 | exact at5 | exact at6 | exact at7 | exact at8 | exact at9) (by first | decide | (simp; done) | (simp; omega)) ?_
      rintro w H
      refine op_nil (at_then ?_)
      refine W_rseq ?_
      refine op_ldb rfl ag_31_TrW rfl H (by first | exact at0 | exact at1 | exact at2 | exact at3 | exact at4 | exact at5 | exact at6 | exact at7 | exact at8 | exact at9) rfl ?_
      refine op_neq rfl rfl rfl ?_
      refine op_nil (at_then ?_)
      refine W_cond _ rfl ?_ ?_
      · intro hB
        replace hB := ndec_t hB
        rw [if_pos hB] at htc
        refine W_tseq 3 mixed (by kernel_rfl) (by kernel_rfl) rfl rfl ?_
        refine q_move rfl (.int _ _) rfl ?_
        refine q_ldb rfl ag_31_TrW rfl (by rintro _ rfl; exact H.drew) (by first | exact at0 | exact at1 | exact at2 | exact at3 | exact at4 | exact at5 | exact at6 | exact at7 | exact at8 | exact at9) rfl ?_
        refine q_assign rfl (.int _ _) rfl ?_
        refine q_nil ?_
        replace H := H.drew
        refine op_stb (.int _ _) rfl sz_31_TrW rfl rfl rfl H (by first | exact at0 | exact at1 | exact at2 | exact at3 | exact at4 | exact at5 | exact at6 | exact at7 | exact at8 | exact at9) (by first | decide | (simp; done) | (simp; omega)) ?_
        rintro w H
        refine op_nil (at_then ?_)
        refine W_ret (ret_then ?_)
        obtain ⟨E6, -⟩ := E5.own H
        refine leaveD rfl ca_130_TrW _ (turn1_ok E6.X (H.get at1) (H.get at2) (by omega) (by omega)) (fun w7 hK tmps ht => ?_)
        exact ⟨_, res2c rfl ht rfl rfl ag_31_TrW ((E6.O.call (hK.2.or Z)).1.blk (b9, _) (List.mem_of_getElem? (i := 2) rfl)), F5, by rw [htc]; rfl, by rw [htc]; exact hK.1.T.none, (E6.GT.trans hK.2).weak TM.none⟩
      · intro hB
        replace hB := ndec_f hB
        have hB' : ed.1 = 0 := by simpa using hB
        rw [hB'] at H
        obtain ⟨rfl, K5⟩ := hk5 hB'
        refine W_skip (at_then ?_)
        obtain ⟨E6, g6⟩ := E5.own H
        exact ⟨⟨ed.2.2.1, k5, n5, c5, ed.2.2.2, ed.2.1, F5, L5⟩, rfl, trivial, E6, (K5.weak MYZ').turn g6, Prod.ext hB' rfl⟩
  · rintro ⟨si, sa, sn, scc, sM, sch, sF, sL⟩ j18 w ⟨E8, I8, hed8⟩; dsimp only at E8 I8 hed8
    rw [hed8] at htc hb
    dsimp only at htc hb
    rw [if_neg (by simp)] at htc
    obtain ⟨q, hq⟩ : ∃ q, q = topC fr sch si sM := ⟨_, rfl⟩
    rw [← hq] at htc
    have hokq : q.1 ≠ 99 := fun h => hok (by rw [htc, if_pos (by rw [h]; decide)]; exact h)
    obtain ⟨tb1, tb2⟩ := topC_bnd (fr := fr) (c := sch) (i := si) (M := sM)
    rw [← hq] at tb1 tb2
    have H := E8.O.ctx
    refine W_rseq ?_
    refine op_ldb rfl ag_133_TrW rfl H (by first | exact at0 | exact at1 | exact at2 | exact at3 | exact at4 | exact at5 | exact at6 | exact at7 | exact at8 | exact at9) rfl ?_
    refine op_ldbN rfl ag_116_TrW sz_116_TrW rfl H (by first | exact at0 | exact at1 | exact at2 | exact at3 | exact at4 | exact at5 | exact at6 | exact at7 | exact at8 | exact at9) rfl ?_
    refine op_call rfl ca_132_TrW (top7_ok E8.X hfr (by omega) si (MY Z _) E8.zlt (I8.weak MYZ) hb.2.2 (by omega) (by rw [← hq]; exact hokq)) rfl ?_
    rintro v w9 ⟨tp, F9, L9, rfl, X9, g9, hp9⟩
    rw [← hq] at X9 hp9
    rw [← hq]
    obtain ⟨E9, gg9⟩ := E8.call X9 g9
    replace H := E9.O.ctx
    refine op_move rfl (.tuple _) rfl ?_
    refine op_extract rfl rfl rfl ?_
    refine op_extract rfl rfl rfl ?_
    refine op_assign rfl (.int _ _) rfl ?_
    refine op_stb (.int _ _) rfl sz_31_TrW rfl rfl rfl H (by first | exact at0 | exact at1 | exact at2 | exact at3 | exact at4 | exact at5 | exact at6 | exact at7 | exact at8 | exact at9) (by first | decide | (simp; done) | (simp; omega)) ?_
    rintro w H
    refine op_nil (at_then ?_)
    refine W_seq ?_
    refine W_rseq ?_
    refine op_ldb rfl ag_31_TrW rfl H (by first | exact at0 | exact at1 | exact at2 | exact at3 | exact at4 | exact at5 | exact at6 | exact at7 | exact at8 | exact at9) rfl ?_
    refine op_neq rfl rfl rfl ?_
    refine op_nil (at_then ?_)
    refine W_cond _ rfl ?_ ?_
    · intro hC
      replace hC := ndec_t hC
      rw [if_pos hC] at htc
      refine W_tseq 3 mixed (by kernel_rfl) (by kernel_rfl) rfl rfl ?_
      refine q_move rfl (.int _ _) rfl ?_
      refine q_ldb rfl ag_31_TrW rfl (by rintro _ rfl; exact H.drew) (by first | exact at0 | exact at1 | exact at2 | exact at3 | exact at4 | exact at5 | exact at6 | exact at7 | exact at8 | exact at9) rfl ?_
      refine q_assign rfl (.int _ _) rfl ?_
      refine q_nil ?_
      replace H := H.drew
      refine op_stb (.int _ _) rfl sz_31_TrW rfl rfl rfl H (by first | exact at0 | exact at1 | exact at2 | exact at3 | exact at4 | exact at5 | exact at6 | exact at7 | exact at8 | exact at9) (by first | decide | (simp; done) | (simp; omega)) ?_
      rintro w H
      refine op_nil (at_then ?_)
      refine W_ret (ret_then ?_)
      obtain ⟨E10, -⟩ := E9.own H
      refine leaveD rfl ca_130_TrW _ (turn1_ok E10.X (H.get at1) (H.get at2) (by omega) (by rw [tb2]; omega)) (fun w7 hK tmps ht => ?_)
      exact ⟨_, res2c rfl ht rfl rfl ag_31_TrW ((E10.O.call (hK.2.or Z)).1.blk (b9, _) (List.mem_of_getElem? (i := 2) rfl)), F9, by rw [htc]; rfl, by rw [htc]; exact hK.1.T.none, (E10.GT.trans hK.2).weak TM.none⟩
    · intro hC
      replace hC := ndec_f hC
      rw [if_neg (by simpa using hC)] at htc
      have hC' : q.1 = 0 := by simpa using hC
      have hp9' := hp9 hC'
      refine W_skip (at_then ?_)
      refine W_rseq ?_
      refine op_move rfl (.int _ _) rfl ?_
      refine op_assign rfl (.int _ _) rfl ?_
      refine op_stb (.int _ _) rfl sz_31_TrW rfl rfl rfl H (by first | exact at0 | exact at1 | exact at2 | exact at3 | exact at4 | exact at5 | exact at6 | exact at7 | exact at8 | exact at9) (by first | decide | (simp; done) | (simp; omega)) ?_
      rintro w H
      refine op_nil (at_then ?_)
      refine W_ret ?_
      obtain ⟨E10, -⟩ := E9.own H
      refine leaveD rfl ca_130_TrW _ (turn1_ok E10.X (H.get at1) (H.get at2) (by omega) (by rw [tb2]; omega)) (fun w7 hK tmps ht => ?_)
      exact ⟨_, res2c rfl ht rfl rfl ag_31_TrW ((E10.O.call (hK.2.or Z)).1.blk (b9, _) (List.mem_of_getElem? (i := 2) rfl)), F9, by rw [htc]; show Value.tuple #[.int .i64 tp, .int .i64 0] = .tuple #[.int .i64 q.2.2, .int .i64 0]; rw [hp9'], by rw [htc]; exact hK.1.T.none, (E10.GT.trans hK.2).weak TM.none⟩

end Go.Proofs.YtbkadlngijkmmaaGreatDoor

/- A pair is put, or cut: what is done to a leaf: the walks. -/
namespace Go.Proofs.YtbkadlngijkmmaaGreatDoor
open Go.GV
theorem ca_68_TrX : callable Tryz.prog 68 = true := by kernel_rfl
theorem ca_74_TrX : callable Tryz.prog 74 = true := by kernel_rfl
theorem el_114_TrX : elemT Tryz.prog 114 = some 120 := by kernel_rfl
theorem el_196_TrX : elemT Tryz.prog 196 = some 114 := by kernel_rfl
theorem pl_120_TrX : placesB Tryz.prog 120 = some [(0, 1), (1, 1), (2, 1)] := by kernel_rfl
theorem sz_114_TrX : tsize Tryz.prog 114 = some 1 := by kernel_rfl
theorem sz_120_TrX : tsize Tryz.prog 120 = some 3 := by kernel_rfl
theorem zc_114_TrX : zcells Tryz.prog 114 = some ([.slice none 0 0]) := by kernel_rfl
theorem zc_120_TrX : zcells Tryz.prog 120 = some ([.slice none 0 0, .slice none 0 0, .int .i64 0]) := by kernel_rfl
attribute [local irreducible] Wops W Wq Wt

theorem ins_parts {w : World} {M : Mut} {a : Option Addr} {n c k m b : Nat} {l q : List It} (I : Its w M a n c l) (Q : Its w M (some ⟨b, 0, none⟩) 1 1 q) (hk : k ≤ n) (hm : m ≤ n) (h1 : (l.take k).length = k) (h2 : (l.drop m).length = n - m) :
    ∀ x ∈ ([(a, l.take k, c), (some ⟨b, 0, none⟩, q, 1), (cutA a c m 3, l.drop m, c - m)] : List SI), Its w M x.1 x.2.1.length x.2.2 x.2.1 := by
  intro x hx
  simp only [List.mem_cons, List.not_mem_nil, or_false] at hx
  rcases hx with rfl | rfl | rfl
  · show Its w M a (l.take k).length c (l.take k)
    rw [h1]; exact I.take hk
  · show Its w M _ q.length _ q
    rw [← Q.num]; exact Q
  · show Its w M _ (l.drop m).length _ (l.drop m)
    rw [h2]; exact I.drop hm
theorem del_parts {w : World} {M : Mut} {a : Option Addr} {n c k m : Nat} {l : List It} (I : Its w M a n c l) (hk : k ≤ n) (hm : m ≤ n) (h1 : (l.take k).length = k) (h2 : (l.drop m).length = n - m) :
    ∀ x ∈ ([(a, l.take k, c), (cutA a c m 3, l.drop m, c - m)] : List SI), Its w M x.1 x.2.1.length x.2.2 x.2.1 := by
  intro x hx
  simp only [List.mem_cons, List.not_mem_nil, or_false] at hx
  rcases hx with rfl | rfl
  · show Its w M a (l.take k).length c (l.take k)
    rw [h1]; exact I.take hk
  · show Its w M _ (l.drop m).length _ (l.drop m)
    rw [h2]; exact I.drop hm
theorem its_one {w0 w : World} {M : Mut} (hM : ∀ x, M x → x < w0.heap.size) {b t : Nat} {ka va : Option Addr} {kc vc : Nat} {key val : Byt} (hb : w.heap[b]? = some (Bl t [.slice ka key.length kc, .slice va val.length vc, .int .i64 0])) (hn : w0.heap.size ≤ b)
    (Rk : Rdx w M ka key) (Rv : Rdx w M va val) (hkc : key.length ≤ kc) (hvc : val.length ≤ vc) : Its w M (some ⟨b, 0, none⟩) 1 1 [⟨key, val, 0⟩] := by
  refine ⟨⟨[⟨ka, kc, va, vc, ⟨key, val, 0⟩⟩], Rd.of_bl (r := []) hb rfl (fun _ _ => rfl), .inr fun h => ?_, rfl, fun m hm => ?_⟩, rfl, Nat.le_refl _⟩
  · have := hM _ h; dsimp only [adr] at this; omega
  · rw [List.mem_singleton.1 hm]; exact ⟨Rk, Rv, hkc, hvc⟩

set_option maxRecDepth 20000 in
set_option maxHeartbeats 8000000 in
theorem put1_ok7 {w : World} {M : Mut} (hM : ∀ x, M x → x < w.heap.size) {b6 b7 t6 t7 : Nat} {ka va : Option Addr} {kc vc : Nat} {key val : Byt} {l6 l7 : List Value} (h6 : w.heap[b6]? = some (Bl t6 (.slice ka key.length kc :: l6))) (h7 : w.heap[b7]? = some (Bl t7 (.slice va val.length vc :: l7)))
    (Rk : Rdx w M ka key) (Rv : Rdx w M va val) (hkc : key.length ≤ kc) (hvc : val.length ≤ vc) {a : Option Addr} {n c : Nat} {l : List It} (I : Its w M a n c l) (hn : n ≤ 100000) :
    Ret Tryz.prog 73 #[.slice a n c, ptr b6, ptr b7] w fun v w' => ∃ a' c', v = .slice a' (insI key val l).length c' ∧ Its w' M a' (insI key val l).length c' (insI key val l) ∧ Ext [] w w' := by
  obtain ⟨w0, rfl⟩ : ∃ w0, w0 = w := ⟨_, rfl⟩
  have hnum := I.num
  have hcap := I.le
  have hpl := placeN_le l key
  obtain ⟨k, hk⟩ : ∃ k, k = placeN l key := ⟨_, rfl⟩
  obtain ⟨kb, hkb⟩ : ∃ kb, kb = placeB l key := ⟨_, rfl⟩
  have k6 : ∀ {z : World}, Ext [] w0 z → z.heap[b6]? = some (Bl t6 (.slice ka key.length kc :: l6)) := fun {z} h => by rw [h.block b6 (heap_lt h6) (by simp)]; exact h6
  have k7 : ∀ {z : World}, Ext [] w0 z → z.heap[b7]? = some (Bl t7 (.slice va val.length vc :: l7)) := fun {z} h => by rw [h.block b7 (heap_lt h7) (by simp)]; exact h7
  have hins : insI key val l = if kb = true then l.take k ++ ([⟨key, val, 0⟩] ++ l.drop (k + 1)) else l.take k ++ ([⟨key, val, 0⟩] ++ l.drop k) := by unfold insI; rw [hkb, hk]
  obtain ⟨il, hil⟩ : ∃ il, il = insI key val l := ⟨_, rfl⟩
  rw [← hil] at hins ⊢
  have H := Ctx.start w0 []
  refine ret_of_W (fn := Tryz.f73) Tryz.func73 rfl [.slice a n c, .pointer (some ⟨b6, 0, none⟩), .pointer (some ⟨b7, 0, none⟩)] rfl (by kernel_rfl) ?_
  refine W_rseq ?_
  refine op_assign rfl (.slice _ _ _) rfl ?_
  refine op_nil (at_then ?_)
  refine W_rseq ?_
  refine op_move rfl (.slice _ _ _) rfl ?_
  first | refine op_ldb rfl ag_23 rfl H (by first | exact at0 | exact at1 | exact at2 | exact at3 | exact at4 | exact at5 | exact at6 | exact at7 | exact at8 | exact at9) rfl ?_ | refine op_ld rfl ag_23 rfl ((by rw [cell_bl h6]; rfl)) ?_
  refine op_call rfl ca_68_TrX (place_ok I ka kc _ key Rk.1 rfl (by omega)) rfl ?_
  rintro v w1 ⟨rfl, hx1⟩
  rw [← hk, ← hkb]
  have H := Ctx.start w1 []
  refine op_move rfl (.tuple _) rfl ?_
  refine op_extract rfl rfl rfl ?_
  refine op_extract rfl rfl rfl ?_
  refine op_assign rfl (.int _ _) rfl ?_
  refine op_assign rfl (.bool _) rfl ?_
  refine op_nil (at_then ?_)
  refine W_seq ?_
  refine W_rseq ?_
  refine op_move rfl (.bool _) rfl ?_
  refine op_nil (at_then ?_)
  refine W_cond _ rfl ?_ ?_
  · intro hA
    have hlt : k < n := by
      rw [hkb] at hA
      obtain ⟨x, hx, -⟩ := placeB_get hA
      have := (List.getElem?_eq_some_iff.1 hx).1
      omega
    rw [if_pos hA] at hins
    refine W_sseqz [([0, 1, 2, 3, 4, 5, 7, 8, 9, 10], 6), ([], 11), ([], 12), ([], 13)] (fun z => Ext [] w1 z) [] mixed (by kernel_rfl) (Ext.drew [] w1) ?_
    refine seg_cons rfl rfl ?_
    refine t_move rfl (.slice _ _ _) rfl ?_
    refine t_move rfl (.int _ _) rfl ?_
    refine t_slice_hi rfl el_114_TrX sz_120_TrX rfl rfl (by omega) (by omega) ?_
    first | refine t_ldb rfl ag_23 rfl (fun _ _ => Ctx.start _ []) (by first | exact at0 | exact at1 | exact at2 | exact at3 | exact at4 | exact at5 | exact at6 | exact at7 | exact at8 | exact at9) rfl ?_ | refine t_ld rfl ag_23 rfl (fun _ hx => (by rw [cell_bl (k6 (hx1.trans hx))]; rfl)) ?_ | refine t_ld rfl ag_23 rfl (fun _ hx => (by rw [cell_bl (k7 (hx1.trans hx))]; rfl)) ?_
    first | refine t_ldb rfl ag_23 rfl (fun _ _ => Ctx.start _ []) (by first | exact at0 | exact at1 | exact at2 | exact at3 | exact at4 | exact at5 | exact at6 | exact at7 | exact at8 | exact at9) rfl ?_ | refine t_ld rfl ag_23 rfl (fun _ hx => (by rw [cell_bl (k6 (hx1.trans hx))]; rfl)) ?_ | refine t_ld rfl ag_23 rfl (fun _ hx => (by rw [cell_bl (k7 (hx1.trans hx))]; rfl)) ?_
    refine t_buildS [.slice ka key.length kc, .slice va val.length vc, .int .i64 0] rfl pl_120_TrX zc_120_TrX (by kernel_rfl) ?_
    refine t_move rfl (.slice _ _ _) rfl ?_
    refine t_move rfl (.int _ _) rfl ?_
    refine t_add_i64 rfl rfl rfl (by omega) (by omega) ?_
    refine t_slice_lo rfl el_114_TrX sz_120_TrX rfl rfl (by omega) (by omega) ?_
    refine t_nil ?_
    replace H := H.drew
    refine op_build1 [.slice ka key.length kc, .slice va val.length vc, .int .i64 0] (.agg _) rfl el_114_TrX sz_120_TrX zc_120_TrX rfl (by decide) (by decide) rfl rfl rfl H ?_
    rintro b20 w2 hb20 H
    refine op_nil (at_seg (H.ext) ?_)
    refine seg_cons rfl rfl ?_
    refine t_nil ?_
    refine op_buildL [.slice a k c, .slice (some ⟨b20, 0, none⟩) 1 1, .slice (cutA a c (k + 1) 3) (n - (k + 1)) (c - (k + 1))] rfl el_196_TrX sz_114_TrX zc_114_TrX (by decide) (by decide) (by kernel_rfl) H ?_
    rintro b25 w3 - H
    refine op_nil (at_seg (H.ext) ?_)
    refine seg_cons rfl rfl ?_
    refine t_nil ?_
    have hx3 := hx1.trans H.ext
    have I3 := I.call hx3
    have hlt9 : (l.take k).length = k := (by rw [List.length_take]; omega)
    have hld9 : (l.drop (k + 1)).length = n - (k + 1) := (by rw [List.length_drop]; omega)
    have Q3 := its_one hM (H.get at1) ((H.own _ (List.mem_cons_of_mem _ (List.mem_cons_self ..))).elim (fun h => by cases h) fun h => Nat.le_trans hx1.size h) (Rk.call hx3) (Rv.call hx3) hkc hvc
    have RR : Rd w3 (some ⟨b25, 0, none⟩) 1 encT [(a, l.take k, c), (some ⟨b20, 0, none⟩, [⟨key, val, 0⟩], 1), (cutA a c (k + 1) 3, l.drop (k + 1), c - (k + 1))] := Rd.of_bl (r := []) (H.get at0) (by simp [encT, hlt9, hld9]) (fun _ _ => rfl)
    have CC := concatI_ok (M := M) (n := 3) (c := 3) (fun x h => Nat.lt_of_lt_of_le (hM x h) hx3.size) _ RR (ins_parts I3 Q3 (by omega) (by omega) hlt9 hld9) rfl (by omega) (by simp only [List.map_cons, List.map_nil, List.sum_cons, List.sum_nil, List.length_singleton]; omega)
    rw [show ([(a, l.take k, c), (some ⟨b20, 0, none⟩, [⟨key, val, 0⟩], 1), (cutA a c (k + 1) 3, l.drop (k + 1), c - (k + 1))] : List SI).flatMap (fun x => x.2.1) = il by rw [hins]; simp] at CC
    refine op_call rfl ca_74_TrX CC rfl ?_
    rintro v w4 ⟨a4, c4, rfl, J4, hx4⟩
    have hx14 := H.ext.trans hx4
    refine op_nil (at_seg (hx14) ?_)
    refine seg_cons rfl rfl ?_
    refine t_nil ?_
    refine op_assign rfl (.slice _ _ _) rfl ?_
    refine op_nil (at_seg (hx14) ?_)
    refine seg_nil ?_
    refine W_ret (ret_then (leave1 (v := (.slice _ _ _)) rfl rfl rfl ?_))
    exact ⟨a4, c4, rfl, J4, hx1.trans hx14⟩
  · intro hA
    rw [if_neg (by rw [hA]; simp)] at hins
    refine W_skip (at_then ?_)
    refine W_sseqz [([0, 1, 2, 3, 4, 5, 7, 8, 9], 6), ([], 10), ([], 11), ([], 12)] (fun z => Ext [] w1 z) [] mixed (by kernel_rfl) (Ext.drew [] w1) ?_
    refine seg_cons rfl rfl ?_
    refine t_move rfl (.slice _ _ _) rfl ?_
    refine t_move rfl (.int _ _) rfl ?_
    refine t_slice_hi rfl el_114_TrX sz_120_TrX rfl rfl (by omega) (by omega) ?_
    first | refine t_ldb rfl ag_23 rfl (fun _ _ => Ctx.start _ []) (by first | exact at0 | exact at1 | exact at2 | exact at3 | exact at4 | exact at5 | exact at6 | exact at7 | exact at8 | exact at9) rfl ?_ | refine t_ld rfl ag_23 rfl (fun _ hx => (by rw [cell_bl (k6 (hx1.trans hx))]; rfl)) ?_ | refine t_ld rfl ag_23 rfl (fun _ hx => (by rw [cell_bl (k7 (hx1.trans hx))]; rfl)) ?_
    first | refine t_ldb rfl ag_23 rfl (fun _ _ => Ctx.start _ []) (by first | exact at0 | exact at1 | exact at2 | exact at3 | exact at4 | exact at5 | exact at6 | exact at7 | exact at8 | exact at9) rfl ?_ | refine t_ld rfl ag_23 rfl (fun _ hx => (by rw [cell_bl (k6 (hx1.trans hx))]; rfl)) ?_ | refine t_ld rfl ag_23 rfl (fun _ hx => (by rw [cell_bl (k7 (hx1.trans hx))]; rfl)) ?_
    refine t_buildS [.slice ka key.length kc, .slice va val.length vc, .int .i64 0] rfl pl_120_TrX zc_120_TrX (by kernel_rfl) ?_
    refine t_move rfl (.slice _ _ _) rfl ?_
    refine t_move rfl (.int _ _) rfl ?_
    refine t_slice_lo rfl el_114_TrX sz_120_TrX rfl rfl (by omega) (by omega) ?_
    refine t_nil ?_
    replace H := H.drew
    refine op_build1 [.slice ka key.length kc, .slice va val.length vc, .int .i64 0] (.agg _) rfl el_114_TrX sz_120_TrX zc_120_TrX rfl (by decide) (by decide) rfl rfl rfl H ?_
    rintro b20 w2 hb20 H
    refine op_nil (at_seg (H.ext) ?_)
    refine seg_cons rfl rfl ?_
    refine t_nil ?_
    refine op_buildL [.slice a k c, .slice (some ⟨b20, 0, none⟩) 1 1, .slice (cutA a c k 3) (n - k) (c - k)] rfl el_196_TrX sz_114_TrX zc_114_TrX (by decide) (by decide) (by kernel_rfl) H ?_
    rintro b25 w3 - H
    refine op_nil (at_seg (H.ext) ?_)
    refine seg_cons rfl rfl ?_
    refine t_nil ?_
    have hx3 := hx1.trans H.ext
    have I3 := I.call hx3
    have hlt9 : (l.take k).length = k := (by rw [List.length_take]; omega)
    have hld9 : (l.drop k).length = n - k := (by rw [List.length_drop]; omega)
    have Q3 := its_one hM (H.get at1) ((H.own _ (List.mem_cons_of_mem _ (List.mem_cons_self ..))).elim (fun h => by cases h) fun h => Nat.le_trans hx1.size h) (Rk.call hx3) (Rv.call hx3) hkc hvc
    have RR : Rd w3 (some ⟨b25, 0, none⟩) 1 encT [(a, l.take k, c), (some ⟨b20, 0, none⟩, [⟨key, val, 0⟩], 1), (cutA a c k 3, l.drop k, c - k)] := Rd.of_bl (r := []) (H.get at0) (by simp [encT, hlt9, hld9]) (fun _ _ => rfl)
    have CC := concatI_ok (M := M) (n := 3) (c := 3) (fun x h => Nat.lt_of_lt_of_le (hM x h) hx3.size) _ RR (ins_parts I3 Q3 (by omega) (by omega) hlt9 hld9) rfl (by omega) (by simp only [List.map_cons, List.map_nil, List.sum_cons, List.sum_nil, List.length_singleton]; omega)
    rw [show ([(a, l.take k, c), (some ⟨b20, 0, none⟩, [⟨key, val, 0⟩], 1), (cutA a c k 3, l.drop k, c - k)] : List SI).flatMap (fun x => x.2.1) = il by rw [hins]; simp] at CC
    refine op_call rfl ca_74_TrX CC rfl ?_
    rintro v w4 ⟨a4, c4, rfl, J4, hx4⟩
    have hx14 := H.ext.trans hx4
    refine op_nil (at_seg (hx14) ?_)
    refine seg_cons rfl rfl ?_
    refine t_nil ?_
    refine op_assign rfl (.slice _ _ _) rfl ?_
    refine op_nil (at_seg (hx14) ?_)
    refine seg_nil ?_
    refine W_ret (leave1 (v := (.slice _ _ _)) rfl rfl rfl ?_)
    exact ⟨a4, c4, rfl, J4, hx1.trans hx14⟩

set_option maxRecDepth 20000 in
set_option maxHeartbeats 8000000 in
theorem cut1_ok7 {w : World} {M : Mut} (hM : ∀ x, M x → x < w.heap.size) {b5 t5 : Nat} {ka : Option Addr} {kc : Nat} {key : Byt} {l5 : List Value} (h5 : w.heap[b5]? = some (Bl t5 (.slice ka key.length kc :: l5)))
    (Rk : Rdx w M ka key) {a : Option Addr} {n c : Nat} {l : List It} (I : Its w M a n c l) (hn : n ≤ 100000) :
    Ret Tryz.prog 75 #[.slice a n c, ptr b5] w fun v w' => ∃ a' c', v = .slice a' (delI key l).length c' ∧ Its w' M a' (delI key l).length c' (delI key l) ∧ Ext [] w w' := by
  obtain ⟨w0, rfl⟩ : ∃ w0, w0 = w := ⟨_, rfl⟩
  have hnum := I.num
  have hcap := I.le
  have hpl := placeN_le l key
  obtain ⟨k, hk⟩ : ∃ k, k = placeN l key := ⟨_, rfl⟩
  obtain ⟨kb, hkb⟩ : ∃ kb, kb = placeB l key := ⟨_, rfl⟩
  have hins : delI key l = if kb = true then l.take k ++ l.drop (k + 1) else l := by unfold delI; rw [hkb, hk]
  obtain ⟨il, hil⟩ : ∃ il, il = delI key l := ⟨_, rfl⟩
  rw [← hil] at hins ⊢
  have H := Ctx.start w0 []
  refine ret_of_W (fn := Tryz.f75) Tryz.func75 rfl [.slice a n c, .pointer (some ⟨b5, 0, none⟩)] rfl (by kernel_rfl) ?_
  refine W_rseq ?_
  refine op_assign rfl (.slice _ _ _) rfl ?_
  refine op_nil (at_then ?_)
  refine W_rseq ?_
  refine op_move rfl (.slice _ _ _) rfl ?_
  first | refine op_ldb rfl ag_23 rfl H (by first | exact at0 | exact at1 | exact at2 | exact at3 | exact at4 | exact at5 | exact at6 | exact at7 | exact at8 | exact at9) rfl ?_ | refine op_ld rfl ag_23 rfl ((by rw [cell_bl h5]; rfl)) ?_
  refine op_call rfl ca_68_TrX (place_ok I ka kc _ key Rk.1 rfl (by omega)) rfl ?_
  rintro v w1 ⟨rfl, hx1⟩
  rw [← hk, ← hkb]
  have H := Ctx.start w1 []
  refine op_move rfl (.tuple _) rfl ?_
  refine op_extract rfl rfl rfl ?_
  refine op_extract rfl rfl rfl ?_
  refine op_assign rfl (.int _ _) rfl ?_
  refine op_assign rfl (.bool _) rfl ?_
  refine op_nil (at_then ?_)
  refine W_seq ?_
  refine W_rseq ?_
  refine op_move rfl (.bool _) rfl ?_
  refine op_not rfl rfl ?_
  refine op_nil (at_then ?_)
  refine W_cond _ rfl ?_ ?_
  · intro hA
    replace hA := nvar_t hA
    rw [if_neg (by rw [hA]; simp)] at hins
    refine W_rseq ?_
    refine op_move rfl (.slice _ _ _) rfl ?_
    refine op_assign rfl (.slice _ _ _) rfl ?_
    refine op_nil (at_then ?_)
    refine W_ret (ret_then (leave1 (v := (.slice _ _ _)) rfl rfl rfl ?_))
    rw [hins, ← hnum]
    exact ⟨a, c, rfl, I.call hx1, hx1⟩
  · intro hA
    replace hA := nvar_f hA
    have hlt : k < n := by
      rw [hkb] at hA
      obtain ⟨x, hx, -⟩ := placeB_get hA
      have := (List.getElem?_eq_some_iff.1 hx).1
      omega
    rw [if_pos hA] at hins
    refine W_skip (at_then ?_)
    refine W_sseqz [([0, 1, 2, 3, 4, 5, 6], 7), ([], 8), ([], 9)] (fun z => Ext [] w1 z) [] mixed (by kernel_rfl) (Ext.drew [] w1) ?_
    refine seg_cons rfl rfl ?_
    refine t_move rfl (.slice _ _ _) rfl ?_
    refine t_move rfl (.int _ _) rfl ?_
    refine t_slice_hi rfl el_114_TrX sz_120_TrX rfl rfl (by omega) (by omega) ?_
    refine t_move rfl (.slice _ _ _) rfl ?_
    refine t_move rfl (.int _ _) rfl ?_
    refine t_add_i64 rfl rfl rfl (by omega) (by omega) ?_
    refine t_slice_lo rfl el_114_TrX sz_120_TrX rfl rfl (by omega) (by omega) ?_
    refine t_nil ?_
    replace H := H.drew
    refine op_buildL [.slice a k c, .slice (cutA a c (k + 1) 3) (n - (k + 1)) (c - (k + 1))] rfl el_196_TrX sz_114_TrX zc_114_TrX (by decide) (by decide) (by kernel_rfl) H ?_
    rintro b25 w3 - H
    refine op_nil (at_seg (H.ext) ?_)
    refine seg_cons rfl rfl ?_
    refine t_nil ?_
    have hx3 := hx1.trans H.ext
    have I3 := I.call hx3
    have hlt9 : (l.take k).length = k := (by rw [List.length_take]; omega)
    have hld9 : (l.drop (k + 1)).length = n - (k + 1) := (by rw [List.length_drop]; omega)
    have RR : Rd w3 (some ⟨b25, 0, none⟩) 1 encT [(a, l.take k, c), (cutA a c (k + 1) 3, l.drop (k + 1), c - (k + 1))] := Rd.of_bl (r := []) (H.get at0) (by simp [encT, hlt9, hld9]) (fun _ _ => rfl)
    have CC := concatI_ok (M := M) (n := 2) (c := 2) (fun x h => Nat.lt_of_lt_of_le (hM x h) hx3.size) _ RR (del_parts I3 (by omega) (by omega) hlt9 hld9) rfl (by omega) (by simp only [List.map_cons, List.map_nil, List.sum_cons, List.sum_nil]; omega)
    rw [show ([(a, l.take k, c), (cutA a c (k + 1) 3, l.drop (k + 1), c - (k + 1))] : List SI).flatMap (fun x => x.2.1) = il by rw [hins]; simp] at CC
    refine op_call rfl ca_74_TrX CC rfl ?_
    rintro v w4 ⟨a4, c4, rfl, J4, hx4⟩
    have hx14 := H.ext.trans hx4
    refine op_nil (at_seg (hx14) ?_)
    refine seg_cons rfl rfl ?_
    refine t_nil ?_
    refine op_assign rfl (.slice _ _ _) rfl ?_
    refine op_nil (at_seg (hx14) ?_)
    refine seg_nil ?_
    refine W_ret (leave1 (v := (.slice _ _ _)) rfl rfl rfl ?_)
    exact ⟨a4, c4, rfl, J4, hx1.trans hx14⟩

end Go.Proofs.YtbkadlngijkmmaaGreatDoor
