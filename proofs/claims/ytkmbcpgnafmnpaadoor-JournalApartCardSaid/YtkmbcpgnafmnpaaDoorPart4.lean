/- Part 4 of the proof. -/
import Derived.Test.YtkmbcpgnafmnpaaDoorPart3
import Derived.Test.YtkmbcpgnafmnpaaDoorPart2
import Derived.Ground.GgzProg
import Derived.Ground.SlgmProg
/- The reference's device. -/
namespace Go.Proofs.YtkmbcpgnafmnpaaDoor
open Go.GV
attribute [local irreducible] Wops W Wq Wt

def TR : Nat := 96
def TB : Nat := 99
def RB (n bb cb : Nat) (left : Int) (on : Bool) : List Value := [.slice (some ⟨bb, 0, none⟩) n cb, .int .i64 left, .bool on]
@[simp] theorem RB_len (n bb cb : Nat) (left : Int) (on : Bool) : (RB n bb cb left on).length = 3 := rfl

def LooseS (w : World) (role : Nat → Nat) (k : Nat) (v : Value) (l : List Byt) : Prop :=
  ∃ a n c full, v = .slice a n c ∧ OS a n c 1 full (l.map str) ∧ ∀ x ∈ ent a 9 full, w.heap[x.1]? = some x.2 ∧ role x.1 = 5 + k

structure RefR (w : World) (rd : Nat) (A : Dev) (role : Nat → Nat) (bb cb : Nat) (full : List Value) : Prop where
  lt : ∀ x, role x ≠ 0 → x < w.heap.size
  rr : role rd = 1
  rb : role bb = 2
  hd : w.heap[rd]? = some (Bl TR (RB A.B.length bb cb A.left A.on))
  hb : w.heap[bb]? = some (Bl TB full)
  len : full.length = cb * 2
  cap : A.B.length ≤ cb
  part : ∀ i p, A.B[i]? = some p → full[2 * i]? = some (str p.1) ∧ ∃ v, full[2 * i + 1]? = some v ∧ LooseS w role i v p.2
  wf : Wf A

def RefAt (w : World) (rd : Nat) (A : Dev) (F : Nat → Prop) : Prop := ∃ role bb cb full, RefR w rd A role bb cb full ∧ ∀ x, role x ≠ 0 → F x

theorem LooseS.keep {w w' : World} {role role' : Nat → Nat} {k : Nat} {v : Value} {l : List Byt} {S : List Nat} (h : LooseS w role k v l) (hx : Ext S w w') (hS : ∀ x ∈ S, role x ≠ 5 + k) (hr5 : ∀ x, role x = 5 + k → role' x = 5 + k) : LooseS w' role' k v l := by
  obtain ⟨a, n, c, full, rfl, O, hb⟩ := h
  refine ⟨a, n, c, full, rfl, O, fun x hx' => ?_⟩
  obtain ⟨h6, h7⟩ := hb x hx'
  exact ⟨by rw [hx.block x.1 (heap_lt h6) fun h => hS _ h h7]; exact h6, hr5 _ h7⟩

theorem RefAt.keep {w w' : World} {rd : Nat} {A : Dev} {F : Nat → Prop} (h : RefAt w rd A F) {S : List Nat} (hx : Ext S w w') (hS : ∀ x ∈ S, ¬ F x) : RefAt w' rd A F := by
  obtain ⟨role, bb, cb, full, D, hF⟩ := h
  have hS' : ∀ x ∈ S, role x = 0 := fun x hx => Classical.byContradiction fun h => hS x hx (hF x h)
  have hb : ∀ {b : Nat} {o : Obj}, w.heap[b]? = some o → role b ≠ 0 → w'.heap[b]? = some o := fun {b o} h1 h2 => by
    rw [hx.block b (heap_lt h1) fun h => h2 (hS' b h)]; exact h1
  refine ⟨role, bb, cb, full, ⟨fun x h => Nat.lt_of_lt_of_le (D.lt x h) hx.size, D.rr, D.rb, hb D.hd (by rw [D.rr]; decide), hb D.hb (by rw [D.rb]; decide), D.len, D.cap, fun i p hp => ?_, D.wf⟩, hF⟩
  obtain ⟨h1, v, h2, h3⟩ := D.part i p hp
  exact ⟨h1, v, h2, h3.keep hx (fun x h => by rw [hS' x h]; omega) fun _ h => h⟩
theorem RefAt.keep0 {w w' : World} {rd : Nat} {A : Dev} {F : Nat → Prop} (h : RefAt w rd A F) (hx : Ext [] w w') : RefAt w' rd A F := h.keep hx (by simp)
theorem RefAt.mono {w : World} {rd : Nat} {A : Dev} {F G : Nat → Prop} (h : RefAt w rd A F) (hG : ∀ x, F x → G x) : RefAt w rd A G :=
  let ⟨role, bb, cb, full, D, hF⟩ := h; ⟨role, bb, cb, full, D, fun x hx => hG x (hF x hx)⟩
theorem RefAt.wf {w : World} {rd : Nat} {A : Dev} {F : Nat → Prop} (h : RefAt w rd A F) : Wf A := let ⟨_, _, _, _, D, _⟩ := h; D.wf

theorem RefR.turn {w w' : World} {rd : Nat} {A A' : Dev} {role : Nat → Nat} {bb cb : Nat} {full : List Value} (D : RefR w rd A role bb cb full) (hx : Ext [rd] w w')
    (hd : w'.heap[rd]? = some (Bl TR (RB A'.B.length bb cb A'.left A'.on))) (hB : A'.B = A.B) (wf : Wf A') : RefR w' rd A' role bb cb full := by
  have hs : ∀ x ∈ [rd], role x = 1 := fun x h => by rw [List.mem_singleton.1 h]; exact D.rr
  refine ⟨fun x h => Nat.lt_of_lt_of_le (D.lt x h) hx.size, D.rr, D.rb, hd, ?_, D.len, by rw [hB]; exact D.cap, fun i p hp => ?_, wf⟩
  · rw [hx.block bb (heap_lt D.hb) fun h => by have := hs _ h; rw [D.rb] at this; omega]; exact D.hb
  · rw [hB] at hp
    obtain ⟨h1, v, h2, h3⟩ := D.part i p hp
    exact ⟨h1, v, h2, h3.keep hx (fun x h => by rw [hs x h]; omega) fun _ h => h⟩

/-- A block's new state: what is sure and what is loose of it. -/
theorem RefR.put {w w' : World} {rd : Nat} {A : Dev} {role role' : Nat → Nat} {bb cb : Nat} {full : List Value} (D : RefR w rd A role bb cb full) {k : Nat} {p : Byt × List Byt} {S : List Nat} {full' : List Value} {v : Value} (hk : k < A.B.length)
    (hx : Ext S w w') (hS : ∀ x ∈ S, role x = 2 ∨ role x = 5 + k) (hb' : w'.heap[bb]? = some (Bl TB full')) (hlen : full'.length = full.length) (h0 : full'[2 * k]? = some (str p.1)) (h1 : full'[2 * k + 1]? = some v)
    (hrest : ∀ i, i ≠ 2 * k → i ≠ 2 * k + 1 → full'[i]? = full[i]?) (hv : LooseS w' role' k v p.2) (hold : ∀ x, role x ≠ 0 → role' x = role x) (hlt : ∀ x, role' x ≠ 0 → x < w'.heap.size)
    (wf : Wf { A with B := A.B.set k p }) : RefR w' rd { A with B := A.B.set k p } role' bb cb full' := by
  refine ⟨hlt, by rw [hold _ (by rw [D.rr]; decide), D.rr], by rw [hold _ (by rw [D.rb]; decide), D.rb], ?_, hb', by rw [hlen, D.len], by rw [List.length_set]; exact D.cap, fun i q hq => ?_, wf⟩
  · rw [hx.block rd (heap_lt D.hd) fun h => by have := hS _ h; rw [D.rr] at this; omega, List.length_set]; exact D.hd
  · have hq' : (A.B.set k p)[i]? = some q := hq
    rw [List.getElem?_set] at hq'
    by_cases hik : k = i
    · subst hik
      rw [if_pos rfl, if_pos hk] at hq'
      cases hq'
      exact ⟨h0, v, h1, hv⟩
    · rw [if_neg hik] at hq'
      obtain ⟨a1, u, a2, a3⟩ := D.part i q hq'
      refine ⟨by rw [hrest _ (by omega) (by omega)]; exact a1, u, by rw [hrest _ (by omega) (by omega)]; exact a2, a3.keep hx (fun x h => by have := hS x h; omega) fun x h => by rw [hold x (by omega), h]⟩

theorem rhas_ok {w : World} {rd n bb cb : Nat} {left : Int} {on : Bool} (k : Int) (h : w.heap[rd]? = some (Bl TR (RB n bb cb left on))) :
    Ret Tryd.prog 60 #[ptr rd, .int .i64 k] w fun v w' => v = .bool (decide (0 ≤ k) && decide (k < n)) ∧ w = w' := by
  obtain ⟨w0, rfl⟩ : ∃ w0, w0 = w := ⟨_, rfl⟩
  have H := Ctx.start1 h
  refine ret_of_W (fn := Tryd.f60) Tryd.func60 rfl [.pointer (some ⟨rd, 0, none⟩), .int .i64 k] rfl (by kernel_rfl) ?_
  refine W_rseq ?_
  refine op_assign rfl (.bool _) rfl ?_
  refine op_nil (at_then ?_)
  refine W_rseq ?_
  refine op_move rfl (.int _ _) rfl ?_
  refine op_geq rfl rfl rfl ?_
  refine op_move rfl (.bool _) rfl ?_
  refine Wops_split 7 rfl ?_ ?_
  · intro h1
    replace h1 := dec_t h1
    refine op_move rfl (.int _ _) rfl ?_
    refine op_move rfl (.pointer _) rfl ?_
    refine op_nilCheck rfl rfl ?_
    refine op_fieldAddr rfl fo_96_0 rfl ?_
    refine op_ldb rfl ag_94 rfl H (by first | exact at0 | exact at1 | exact at2 | exact at3 | exact at4 | exact at5 | exact at6 | exact at7 | exact at8 | exact at9) rfl ?_
    refine op_len rfl el_94 rfl ?_
    refine op_lss rfl rfl rfl ?_
    refine op_pick1 rfl rfl (.bool _) rfl ?_
    refine op_assign rfl (.bool _) rfl ?_
    refine op_nil (at_then ?_)
    refine W_ret (leave1 (v := (.bool _)) rfl rfl rfl ?_)
    exact ⟨congrArg Value.bool (by simp_all; try omega), rfl⟩
  · intro h2
    replace h2 := dec_f h2
    refine op_skip rfl ?_
    refine op_skip rfl ?_
    refine op_skip rfl ?_
    refine op_skip rfl ?_
    refine op_skip rfl ?_
    refine op_skip rfl ?_
    refine op_skip rfl ?_
    refine op_pick0 rfl rfl (.bool _) rfl ?_
    refine op_assign rfl (.bool _) rfl ?_
    refine op_nil (at_then ?_)
    refine W_ret (leave1 (v := (.bool _)) rfl rfl rfl ?_)
    exact ⟨congrArg Value.bool (by simp_all; try omega), rfl⟩

theorem rgoes_ok {w : World} {rd : Nat} {A : Dev} {role : Nat → Nat} {bb cb : Nat} {full : List Value} (D : RefR w rd A role bb cb full) :
    Ret Tryd.prog 61 #[ptr rd] w fun v w' => v = .bool A.goes ∧ RefR w' rd A.less role bb cb full ∧ Ext [rd] w w' := by
  obtain ⟨w0, rfl⟩ : ∃ w0, w0 = w := ⟨_, rfl⟩
  have H := Ctx.start1 D.hd
  have h1 := D.wf.left; have h2 := D.wf.left2
  refine ret_of_W (fn := Tryd.f61) Tryd.func61 rfl [.pointer (some ⟨rd, 0, none⟩)] rfl (by kernel_rfl) ?_
  refine W_rseq ?_
  refine op_assign rfl (.bool _) rfl ?_
  refine op_nil (at_then ?_)
  refine W_seq ?_
  refine W_rseq ?_
  refine op_move rfl (.pointer _) rfl ?_
  refine op_nilCheck rfl rfl ?_
  refine op_fieldAddr rfl fo_96_1 rfl ?_
  refine op_ldb rfl ag_3 rfl H (by first | exact at0 | exact at1 | exact at2 | exact at3 | exact at4 | exact at5 | exact at6 | exact at7 | exact at8 | exact at9) rfl ?_
  refine op_eql rfl rfl rfl ?_
  refine op_nil (at_then ?_)
  refine W_cond _ rfl ?_ ?_
  · intro h3
    replace h3 := dec_t h3
    have hl : A.less = ⟨A.B, A.left, false⟩ := by unfold Dev.less; rw [if_pos (by omega)]
    refine W_rseq ?_
    refine op_move rfl (.pointer _) rfl ?_
    refine op_nilCheck rfl rfl ?_
    refine op_fieldAddr rfl fo_96_2 rfl ?_
    refine op_stb (.bool _) rfl sz_4 rfl rfl rfl H (by first | exact at0 | exact at1 | exact at2 | exact at3 | exact at4 | exact at5 | exact at6 | exact at7 | exact at8 | exact at9) (by first | decide | (simp; done) | (simp; omega)) ?_
    rintro w H
    refine op_nil (at_then ?_)
    refine W_rseq ?_
    refine op_assign rfl (.bool _) rfl ?_
    refine op_nil (at_then ?_)
    refine W_ret (ret_then (leave1 (v := (.bool _)) rfl rfl rfl ?_))
    exact ⟨by rw [Dev.goes, decide_eq_true (by omega)], D.turn H.ext (by rw [hl]; exact H.get at0) (less_B A) (less_wf D.wf), H.ext⟩
  · intro h3
    replace h3 := dec_f h3
    refine W_skip (at_then ?_)
    refine W_seq ?_
    refine W_rseq ?_
    refine op_move rfl (.pointer _) rfl ?_
    refine op_nilCheck rfl rfl ?_
    refine op_fieldAddr rfl fo_96_1 rfl ?_
    refine op_ldb rfl ag_3 rfl H (by first | exact at0 | exact at1 | exact at2 | exact at3 | exact at4 | exact at5 | exact at6 | exact at7 | exact at8 | exact at9) rfl ?_
    refine op_gtr rfl rfl rfl ?_
    refine op_nil (at_then ?_)
    refine W_cond _ rfl ?_ ?_
    · intro h4
      replace h4 := dec_t h4
      have hl : A.less = ⟨A.B, A.left - 1, A.on⟩ := by unfold Dev.less; rw [if_neg (by omega), if_neg (by omega)]
      refine W_region ?_
      refine op_move rfl (.pointer _) rfl ?_
      refine op_nilCheck rfl rfl ?_
      refine op_fieldAddr rfl fo_96_1 rfl ?_
      refine op_ldb rfl ag_3 rfl H (by first | exact at0 | exact at1 | exact at2 | exact at3 | exact at4 | exact at5 | exact at6 | exact at7 | exact at8 | exact at9) rfl ?_
      refine op_sub_i64 rfl rfl rfl (by omega) (by omega) ?_
      refine op_nilCheck rfl rfl ?_
      refine op_fieldAddr rfl fo_96_1 rfl ?_
      refine op_stb (.int _ _) rfl sz_3 rfl rfl rfl H (by first | exact at0 | exact at1 | exact at2 | exact at3 | exact at4 | exact at5 | exact at6 | exact at7 | exact at8 | exact at9) (by first | decide | (simp; done) | (simp; omega)) ?_
      rintro w H
      refine op_nil (at_then ?_)
      refine W_rseq ?_
      refine op_assign rfl (.bool _) rfl ?_
      refine op_nil (at_then ?_)
      refine W_ret (leave1 (v := (.bool _)) rfl rfl rfl ?_)
      exact ⟨by rw [Dev.goes, decide_eq_false (by omega)], D.turn H.ext (by rw [hl]; exact H.get at0) (less_B A) (less_wf D.wf), H.ext⟩
    · intro h4
      replace h4 := dec_f h4
      have hl : A.less = A := by unfold Dev.less; rw [if_neg (by omega), if_pos (by omega)]
      refine W_skip (at_then ?_)
      refine W_rseq ?_
      refine op_assign rfl (.bool _) rfl ?_
      refine op_nil (at_then ?_)
      refine W_ret (leave1 (v := (.bool _)) rfl rfl rfl ?_)
      exact ⟨by rw [Dev.goes, decide_eq_false (by omega)], by rw [hl]; exact D, H.ext⟩

theorem rarm_ok {w : World} {rd : Nat} {A : Dev} {F : Nat → Prop} (n : Int) (hn : n ≤ 9223372036854775807) (DA : RefAt w rd A F) :
    Ret Tryd.prog 21 #[ptr rd, .int .i64 n] w fun v w' => v = .int .i64 (armE A) ∧ RefAt w' rd (armD A n) F ∧ Turn F w w' := by
  obtain ⟨w0, rfl⟩ : ∃ w0, w0 = w := ⟨_, rfl⟩
  obtain ⟨role, bb, cb, full, D, hF⟩ := DA
  have hFd : ∀ x ∈ [rd], F x := fun x h => hF x (by rw [List.mem_singleton.1 h, D.rr]; decide)
  have H := Ctx.start1 D.hd
  refine ret_of_W (fn := Tryd.f21) Tryd.func21 rfl [.pointer (some ⟨rd, 0, none⟩), .int .i64 n] rfl (by kernel_rfl) ?_
  refine W_rseq ?_
  refine op_assign rfl (.int _ _) rfl ?_
  refine op_nil (at_then ?_)
  refine W_seq ?_
  refine W_rseq ?_
  refine op_move rfl (.pointer _) rfl ?_
  refine op_nilCheck rfl rfl ?_
  refine op_fieldAddr rfl fo_96_2 rfl ?_
  refine op_ldb rfl ag_4 rfl H (by first | exact at0 | exact at1 | exact at2 | exact at3 | exact at4 | exact at5 | exact at6 | exact at7 | exact at8 | exact at9) rfl ?_
  refine op_not rfl rfl ?_
  refine op_nil (at_then ?_)
  refine W_cond _ rfl ?_ ?_
  · intro h1
    replace h1 := nvar_t h1
    have ho : A.on = false := by simpa using h1
    refine W_rseq ?_
    refine op_assign rfl (.int _ _) rfl ?_
    refine op_nil (at_then ?_)
    refine W_ret (ret_then (leave1 (v := (.int _ _)) rfl rfl rfl ?_))
    exact ⟨by rw [armE, ho]; rfl, ⟨role, bb, cb, full, by rw [armD, ho]; exact D, hF⟩, .of H.ext hFd⟩
  · intro h1
    replace h1 := nvar_f h1
    have ho : A.on = true := by simpa using h1
    refine W_skip (at_then ?_)
    refine W_rseq ?_
    refine op_move rfl (.pointer _) rfl ?_
    refine op_move rfl (.int _ _) rfl ?_
    refine op_max2 rfl rfl rfl ?_
    refine op_nilCheck rfl rfl ?_
    refine op_fieldAddr rfl fo_96_1 rfl ?_
    refine op_stb (.int _ _) rfl sz_3 rfl rfl rfl H (by first | exact at0 | exact at1 | exact at2 | exact at3 | exact at4 | exact at5 | exact at6 | exact at7 | exact at8 | exact at9) (by first | decide | (simp; done) | (simp; omega)) ?_
    rintro w H
    refine op_nil (at_then ?_)
    refine W_rseq ?_
    refine op_assign rfl (.int _ _) rfl ?_
    refine op_nil (at_then ?_)
    refine W_ret (leave1 (v := (.int _ _)) rfl rfl rfl ?_)
    refine ⟨by rw [armE, ho]; rfl, ⟨role, bb, cb, full, D.turn H.ext ?_ (by rw [armD, ho]; rfl) (arm_wf D.wf n hn), hF⟩, .of H.ext hFd⟩
    rw [armD, ho]
    have h2 := H.get at0
    rw [ho] at h2
    exact h2

theorem roff_ok {w : World} {rd : Nat} {A : Dev} {F : Nat → Prop} (DA : RefAt w rd A F) :
    Ret Tryd.prog 23 #[ptr rd] w fun v w' => v = .int .i64 (armE A) ∧ RefAt w' rd (offD A) F ∧ Turn F w w' := by
  obtain ⟨w0, rfl⟩ : ∃ w0, w0 = w := ⟨_, rfl⟩
  obtain ⟨role, bb, cb, full, D, hF⟩ := DA
  have hFd : ∀ x ∈ [rd], F x := fun x h => hF x (by rw [List.mem_singleton.1 h, D.rr]; decide)
  have H := Ctx.start1 D.hd
  refine ret_of_W (fn := Tryd.f23) Tryd.func23 rfl [.pointer (some ⟨rd, 0, none⟩)] rfl (by kernel_rfl) ?_
  refine W_rseq ?_
  refine op_assign rfl (.int _ _) rfl ?_
  refine op_nil (at_then ?_)
  refine W_seq ?_
  refine W_rseq ?_
  refine op_move rfl (.pointer _) rfl ?_
  refine op_nilCheck rfl rfl ?_
  refine op_fieldAddr rfl fo_96_2 rfl ?_
  refine op_ldb rfl ag_4 rfl H (by first | exact at0 | exact at1 | exact at2 | exact at3 | exact at4 | exact at5 | exact at6 | exact at7 | exact at8 | exact at9) rfl ?_
  refine op_not rfl rfl ?_
  refine op_nil (at_then ?_)
  refine W_cond _ rfl ?_ ?_
  · intro h1
    replace h1 := nvar_t h1
    have ho : A.on = false := by simpa using h1
    have he : offD A = A := by rw [offD, ← ho]
    refine W_rseq ?_
    refine op_assign rfl (.int _ _) rfl ?_
    refine op_nil (at_then ?_)
    refine W_ret (ret_then (leave1 (v := (.int _ _)) rfl rfl rfl ?_))
    exact ⟨by rw [armE, ho]; rfl, ⟨role, bb, cb, full, by rw [he]; exact D, hF⟩, .of H.ext hFd⟩
  · intro h1
    replace h1 := nvar_f h1
    have ho : A.on = true := by simpa using h1
    refine W_skip (at_then ?_)
    refine W_rseq ?_
    refine op_move rfl (.pointer _) rfl ?_
    refine op_nilCheck rfl rfl ?_
    refine op_fieldAddr rfl fo_96_2 rfl ?_
    refine op_stb (.bool _) rfl sz_4 rfl rfl rfl H (by first | exact at0 | exact at1 | exact at2 | exact at3 | exact at4 | exact at5 | exact at6 | exact at7 | exact at8 | exact at9) (by first | decide | (simp; done) | (simp; omega)) ?_
    rintro w H
    refine op_nil (at_then ?_)
    refine W_rseq ?_
    refine op_assign rfl (.int _ _) rfl ?_
    refine op_nil (at_then ?_)
    refine W_ret (leave1 (v := (.int _ _)) rfl rfl rfl ?_)
    exact ⟨by rw [armE, ho]; rfl, ⟨role, bb, cb, full, D.turn H.ext (H.get at0) rfl (off_wf D.wf), hF⟩, .of H.ext hFd⟩

theorem rstands_ok {w : World} {role : Nat → Nat} {k : Nat} {v : Value} {p : Byt × List Byt} (hv : LooseS w role k v p.2) (hm : p.2.length ≤ 1000000000000) :
    Ret Tryd.prog 63 #[.agg #[str p.1, v]] w fun v w' => v = str (stands p) ∧ Ext [] w w' := by
  obtain ⟨w0, rfl⟩ : ∃ w0, w0 = w := ⟨_, rfl⟩
  have H := Ctx.start w0 []
  obtain ⟨a, n, c, full, rfl, O, hb⟩ := hv
  have hn : n = p.2.length := OS.num O
  have R : Rd w0 a 1 (fun x : Byt => [str x]) p.2 := O.rd1 (t := 9) fun x hx => (hb x hx).1
  refine ret_of_W (fn := Tryd.f63) Tryd.func63 rfl [.agg #[str p.1, .slice a n c]] rfl (by kernel_rfl) ?_
  refine W_rseq ?_
  refine op_box rfl _ (.agg _) rfl rfl H ?_
  rintro b1 w - H
  refine op_assign rfl (.string _) rfl ?_
  refine op_nil (at_then ?_)
  refine W_seq ?_
  refine W_rseq ?_
  refine op_fieldAddr rfl fo_99_1 rfl ?_
  refine op_ldb rfl ag_97 rfl H (by first | exact at0 | exact at1 | exact at2 | exact at3 | exact at4 | exact at5 | exact at6 | exact at7 | exact at8 | exact at9) rfl ?_
  refine op_len rfl el_97 rfl ?_
  refine op_gtr rfl rfl rfl ?_
  refine op_nil (at_then ?_)
  refine W_cond _ rfl ?_ ?_
  · intro h1
    replace h1 := dec_t h1
    obtain ⟨b, hb⟩ : ∃ b, p.2[n - 1]? = some b := ⟨_, List.getElem?_eq_getElem (by omega)⟩
    have hst : stands p = b := by
      rw [stands, List.getLast?_eq_getElem?, show p.2.length - 1 = n - 1 by omega, hb]; rfl
    refine W_rseq ?_
    refine op_fieldAddr rfl fo_99_1 rfl ?_
    first | refine op_ldb rfl ag_97 rfl H (by first | exact at0 | exact at1 | exact at2 | exact at3 | exact at4 | exact at5 | exact at6 | exact at7 | exact at8 | exact at9) rfl ?_ | refine op_ld rfl ag_97 rfl ((R.ext0 H.ext).one (f := str) hb) ?_
    refine op_fieldAddr rfl fo_99_1 rfl ?_
    first | refine op_ldb rfl ag_97 rfl H (by first | exact at0 | exact at1 | exact at2 | exact at3 | exact at4 | exact at5 | exact at6 | exact at7 | exact at8 | exact at9) rfl ?_ | refine op_ld rfl ag_97 rfl ((R.ext0 H.ext).one (f := str) hb) ?_
    refine op_len rfl el_97 rfl ?_
    refine op_sub_i64 rfl rfl rfl (by omega) (by omega) ?_
    rw [show ((n : Int) - 1) = ((n - 1 : Nat) : Int) by omega]
    first | refine op_indexRd R rfl el_97 sz_9 rfl rfl (by omega) (by omega) (by first | rfl | omega) ?_ | refine op_indexAddr rfl el_97 sz_9 rfl rfl (by omega) (by omega) ?_
    first | refine op_ldb rfl ag_9 rfl H (by first | exact at0 | exact at1 | exact at2 | exact at3 | exact at4 | exact at5 | exact at6 | exact at7 | exact at8 | exact at9) rfl ?_ | refine op_ld rfl ag_9 rfl ((R.ext0 H.ext).one (f := str) hb) ?_
    refine op_assign rfl (.string _) rfl ?_
    refine op_nil (at_then ?_)
    refine W_ret (ret_then (leave1 (v := (.string _)) rfl rfl rfl ?_))
    exact ⟨by rw [hst]; rfl, H.ext⟩
  · intro h1
    replace h1 := dec_f h1
    have hst : stands p = p.1 := by
      have : p.2 = [] := List.eq_nil_of_length_eq_zero (by omega)
      rw [stands, this]; rfl
    refine W_skip (at_then ?_)
    refine W_rseq ?_
    refine op_fieldAddr rfl fo_99_0 rfl ?_
    first | refine op_ldb rfl ag_9 rfl H (by first | exact at0 | exact at1 | exact at2 | exact at3 | exact at4 | exact at5 | exact at6 | exact at7 | exact at8 | exact at9) rfl ?_ | refine op_ld rfl ag_9 rfl ((R.ext0 H.ext).one (f := str) hb) ?_
    refine op_assign rfl (.string _) rfl ?_
    refine op_nil (at_then ?_)
    refine W_ret (leave1 (v := (.string _)) rfl rfl rfl ?_)
    exact ⟨by rw [hst]; rfl, H.ext⟩

end Go.Proofs.YtkmbcpgnafmnpaaDoor

/- The reference's device: writes, flushes. -/
namespace Go.Proofs.YtkmbcpgnafmnpaaDoor
open Go.GV
attribute [local irreducible] Wops W Wq Wt

theorem modify_set {α : Type} {l : List α} {k : Nat} {p : α} {f : α → α} (h : l[k]? = some p) : l.modify k f = l.set k (f p) := by
  apply List.ext_getElem?
  intro i
  rw [List.getElem?_modify, List.getElem?_set]
  by_cases hi : k = i
  · subst hi
    rw [h, if_pos rfl, if_pos (get_lt h)]
    simp
  · rw [if_neg hi]
    simp [hi]
theorem addW_set {A : Dev} {k : Nat} {b : Byt} {p : Byt × List Byt} (h : A.B[k]? = some p) : addW A k b = { A with B := A.B.set k (p.1, p.2 ++ [b]) } := by
  unfold addW
  rw [modify_set h]

set_option maxRecDepth 20000 in
set_option maxHeartbeats 1000000 in
theorem rwrite_ok {w : World} {rd : Nat} {A : Dev} {F : Nat → Prop} (k : Int) (a : Option Addr) (c n : Nat) (l : Byt) (R : Rd w a 1 B8 l) (hn : l.length = n) (hFa : l = [] ∨ ¬ F (adr a).block) {mx : Nat} (hfew : Few A mx) (hmx : mx ≤ 1000000000000) (DA : RefAt w rd A F) :
    Ret Tryd.prog 27 #[ptr rd, .int .i64 k, .slice a n c] w fun v w' => v = .int .i64 (writeE A k l) ∧ RefAt w' rd (writeD A k l) (grow F w w') ∧ Turn F w w' := by
  subst hn
  obtain ⟨w0, rfl⟩ : ∃ w0, w0 = w := ⟨_, rfl⟩
  obtain ⟨role, bb, cb, full, D, hF⟩ := DA
  have hFr : ∀ x, role x ≠ 0 → F x := hF
  have H := Ctx.start1 D.hd
  refine ret_of_W (fn := Tryd.f27) Tryd.func27 rfl [.pointer (some ⟨rd, 0, none⟩), .int .i64 k, .slice a l.length c] rfl (by kernel_rfl) ?_
  refine W_rseq ?_
  refine op_assign rfl (.int _ _) rfl ?_
  refine op_nil (at_then ?_)
  refine W_seq ?_
  refine W_rseq ?_
  refine op_move rfl (.pointer _) rfl ?_
  refine op_nilCheck rfl rfl ?_
  refine op_fieldAddr rfl fo_96_2 rfl ?_
  refine op_ldb rfl ag_4 rfl H (by first | exact at0 | exact at1 | exact at2 | exact at3 | exact at4 | exact at5 | exact at6 | exact at7 | exact at8 | exact at9) rfl ?_
  refine op_not rfl rfl ?_
  refine op_nil (at_then ?_)
  refine W_cond _ rfl ?_ ?_
  · intro h1
    replace h1 := nvar_t h1
    have ho : A.on = false := by simpa using h1
    have he : writeE A k l = 8 := by rw [writeE, ho]; rfl
    have hd : writeD A k l = A := by rw [writeD, ho]; rfl
    refine W_rseq ?_
    refine op_assign rfl (.int _ _) rfl ?_
    refine op_nil (at_then ?_)
    refine W_ret (ret_then (leave1 (v := (.int _ _)) rfl rfl rfl ?_))
    exact ⟨by rw [he], by rw [hd]; exact ⟨role, bb, cb, full, D, fun x h => .inl (hF x h)⟩, .of0 (.refl _ _)⟩
  · intro h1
    replace h1 := nvar_f h1
    have ho : A.on = true := by simpa using h1
    refine W_skip (at_then ?_)
    refine W_seq ?_
    refine W_rseq (Wops_join (α := Unit) 2093056 (fun _ => [(20, .bool (!(A.has k && decide (l.length = 512))))]) (fun _ w' => w0 = w') rfl ?_ ?_)
    · refine op_move rfl (.pointer _) rfl ?_
      refine op_move rfl (.int _ _) rfl ?_
      refine op_call rfl ca_60 (rhas_ok k D.hd) rfl ?_
      rintro v w ⟨rfl, rfl⟩
      rw [show (decide (0 ≤ k) && decide (k < (A.B.length : Int))) = A.has k from rfl]
      refine op_not rfl rfl ?_
      refine op_move rfl (.bool _) rfl ?_
      refine Wops_split 16 rfl ?_ ?_
      · intro h1
        replace h1 := nvar_t h1
        refine op_skip rfl ?_
        refine op_skip rfl ?_
        refine op_skip rfl ?_
        refine op_pick1 rfl rfl (.bool _) rfl ?_
        refine op_nil ?_
        exact ⟨rfl, (), rfl, ⟨congrArg Value.bool (by rw [Bool.eq_iff_iff]; simp_all; try omega), trivial⟩, rfl⟩
      · intro h2
        replace h2 := nvar_f h2
        refine op_move rfl (.slice _ _ _) rfl ?_
        refine op_len rfl el_23 rfl ?_
        refine op_neq rfl rfl rfl ?_
        refine op_pick0 rfl rfl (.bool _) rfl ?_
        refine op_nil ?_
        exact ⟨rfl, (), rfl, ⟨congrArg Value.bool (by rw [Bool.eq_iff_iff]; simp_all; try omega), trivial⟩, rfl⟩
    rintro - j20 w rfl
    refine W_cond _ rfl ?_ ?_
    · intro h2
      replace h2 := nvar_t h2
      have he : writeE A k l = 1 := by rw [writeE, ho, h2]; rfl
      have hd : writeD A k l = A := by rw [writeD, h2, Bool.and_false]; rfl
      refine W_rseq ?_
      refine op_assign rfl (.int _ _) rfl ?_
      refine op_nil (at_then ?_)
      refine W_ret (ret_then (leave1 (v := (.int _ _)) rfl rfl rfl ?_))
      exact ⟨by rw [he], by rw [hd]; exact ⟨role, bb, cb, full, D, fun x h => .inl (hF x h)⟩, .of0 (.refl _ _)⟩
    · intro h2
      replace h2 := nvar_f h2
      refine W_skip (at_then ?_)
      refine W_seq ?_
      refine W_rseq ?_
      refine op_move rfl (.pointer _) rfl ?_
      refine op_call rfl ca_61 (rgoes_ok D) rfl ?_
      rintro v w ⟨rfl, D1, hx1⟩
      refine op_nil (at_then ?_)
      refine W_cond _ rfl ?_ ?_
      · intro hg
        have he : writeE A k l = 8 := by rw [writeE, ho, h2, hg]; rfl
        have hd : writeD A k l = A.less := by rw [writeD, ho, h2, hg]; rfl
        refine W_rseq ?_
        refine op_assign rfl (.int _ _) rfl ?_
        refine op_nil (at_then ?_)
        refine W_ret (ret_then (leave1 (v := (.int _ _)) rfl rfl rfl ?_))
        exact ⟨by rw [he], by rw [hd]; exact ⟨role, bb, cb, full, D1, fun x h => .inl (hF x h)⟩, .of hx1 fun x h => hF x (by rw [List.mem_singleton.1 h, D.rr]; decide)⟩
      · intro hg
        have he : writeE A k l = 0 := by rw [writeE, ho, h2, hg]; rfl
        have hd : writeD A k l = addW A.less k.toNat l := by rw [writeD, ho, h2, hg]; rfl
        obtain ⟨wS, rfl⟩ : ∃ x, x = w := ⟨_, rfl⟩
        rw [Bool.and_eq_true, decide_eq_true_eq] at h2
        obtain ⟨h2, hl⟩ := h2
        obtain ⟨q, rfl, hq⟩ := has_num h2
        have hq1 : q < A.less.B.length := by rw [less_B]; exact hq
        obtain ⟨p, hp⟩ : ∃ p, A.less.B[q]? = some p := ⟨_, List.getElem?_eq_getElem hq1⟩
        obtain ⟨hs0, lv, hlv, al, nl, cl, fl, rfl, O, hent⟩ := D1.part q p hp
        have hnl : nl = p.2.length := OS.num O
        have hll := less_few hfew p (List.mem_of_getElem? hp)
        have hfl := D1.len
        have hcap := D1.cap
        obtain ⟨arrs, harrs⟩ : ∃ x, x = (ent al 9 fl).map (·.1) := ⟨_, rfl⟩
        have har : ∀ x ∈ arrs, role x = 5 + q := fun x h => by
          rw [harrs] at h
          obtain ⟨y, hy, rfl⟩ := List.mem_map.1 h
          exact (hent y hy).2
        have hrd : rd ∉ arrs := fun h => by have := har _ h; rw [D1.rr] at this; omega
        have hbn : bb ∉ arrs := fun h => by have := har _ h; rw [D1.rb] at this; omega
        have hcell : wS.cell? ⟨bb, 0 + ((q : Int)).toNat * 2 + 1, none⟩ = some (.slice al nl cl) := by
          rw [cell_bl D1.hb, show 0 + ((q : Int)).toNat * 2 + 1 = 2 * q + 1 by omega]; exact hlv
        have HT : ∀ x, Ext arrs wS x → Ctx wS (rd :: arrs) x [(rd, Bl TR (RB A.less.B.length bb cb A.less.left A.less.on))] := fun x hx =>
          ⟨hx.mono (fun y h => by simp [h]), fun y hy => by rw [List.mem_singleton] at hy; subst hy; dsimp only; rw [hx.block rd (heap_lt D1.hd) hrd]; exact D1.hd, by simp, fun y hy => .inl (by rw [List.mem_singleton] at hy; subst hy; simp)⟩
        have Rw : Rd wS a 1 B8 l := by
          rcases hFa with rfl | hFa
          · exact Rd.nil
          · refine R.ext hx1 fun h => hFa ?_
            rw [List.mem_singleton.1 h]
            exact hFr _ (by rw [D.rr]; decide)
        have hRa : ∀ x, Ext arrs wS x → Rd x a 1 B8 l := fun x hx => by
          rcases hFa with rfl | hFa
          · exact Rd.nil
          · exact Rw.ext hx fun h => hFa (hFr _ (by rw [har _ h]; omega))
        replace H : Ctx wS arrs wS (ent al 9 fl) := by rw [harrs]; exact Ctx.startL (fun x hx => (hent x hx).1) ent_nd
        refine W_skip (at_then ?_)
        refine W_sseqz [([0, 1, 2, 3, 4, 5, 6, 7, 8, 9, 10, 11, 12, 13, 14], 15), ([], 16), ([], 17), ([18], 19)] (fun x => Ext arrs wS x) [19] mixed (by kernel_rfl) (Ext.drew _ wS) ?_
        refine seg_cons rfl rfl ?_
        refine t_move rfl (.pointer _) rfl ?_
        refine t_nilCheck rfl rfl ?_
        refine t_fieldAddr rfl fo_96_0 rfl ?_
        first | refine t_ldb rfl ag_94 rfl HT (by first | exact at0 | exact at1 | exact at2 | exact at3 | exact at4 | exact at5 | exact at6 | exact at7 | exact at8 | exact at9) rfl ?_ | refine t_ld rfl ag_94 rfl (fun _ hx => hx.cell hcell hbn) ?_
        refine t_move rfl (.int _ _) rfl ?_
        refine t_move rfl (.pointer _) rfl ?_
        refine t_nilCheck rfl rfl ?_
        refine t_fieldAddr rfl fo_96_0 rfl ?_
        first | refine t_ldb rfl ag_94 rfl HT (by first | exact at0 | exact at1 | exact at2 | exact at3 | exact at4 | exact at5 | exact at6 | exact at7 | exact at8 | exact at9) rfl ?_ | refine t_ld rfl ag_94 rfl (fun _ hx => hx.cell hcell hbn) ?_
        refine t_move rfl (.int _ _) rfl ?_
        refine t_indexAddr rfl el_94 sz_99 rfl rfl (by omega) (by omega) ?_
        refine t_fieldAddr rfl fo_99_1 rfl ?_
        first | refine t_ldb rfl ag_97 rfl HT (by first | exact at0 | exact at1 | exact at2 | exact at3 | exact at4 | exact at5 | exact at6 | exact at7 | exact at8 | exact at9) rfl ?_ | refine t_ld rfl ag_97 rfl (fun _ hx => hx.cell hcell hbn) ?_
        refine t_move rfl (.slice _ _ _) rfl ?_
        refine t_back rfl el_23 un_5 un_9 rfl hRa ?_
        refine t_nil ?_
        replace H := H.drew
        refine op_build1 _ (.string _) rfl el_97 sz_9 zc_9 rfl (by decide) (by decide) rfl rfl rfl H ?_
        rintro b38 w - H
        refine op_nil (at_seg (H.ext) ?_)
        refine seg_cons rfl rfl ?_
        refine t_nil ?_
        refine op_appendb (L := []) rfl el_97 el_97 sz_9 by_9 zc_9 rfl (by decide) rfl rfl H O rfl (by simp [oneCell]) (by omega) ?_
        rintro a9 c9 full9 w H9 O9
        obtain ⟨b9, rfl⟩ := O9.form (by omega)
        have hx14 : Ext arrs wS w := H9.ext
        have hbm : w.heap[bb]? = some (Bl TB full) := by rw [hx14.block bb (heap_lt D1.hb) hbn]; exact D1.hb
        obtain ⟨w14, rfl⟩ : ∃ x, x = w := ⟨_, rfl⟩
        replace H := Ctx.start1 hbm
        refine op_nil (at_seg (hx14) ?_)
        refine seg_cons rfl rfl ?_
        refine t_nil ?_
        refine op_indexAddr rfl el_94 sz_99 rfl rfl (by omega) (by omega) ?_
        refine op_nil (at_seg (hx14) ?_)
        refine seg_cons rfl rfl ?_
        refine t_fieldAddr rfl fo_99_1 rfl ?_
        refine t_nil ?_
        refine op_stb (.slice _ _ _) rfl sz_97 rfl rfl rfl H (by first | exact at0 | exact at1 | exact at2 | exact at3 | exact at4 | exact at5 | exact at6 | exact at7 | exact at8 | exact at9) (by first | decide | (simp; done) | (simp; omega)) ?_
        rintro w H
        refine op_nil (at_segz rfl ?_)
        refine seg_nil ?_
        refine W_rseq ?_
        refine op_assign rfl (.int _ _) rfl ?_
        refine op_nil (at_then ?_)
        refine W_ret (leave1 (v := (.int _ _)) rfl rfl rfl ?_)
        have hsz9 : b9 ∈ arrs ∨ wS.heap.size ≤ b9 := H9.own (b9, Bl _ full9) (by rw [mem_ent rfl]; exact List.mem_singleton.2 rfl)
        have hb9w : w14.heap[b9]? = some (Bl 9 full9) := H9.blk (b9, Bl _ full9) (by rw [mem_ent rfl]; exact List.mem_singleton.2 rfl)
        have hs14 := hx14.size
        have hs15 := H.ext.size
        have hbb2 := D1.rb
        have hbblt := D1.lt bb (by omega)
        have hne9 : b9 ≠ bb := fun h => by
          rcases hsz9 with h1 | h1
          · exact hbn (h ▸ h1)
          · omega
        obtain ⟨role', hrole⟩ : ∃ f : Nat → Nat, ∀ x, f x = if x = b9 then 5 + q else role x := ⟨_, fun _ => rfl⟩
        have hold : ∀ x, role x ≠ 0 → role' x = role x := fun x h0 => by
          have hlt := D1.lt x h0
          rw [hrole]
          by_cases h : x = b9
          · rw [if_pos h]
            rcases hsz9 with h1 | h1
            · rw [h, har _ h1]
            · omega
          · rw [if_neg h]
        have hnew : ∀ x, role' x ≠ 0 → role x ≠ 0 ∨ (wS.heap.size ≤ x ∧ x < w.heap.size) := fun x h0 => by
          rw [hrole] at h0
          by_cases h : x = b9
          · rcases hsz9 with h1 | h1
            · exact .inl (by rw [h, har _ h1]; omega)
            · exact .inr (by rw [h]; exact ⟨h1, Nat.lt_of_lt_of_le (heap_lt hb9w) hs15⟩)
          · rw [if_neg h] at h0
            exact .inl h0
        have hxE : Ext (bb :: arrs) wS w := (hx14.mono fun x h => List.mem_cons_of_mem _ h).trans (H.ext.mono fun x h => by rw [List.mem_singleton.1 h]; exact List.mem_cons_self ..)
        have hi1 : 0 + ((q : Int)).toNat * 2 + 1 = 2 * q + 1 := by omega
        have D' := D1.put (p := (p.1, p.2 ++ [l])) (role' := role') hq1 hxE (fun x h => by
            rcases List.mem_cons.1 h with h | h
            · exact .inl (by rw [h]; exact hbb2)
            · exact .inr (har x h)) (H.get at0) (by rw [List.length_set]) (by rw [hi1, List.getElem?_set_ne (by omega)]; exact hs0) (by rw [hi1, List.getElem?_set_self (by omega)])
          (fun i h1 h2 => by rw [hi1, List.getElem?_set_ne (by omega)]) ⟨_, _, _, full9, rfl, by rw [List.map_append]; exact O9, fun x hx' => by
            rw [mem_ent rfl, List.mem_singleton] at hx'
            subst hx'
            exact ⟨by dsimp only; rw [H.ext.block b9 (heap_lt hb9w) (by simpa using hne9)]; exact hb9w, by dsimp only; rw [hrole, if_pos rfl]⟩⟩ hold
          (fun x h => (hnew x h).elim (fun h => by have := D1.lt x h; omega) fun h => h.2) (by rw [← addW_set hp]; exact addW_wf (less_wf D.wf) hl)
        refine ⟨by rw [he], ?_, ?_⟩
        · rw [hd, show ((q : Int)).toNat = q from rfl, addW_set hp]
          refine ⟨role', bb, cb, _, D', fun x h => ?_⟩
          rcases hnew x h with h | h
          · exact .inl (hF x h)
          · exact .inr ⟨Nat.le_trans hx1.size h.1, h.2⟩
        · refine .of (S := rd :: bb :: arrs) ((hx1.mono (by simp)).trans (hxE.mono fun x h => List.mem_cons_of_mem _ h)) fun x h => hF x ?_
          rcases List.mem_cons.1 h with rfl | h
          · rw [D.rr]; decide
          · rcases List.mem_cons.1 h with rfl | h
            · rw [D.rb]; decide
            · rw [har x h]; omega

end Go.Proofs.YtkmbcpgnafmnpaaDoor

/- The reference's device: flushes; the power comes. -/
namespace Go.Proofs.YtkmbcpgnafmnpaaDoor
open Go.GV
attribute [local irreducible] Wops W Wq Wt

theorem set_mid {α : Type} (xs ys : List α) (p q : α) : (xs ++ p :: ys).set xs.length q = xs ++ q :: ys := by
  induction xs with
  | nil => rfl
  | cons x xs ih => simp [ih]
theorem drop_cons {α : Type} {l : List α} {i : Nat} {p : α} (h : l[i]? = some p) : l.drop i = p :: l.drop (i + 1) := by
  obtain ⟨hi, rfl⟩ := List.getElem?_eq_some_iff.1 h
  exact List.drop_eq_getElem_cons hi
def sureB (B : List (Byt × List Byt)) (i : Nat) : List (Byt × List Byt) := (B.take i).map (fun p => (stands p, [])) ++ B.drop i
theorem sureB_len (B : List (Byt × List Byt)) (i : Nat) : (sureB B i).length = B.length := by
  rw [sureB, List.length_append, List.length_map, List.length_take, List.length_drop]; omega
theorem sureB_get {B : List (Byt × List Byt)} {i : Nat} (h : i ≤ B.length) : (sureB B i)[i]? = B[i]? := by
  have hl : ((B.take i).map (fun p : Byt × List Byt => (stands p, ([] : List Byt)))).length = i := by rw [List.length_map, List.length_take]; omega
  rw [sureB, List.getElem?_append_right (by omega), hl, Nat.sub_self, List.getElem?_drop, Nat.add_zero]
theorem sureB_step {B : List (Byt × List Byt)} {i : Nat} {p : Byt × List Byt} (h : B[i]? = some p) : (sureB B i).set i (stands p, []) = sureB B (i + 1) := by
  have hi := get_lt h
  have hl : ((B.take i).map (fun p : Byt × List Byt => (stands p, ([] : List Byt)))).length = i := by rw [List.length_map, List.length_take]; omega
  have h1 := set_mid ((B.take i).map (fun p : Byt × List Byt => (stands p, ([] : List Byt)))) (B.drop (i + 1)) p (stands p, [])
  rw [hl] at h1
  rw [sureB, drop_cons h, h1, sureB, take_snoc h, List.map_append]
  simp
theorem sureB_all (B : List (Byt × List Byt)) : sureB B B.length = B.map fun p => (stands p, []) := by simp [sureB]

def cntL (B : List (Byt × List Byt)) : Nat := B.countP fun p => !p.2.isEmpty
theorem keepB_app (l1 l2 : List (Byt × List Byt)) (picks : List Int) : keepB (l1 ++ l2) picks = keepB l1 picks ++ keepB l2 (picks.drop (cntL l1)) := by
  induction l1 generalizing picks with
  | nil => simp [keepB, cntL]
  | cons p l ih =>
    by_cases hp : p.2 = []
    · have hc : cntL (p :: l) = cntL l := by simp [cntL, hp]
      rw [hc, List.cons_append, keepB, keepB, if_pos hp, if_pos hp, ih, List.cons_append]
    · have hc : cntL (p :: l) = cntL l + 1 := by simp [cntL, hp]
      rw [hc, List.cons_append, keepB, keepB, if_neg hp, if_neg hp, ih, List.cons_append]
      congr 3
      rw [List.drop_tail]
theorem cntL_snoc (l : List (Byt × List Byt)) (p : Byt × List Byt) : cntL (l ++ [p]) = if p.2 = [] then cntL l else cntL l + 1 := by
  unfold cntL
  rw [List.countP_append]
  by_cases hp : p.2 = [] <;> simp [hp]
theorem cntL_le (l : List (Byt × List Byt)) : cntL l ≤ l.length := List.countP_le_length
def keepI (B : List (Byt × List Byt)) (picks : List Int) (i : Nat) : List (Byt × List Byt) := keepB (B.take i) picks ++ B.drop i
theorem keepI_len (B : List (Byt × List Byt)) (picks : List Int) (i : Nat) : (keepI B picks i).length = B.length := by
  rw [keepI, List.length_append, keepB_len, List.length_take, List.length_drop]; omega
theorem keepI_get {B : List (Byt × List Byt)} {picks : List Int} {i : Nat} (h : i ≤ B.length) : (keepI B picks i)[i]? = B[i]? := by
  have hl : (keepB (B.take i) picks).length = i := by rw [keepB_len, List.length_take]; omega
  rw [keepI, List.getElem?_append_right (by omega), hl, Nat.sub_self, List.getElem?_drop, Nat.add_zero]
theorem keepI_same {B : List (Byt × List Byt)} {picks : List Int} {i : Nat} {p : Byt × List Byt} (h : B[i]? = some p) (hp : p.2 = []) : keepI B picks (i + 1) = keepI B picks i := by
  rw [keepI, take_snoc h, keepB_app, keepI, drop_cons h, List.append_assoc]
  congr 1
  rw [keepB, if_pos hp]
  simp [keepB, ← hp]
theorem keepI_step {B : List (Byt × List Byt)} {picks : List Int} {i : Nat} {p : Byt × List Byt} (h : B[i]? = some p) (hp : p.2 ≠ []) : (keepI B picks i).set i (kept p (pickN p (picks.drop (cntL (B.take i)))), []) = keepI B picks (i + 1) := by
  have hi := get_lt h
  have hl : (keepB (B.take i) picks).length = i := by rw [keepB_len, List.length_take]; omega
  have h1 := set_mid (keepB (B.take i) picks) (B.drop (i + 1)) p (kept p (pickN p (picks.drop (cntL (B.take i)))), [])
  rw [hl] at h1
  rw [keepI, drop_cons h, h1, keepI, take_snoc h, keepB_app, List.append_assoc]
  congr 1
  rw [keepB, if_neg hp]
  rfl
theorem keepI_all (B : List (Byt × List Byt)) (picks : List Int) : keepI B picks B.length = keepB B picks := by simp [keepI]

theorem Wf.set {A : Dev} (h : Wf A) {k : Nat} {p : Byt × List Byt} (h1 : p.1.length = 512) (h2 : ∀ b ∈ p.2, b.length = 512) : Wf { A with B := A.B.set k p } := by
  refine ⟨by rw [List.length_set]; exact h.lo, by rw [List.length_set]; exact h.hi, h.left, h.left2, fun q hq => ?_, fun q hq x hx => ?_⟩
  · rcases List.mem_or_eq_of_mem_set hq with hq | rfl
    · exact h.sure q hq
    · exact h1
  · rcases List.mem_or_eq_of_mem_set hq with hq | rfl
    · exact h.loose q hq x hx
    · exact h2 x hx

/-- A block is stored whole: nothing is loose. -/
theorem RefR.fix {w w' : World} {rd : Nat} {A : Dev} {role : Nat → Nat} {bb cb : Nat} {full : List Value} (D : RefR w rd A role bb cb full) {k : Nat} {s : Byt} (hk : k < A.B.length) (hs : s.length = 512)
    (hx : Ext [bb] w w') (hb' : w'.heap[bb]? = some (Bl TB (over full (0 + ((k : Int)).toNat * 2) [str s, .slice none 0 0]))) :
    RefR w' rd { A with B := A.B.set k (s, []) } role bb cb ((full.set (2 * k) (str s)).set (2 * k + 1) (.slice none 0 0)) := by
  have hl := D.len; have hc := D.cap
  have he : over full (0 + ((k : Int)).toNat * 2) [str s, .slice none 0 0] = (full.set (2 * k) (str s)).set (2 * k + 1) (.slice none 0 0) := by
    rw [show 0 + ((k : Int)).toNat * 2 = 2 * k by omega]; rfl
  refine D.put hk hx (fun x h => .inl (by rw [List.mem_singleton.1 h]; exact D.rb)) (by rw [hb', he]) (by rw [List.length_set, List.length_set]) (by rw [List.getElem?_set_ne (by omega), List.getElem?_set_self (by omega)]) (by rw [List.getElem?_set_self (by rw [List.length_set]; omega)])
    (fun i h1 h2 => by rw [List.getElem?_set_ne (by omega), List.getElem?_set_ne (by omega)]) ⟨none, 0, 0, [], rfl, OS.nil, by simp [ent]⟩ (fun _ _ => rfl) (fun x h => Nat.lt_of_lt_of_le (D.lt x h) hx.size) (D.wf.set hs (by simp))

theorem one_pair (l : Byt) : ∀ v ∈ [str l, Value.slice none 0 0], oneCell v = true := by
  intro v hv
  simp only [List.mem_cons, List.not_mem_nil, or_false] at hv
  rcases hv with rfl | rfl <;> rfl
theorem pair_cells {w : World} {bb i : Nat} {x y : Value} {full : List Value} {t : Nat} (hb : w.heap[bb]? = some (Bl t full)) (h0 : full[2 * i]? = some x) (h1 : full[2 * i + 1]? = some y) :
    ∀ j v, [x, y][j]? = some v → w.cell? ⟨bb, 0 + ((i : Int)).toNat * 2 + j, none⟩ = some v := by
  intro j v hj
  rw [cell_bl hb, show 0 + ((i : Int)).toNat * 2 + j = 2 * i + j by omega]
  match j, hj with
  | 0, hj => cases hj; exact h0
  | 1, hj => cases hj; exact h1

set_option maxRecDepth 20000 in
set_option maxHeartbeats 1000000 in
theorem rflush_ok {w : World} {rd : Nat} {A : Dev} {F : Nat → Prop} {mx : Nat} (hfew : Few A mx) (hmx : mx ≤ 1000000000000) (DA : RefAt w rd A F) :
    Ret Tryd.prog 58 #[ptr rd] w fun v w' => v = .int .i64 (flushE A) ∧ RefAt w' rd (flushD A) F ∧ Turn F w w' := by
  obtain ⟨w0, rfl⟩ : ∃ w0, w0 = w := ⟨_, rfl⟩
  obtain ⟨role, bb, cb, full, D, hF⟩ := DA
  have hF1 : F rd := hF _ (by rw [D.rr]; decide)
  have hF2 : F bb := hF _ (by rw [D.rb]; decide)
  have H := Ctx.start1 D.hd
  refine ret_of_W (fn := Tryd.f58) Tryd.func58 rfl [.pointer (some ⟨rd, 0, none⟩)] rfl (by kernel_rfl) ?_
  refine W_rseq ?_
  refine op_assign rfl (.int _ _) rfl ?_
  refine op_nil (at_then ?_)
  refine W_seq ?_
  refine W_rseq (Wops_join (α := Unit) 8176 (fun _ => [(12, .bool (!(A.on && !A.goes)))]) (fun _ w' => (A.on = false ∧ w0 = w') ∨ (A.on = true ∧ RefR w' rd A.less role bb cb full ∧ Ext [rd] w0 w')) rfl ?_ ?_)
  · refine op_move rfl (.pointer _) rfl ?_
    refine op_nilCheck rfl rfl ?_
    refine op_fieldAddr rfl fo_96_2 rfl ?_
    refine op_ldb rfl ag_4 rfl H (by first | exact at0 | exact at1 | exact at2 | exact at3 | exact at4 | exact at5 | exact at6 | exact at7 | exact at8 | exact at9) rfl ?_
    refine op_not rfl rfl ?_
    refine op_move rfl (.bool _) rfl ?_
    refine Wops_split 9 rfl ?_ ?_
    · intro h1
      replace h1 := nvar_t h1
      refine op_skip rfl ?_
      refine op_skip rfl ?_
      refine op_pick1 rfl rfl (.bool _) rfl ?_
      refine op_nil ?_
      exact ⟨rfl, (), rfl, ⟨congrArg Value.bool (by simp_all), trivial⟩, by first | exact .inr ⟨by simp_all, D1, hx1⟩ | exact .inl ⟨by simp_all, rfl⟩⟩
    · intro h2
      replace h2 := nvar_f h2
      refine op_move rfl (.pointer _) rfl ?_
      refine op_call rfl ca_61 (rgoes_ok D) rfl ?_
      rintro v w ⟨rfl, D1, hx1⟩
      refine op_pick0 rfl rfl (.bool _) rfl ?_
      refine op_nil ?_
      exact ⟨rfl, (), rfl, ⟨congrArg Value.bool (by simp_all), trivial⟩, by first | exact .inr ⟨by simp_all, D1, hx1⟩ | exact .inl ⟨by simp_all, rfl⟩⟩
  rintro - j12 w hj
  refine W_cond _ rfl ?_ ?_
  · intro h1
    replace h1 := nvar_t h1
    refine W_rseq ?_
    refine op_assign rfl (.int _ _) rfl ?_
    refine op_nil (at_then ?_)
    refine W_ret (ret_then (leave1 (v := (.int _ _)) rfl rfl rfl ?_))
    rcases hj with ⟨ho, rfl⟩ | ⟨ho, D1, hx1⟩
    · exact ⟨by rw [flushE, ho]; rfl, by rw [flushD, ho]; exact ⟨role, bb, cb, full, D, hF⟩, .of0 (.refl _ _)⟩
    · have hg : A.goes = true := by simpa [ho] using h1
      exact ⟨by rw [flushE, ho, hg]; rfl, by rw [flushD, ho, hg]; exact ⟨role, bb, cb, full, D1, hF⟩, .of hx1 fun x h => by rw [List.mem_singleton.1 h]; exact hF1⟩
  · intro h1
    replace h1 := nvar_f h1
    simp only [Bool.and_eq_true, Bool.not_eq_true'] at h1
    obtain ⟨ho, hg⟩ := h1
    rcases hj with ⟨ho', _⟩ | ⟨_, D1, hx1⟩
    · rw [ho] at ho'; cases ho'
    obtain ⟨w1, rfl⟩ : ∃ x, x = w := ⟨_, rfl⟩
    have hlo := D1.wf.lo; have hhi := D1.wf.hi
    have hfew1 := less_few hfew
    refine W_skip (at_then ?_)
    refine W_seq ?_
    refine W_rseq ?_
    refine op_assign rfl (.int _ _) rfl ?_
    refine op_nil (at_then ?_)
    refine W_block ?_
    refine W_loop 137438945288 (α := Nat) (fun i => [(3, .int .i64 i)]) (fun i w' => i ≤ A.less.B.length ∧ (∃ full', RefR w' rd { A.less with B := sureB A.less.B i } role bb cb full') ∧ Ext [bb] w1 w') (fun i => A.less.B.length - i) 0 rfl ?_ ?_ ?_
    · exact ⟨rfl, trivial⟩
    · exact ⟨Nat.zero_le _, ⟨full, by simpa [sureB] using D1⟩, .refl _ _⟩
    · rintro i j w ⟨hi, ⟨full', D2⟩, hx2⟩
      obtain ⟨wS, rfl⟩ : ∃ x, x = w := ⟨_, rfl⟩
      have H := Ctx.start1 D2.hd
      refine W_seq ?_
      refine W_rseq ?_
      refine op_move rfl (.int _ _) rfl ?_
      refine op_move rfl (.pointer _) rfl ?_
      refine op_nilCheck rfl rfl ?_
      refine op_fieldAddr rfl fo_96_0 rfl ?_
      refine op_ldb rfl ag_94 rfl H (by first | exact at0 | exact at1 | exact at2 | exact at3 | exact at4 | exact at5 | exact at6 | exact at7 | exact at8 | exact at9) rfl ?_
      refine op_len rfl el_94 rfl ?_
      refine op_lss rfl rfl rfl ?_
      refine op_nil (at_then ?_)
      refine W_cond _ rfl ?_ ?_
      · intro h2
        replace h2 := dec_t h2
        have h2' : (i : Int) < ((sureB A.less.B i).length : Int) := h2
        rw [sureB_len] at h2'
        have hi2 : i < (sureB A.less.B i).length := by rw [sureB_len]; omega
        obtain ⟨p, hp⟩ : ∃ p, A.less.B[i]? = some p := ⟨_, List.getElem?_eq_getElem (by omega)⟩
        have hp2 : (sureB A.less.B i)[i]? = some p := by rw [sureB_get hi]; exact hp
        obtain ⟨hs0, lv, hlv, hloose⟩ := D2.part i p hp2
        have hpl := hfew1 p (List.mem_of_getElem? hp)
        have hst := stands_len D1.wf (List.mem_of_getElem? hp)
        have hfl := D2.len
        have hcap : (sureB A.less.B i).length ≤ cb := D2.cap
        have hcells := pair_cells D2.hb hs0 hlv
        have HT : ∀ x, Ext [] wS x → Ctx wS [rd] x [(rd, Bl TR (RB (sureB A.less.B i).length bb cb A.less.left A.less.on))] := fun x hx => H.call hx
        refine W_skip (at_then ?_)
        refine W_seq ?_
        refine W_block ?_
        refine W_segz [([0, 1, 2, 3, 4, 5, 6, 7, 8, 9, 10, 11], 12), ([], 13), ([14], 15)] (fun x => Ext [] wS x) [15] mixed (by kernel_rfl) (Ext.drew _ wS) ?_
        refine seg_cons rfl rfl ?_
        refine t_move rfl (.pointer _) rfl ?_
        refine t_nilCheck rfl rfl ?_
        refine t_fieldAddr rfl fo_96_0 rfl ?_
        refine t_ldb rfl ag_94 rfl HT (by first | exact at0 | exact at1 | exact at2 | exact at3 | exact at4 | exact at5 | exact at6 | exact at7 | exact at8 | exact at9) rfl ?_
        refine t_move rfl (.int _ _) rfl ?_
        refine t_move rfl (.pointer _) rfl ?_
        refine t_nilCheck rfl rfl ?_
        refine t_fieldAddr rfl fo_96_0 rfl ?_
        refine t_ldb rfl ag_94 rfl HT (by first | exact at0 | exact at1 | exact at2 | exact at3 | exact at4 | exact at5 | exact at6 | exact at7 | exact at8 | exact at9) rfl ?_
        refine t_move rfl (.int _ _) rfl ?_
        refine t_indexAddr rfl el_94 sz_99 rfl rfl (by omega) (by omega) ?_
        refine t_ldN [str p.1, lv] rfl ag_99 sz_99 rfl rfl (fun _ hx j v hj => hx.cell (hcells j v hj) (by simp)) ?_
        refine t_nil ?_
        skip
        refine op_call rfl ca_63 (rstands_ok (hloose.keep (Ext.drew [] wS) (by simp) fun _ h => h) (by omega)) rfl ?_
        rintro v w ⟨rfl, hx34⟩
        have hxw : Ext [] wS w := (Ext.drew [] wS).trans hx34
        refine op_nil (at_seg (hxw) ?_)
        refine seg_cons rfl rfl ?_
        refine t_nil ?_
        refine op_buildS [str (stands p), .slice none 0 0] rfl pl_99 zc_99 (by kernel_rfl) ?_
        obtain ⟨w9, rfl⟩ : ∃ x, x = w := ⟨_, rfl⟩
        have hbb9 : w9.heap[bb]? = some (Bl TB full') := by rw [hxw.block bb (heap_lt D2.hb) (by simp)]; exact D2.hb
        refine op_nil (at_seg (hxw) ?_)
        refine seg_cons rfl rfl ?_
        refine t_indexAddr rfl el_94 sz_99 rfl rfl (by omega) (by omega) ?_
        refine t_nil ?_
        refine op_stbN (vs := [str (stands p), .slice none 0 0]) rfl sz_99 rfl rfl rfl (one_pair _) (Ctx.start1 hbb9) at0 (by omega) ?_
        rintro w H9
        refine op_nil (at_segz rfl ?_)
        refine seg_nil ?_
        refine at_block (at_then ?_)
        refine W_region ?_
        refine op_move rfl (.int _ _) rfl ?_
        refine op_add_i64 rfl rfl rfl (by omega) (by omega) ?_
        refine op_assign rfl (.int _ _) rfl ?_
        refine op_nil (at_then ?_)
        have hxE : Ext [bb] wS w := (hxw.mono (by simp)).trans H9.ext
        obtain ⟨f3, D3⟩ : ∃ f, RefR w rd { A.less with B := (sureB A.less.B i).set i (stands p, []) } role bb cb f := ⟨_, D2.fix hi2 hst hxE (H9.get at0)⟩
        rw [sureB_step hp] at D3
        exact ⟨i + 1, rfl, ⟨rfl, trivial⟩, ⟨by omega, ⟨f3, D3⟩, hx2.trans hxE⟩, by omega⟩
      · intro h2
        replace h2 := dec_f h2
        have h2' : ¬ (i : Int) < ((sureB A.less.B i).length : Int) := h2
        rw [sureB_len] at h2'
        have hin : i = A.less.B.length := by omega
        subst hin
        rw [sureB_all] at D2
        refine W_exit (exit_then (exit_then (exit_here (at_then ?_))))
        refine W_rseq ?_
        refine op_assign rfl (.int _ _) rfl ?_
        refine op_nil (at_then ?_)
        refine W_ret (leave1 (v := (.int _ _)) rfl rfl rfl ?_)
        refine ⟨by rw [flushE, ho, hg]; rfl, by rw [flushD, ho, hg]; exact ⟨role, bb, cb, full', D2, hF⟩, .of (S := [rd, bb]) ((hx1.mono (by simp)).trans (hx2.mono (by simp))) fun x h => ?_⟩
        simp only [List.mem_cons, List.not_mem_nil, or_false] at h
        rcases h with rfl | rfl
        · exact hF1
        · exact hF2

theorem pick_num (p : Byt × List Byt) (x : Int) (l : List Int) : (max x 0) % ((p.2.length : Int) + 1) = ((pickN p (x :: l) : Nat) : Int) := by
  unfold pickN
  dsimp only
  rw [Int.natCast_emod, Int.toNat_of_nonneg (by omega)]
  rfl

set_option maxRecDepth 20000 in
set_option maxHeartbeats 2000000 in
theorem rcomes_ok {w : World} {rd : Nat} {A : Dev} {F : Nat → Prop} (a : Option Addr) (c n : Nat) (picks : List Int) (R : Rd w a 1 (fun x : Int => [.int .i64 x]) picks) (hn : picks.length = n) (hm : n ≤ 9223372036854775000) (hFa : picks = [] ∨ ¬ F (adr a).block) (hi64 : ∀ x ∈ picks, -9223372036854775808 ≤ x ∧ x ≤ 9223372036854775807) {mx : Nat} (hfew : Few A mx) (hmx : mx ≤ 1000000000000) (DA : RefAt w rd A F) :
    Ret Tryd.prog 25 #[ptr rd, .slice a n c] w fun v w' => v = .int .i64 (onE A) ∧ RefAt w' rd (onD A picks) F ∧ Turn F w w' := by
  subst hn
  obtain ⟨w0, rfl⟩ : ∃ w0, w0 = w := ⟨_, rfl⟩
  obtain ⟨role, bb, cb, full, D, hF⟩ := DA
  have hF1 : F rd := hF _ (by rw [D.rr]; decide)
  have hF2 : F bb := hF _ (by rw [D.rb]; decide)
  have H := Ctx.start1 D.hd
  have hlo := D.wf.lo; have hhi := D.wf.hi
  refine ret_of_W (fn := Tryd.f25) Tryd.func25 rfl [.pointer (some ⟨rd, 0, none⟩), .slice a picks.length c] rfl (by kernel_rfl) ?_
  refine W_rseq ?_
  refine op_assign rfl (.int _ _) rfl ?_
  refine op_nil (at_then ?_)
  refine W_seq ?_
  refine W_rseq ?_
  refine op_move rfl (.pointer _) rfl ?_
  refine op_nilCheck rfl rfl ?_
  refine op_fieldAddr rfl fo_96_2 rfl ?_
  refine op_ldb rfl ag_4 rfl H (by first | exact at0 | exact at1 | exact at2 | exact at3 | exact at4 | exact at5 | exact at6 | exact at7 | exact at8 | exact at9) rfl ?_
  refine op_nil (at_then ?_)
  refine W_cond _ rfl ?_ ?_
  · intro ho
    refine W_rseq ?_
    refine op_assign rfl (.int _ _) rfl ?_
    refine op_nil (at_then ?_)
    refine W_ret (ret_then (leave1 (v := (.int _ _)) rfl rfl rfl ?_))
    exact ⟨by rw [onE, ho]; rfl, by rw [onD, ho]; exact ⟨role, bb, cb, full, D, hF⟩, .of0 (.refl _ _)⟩
  · intro ho
    have hRb : ∀ x, Ext [bb] w0 x → Rd x a 1 (fun x : Int => [.int .i64 x]) picks := fun x hx => by
      rcases hFa with rfl | hFa
      · exact Rd.nil
      · exact R.ext hx fun h => hFa (by rw [List.mem_singleton.1 h]; exact hF2)
    refine W_skip (at_then ?_)
    refine W_rseq ?_
    refine op_assign rfl (.int _ _) rfl ?_
    refine op_nil (at_then ?_)
    refine W_seq ?_
    refine W_rseq ?_
    refine op_assign rfl (.int _ _) rfl ?_
    refine op_nil (at_then ?_)
    refine W_block ?_
    refine W_loop 302231454903657293661152 (α := Nat) (fun i => [(6, .int .i64 i), (5, .int .i64 (cntL (A.B.take i) : Int))]) (fun i w' => i ≤ A.B.length ∧ (∃ full', RefR w' rd { A with B := keepI A.B picks i } role bb cb full') ∧ Ext [bb] w0 w') (fun i => A.B.length - i) 0 rfl ?_ ?_ ?_
    · exact ⟨rfl, rfl, trivial⟩
    · exact ⟨Nat.zero_le _, ⟨full, by simpa [keepI, keepB] using D⟩, .refl _ _⟩
    · rintro i j w ⟨hi, ⟨full', D2⟩, hx2⟩
      obtain ⟨wS, rfl⟩ : ∃ x, x = w := ⟨_, rfl⟩
      have H := Ctx.start1 D2.hd
      have hcn : cntL (A.B.take i) ≤ 4096 := by have := cntL_le (A.B.take i); rw [List.length_take] at this; omega
      refine W_seq ?_
      refine W_rseq ?_
      refine op_move rfl (.int _ _) rfl ?_
      refine op_move rfl (.pointer _) rfl ?_
      refine op_nilCheck rfl rfl ?_
      refine op_fieldAddr rfl fo_96_0 rfl ?_
      refine op_ldb rfl ag_94 rfl H (by first | exact at0 | exact at1 | exact at2 | exact at3 | exact at4 | exact at5 | exact at6 | exact at7 | exact at8 | exact at9) rfl ?_
      refine op_len rfl el_94 rfl ?_
      refine op_lss rfl rfl rfl ?_
      refine op_nil (at_then ?_)
      refine W_cond _ rfl ?_ ?_
      · intro h2
        replace h2 := dec_t h2
        have h2' : (i : Int) < ((keepI A.B picks i).length : Int) := h2
        rw [keepI_len] at h2'
        have hi2 : i < (keepI A.B picks i).length := by rw [keepI_len]; omega
        obtain ⟨p, hp⟩ : ∃ p, A.B[i]? = some p := ⟨_, List.getElem?_eq_getElem (by omega)⟩
        have hp2 : (keepI A.B picks i)[i]? = some p := by rw [keepI_get hi]; exact hp
        obtain ⟨hs0, lv, hlv, al, nl, cl, fl, rfl, O, hent⟩ := D2.part i p hp2
        have hnl : nl = p.2.length := OS.num O
        subst hnl
        have hpl := hfew p (List.mem_of_getElem? hp)
        have hfl := D2.len
        have hcap : (keepI A.B picks i).length ≤ cb := D2.cap
        have hcell0 : wS.cell? ⟨bb, 0 + ((i : Int)).toNat * 2 + 0, none⟩ = some (str p.1) := pair_cells D2.hb hs0 hlv 0 _ rfl
        have hcell1 : wS.cell? ⟨bb, 0 + ((i : Int)).toNat * 2 + 1, none⟩ = some (.slice al p.2.length cl) := pair_cells D2.hb hs0 hlv 1 _ rfl
        have Rl : Rd wS al 1 (fun x : Byt => [str x]) p.2 := O.rd1 (t := 9) fun x hx => (hent x hx).1
        refine W_skip (at_then ?_)
        refine W_seq ?_
        refine W_block ?_
        refine W_rseq ?_
        refine op_move rfl (.pointer _) rfl ?_
        refine op_nilCheck rfl rfl ?_
        refine op_fieldAddr rfl fo_96_0 rfl ?_
        first | refine op_ldb rfl ag_94 rfl H (by first | exact at0 | exact at1 | exact at2 | exact at3 | exact at4 | exact at5 | exact at6 | exact at7 | exact at8 | exact at9) rfl ?_ | refine op_ld rfl ag_94 rfl (hcell0) ?_ | refine op_ld rfl ag_94 rfl (hcell1) ?_
        refine op_move rfl (.int _ _) rfl ?_
        refine op_indexAddr rfl el_94 sz_99 rfl rfl (by omega) (by omega) ?_
        refine op_fieldAddr rfl fo_99_1 rfl ?_
        first | refine op_ldb rfl ag_97 rfl H (by first | exact at0 | exact at1 | exact at2 | exact at3 | exact at4 | exact at5 | exact at6 | exact at7 | exact at8 | exact at9) rfl ?_ | refine op_ld rfl ag_97 rfl (hcell0) ?_ | refine op_ld rfl ag_97 rfl (hcell1) ?_
        refine op_len rfl el_97 rfl ?_
        refine op_assign rfl (.int _ _) rfl ?_
        refine op_nil (at_then ?_)
        refine W_seq ?_
        refine W_rseq ?_
        refine op_move rfl (.int _ _) rfl ?_
        refine op_eql rfl rfl rfl ?_
        refine op_nil (at_then ?_)
        refine W_cond _ rfl ?_ ?_
        · intro h3
          replace h3 := dec_t h3
          have hp0 : p.2 = [] := List.eq_nil_of_length_eq_zero (by omega)
          refine W_exit (exit_then (exit_here (at_then ?_)))
          refine W_region ?_
          refine op_move rfl (.int _ _) rfl ?_
          refine op_add_i64 rfl rfl rfl (by omega) (by omega) ?_
          refine op_assign rfl (.int _ _) rfl ?_
          refine op_nil (at_then ?_)
          refine ⟨i + 1, rfl, ⟨rfl, congrArg (fun k : Nat => Value.int .i64 (k : Int)) ?_, trivial⟩, ⟨by omega, ⟨full', ?_⟩, hx2⟩, by omega⟩
          · rw [take_snoc hp, cntL_snoc, if_pos hp0]
          · rw [keepI_same hp hp0]; exact D2
        · intro h3
          replace h3 := dec_f h3
          have hpn : p.2 ≠ [] := fun h => h3 (by rw [h]; rfl)
          have hcs : cntL (A.B.take (i + 1)) = cntL (A.B.take i) + 1 := by rw [take_snoc hp, cntL_snoc, if_neg hpn]
          have fin : ∀ (s : Byt), kept p (pickN p (picks.drop (cntL (A.B.take i)))) = s → ∀ w', Ext [bb] wS w' → w'.heap[bb]? = some (Bl TB (over full' (0 + ((i : Int)).toNat * 2) [str s, .slice none 0 0])) →
              (i + 1 ≤ A.B.length ∧ (∃ f, RefR w' rd { A with B := keepI A.B picks (i + 1) } role bb cb f) ∧ Ext [bb] w0 w') := fun s hs w' hx hb => by
            obtain ⟨f3, D3⟩ : ∃ f, RefR w' rd { A with B := (keepI A.B picks i).set i (s, []) } role bb cb f := ⟨_, D2.fix hi2 (by rw [← hs]; exact kept_len D.wf (List.mem_of_getElem? hp) _) hx hb⟩
            rw [← hs, keepI_step hp hpn] at D3
            exact ⟨by omega, ⟨f3, D3⟩, hx2.trans hx⟩
          refine W_skip (at_then ?_)
          refine W_rseq ?_
          refine op_assign rfl (.int _ _) rfl ?_
          refine op_nil (at_then ?_)
          refine W_seq ?_
          refine W_rseq ?_
          refine op_move rfl (.int _ _) rfl ?_
          refine op_move rfl (.slice _ _ _) rfl ?_
          refine op_len rfl el_45 rfl ?_
          refine op_lss rfl rfl rfl ?_
          refine op_nil (at_then ?_)
          refine W_cond _ rfl ?_ ?_
          · intro h4
            replace h4 := dec_t h4
            obtain ⟨x, hx⟩ := get_some (l := picks) (i := cntL (A.B.take i)) (by omega)
            have hdr : picks.drop (cntL (A.B.take i)) = x :: picks.drop (cntL (A.B.take i) + 1) := drop_cons hx
            have hx64 := hi64 x (List.mem_of_getElem? hx)
            have hpk : pickN p (picks.drop (cntL (A.B.take i))) ≤ p.2.length := by rw [hdr]; exact Nat.lt_succ_iff.1 (Nat.mod_lt _ (by omega))
            refine W_region ?_
            refine op_move rfl (.slice _ _ _) rfl ?_
            refine op_move rfl (.int _ _) rfl ?_
            first | refine op_indexRd (hRb _ hx2) rfl el_45 sz_3 rfl rfl (by omega) (by omega) (by first | rfl | omega) ?_ | refine op_indexRd Rl rfl el_45 sz_3 rfl rfl (by omega) (by omega) (by first | rfl | omega) ?_ | refine op_indexAddr rfl el_45 sz_3 rfl rfl (by omega) (by omega) ?_
            first | refine op_ldb rfl ag_3 rfl H (by first | exact at0 | exact at1 | exact at2 | exact at3 | exact at4 | exact at5 | exact at6 | exact at7 | exact at8 | exact at9) rfl ?_ | refine op_ld rfl ag_3 rfl (hcell0) ?_ | refine op_ld rfl ag_3 rfl (hcell1) ?_ | refine op_ld rfl ag_3 rfl ((hRb _ hx2).one (f := fun x => .int .i64 x) hx) ?_
            refine op_max2 rfl rfl rfl ?_
            refine op_move rfl (.int _ _) rfl ?_
            refine op_add_i64 rfl rfl rfl (by omega) (by omega) ?_
            refine op_rem rfl rfl rfl (by omega) (by omega) ?_
            rw [pick_num p x (picks.drop (cntL (A.B.take i) + 1)), ← hdr]
            refine op_assign rfl (.int _ _) rfl ?_
            refine op_nil (at_then ?_)
            refine W_rseq ?_
            refine op_move rfl (.int _ _) rfl ?_
            refine op_add_i64 rfl rfl rfl (by omega) (by omega) ?_
            refine op_assign rfl (.int _ _) rfl ?_
            refine op_nil (at_then ?_)
            refine W_rseq ?_
            refine op_move rfl (.pointer _) rfl ?_
            refine op_nilCheck rfl rfl ?_
            refine op_fieldAddr rfl fo_96_0 rfl ?_
            first | refine op_ldb rfl ag_94 rfl H (by first | exact at0 | exact at1 | exact at2 | exact at3 | exact at4 | exact at5 | exact at6 | exact at7 | exact at8 | exact at9) rfl ?_ | refine op_ld rfl ag_94 rfl (hcell0) ?_ | refine op_ld rfl ag_94 rfl (hcell1) ?_ | refine op_ld rfl ag_94 rfl ((hRb _ hx2).one (f := fun x => .int .i64 x) hx) ?_
            refine op_move rfl (.int _ _) rfl ?_
            first | refine op_indexRd (hRb _ hx2) rfl el_94 sz_99 rfl rfl (by omega) (by omega) (by first | rfl | omega) ?_ | refine op_indexRd Rl rfl el_94 sz_99 rfl rfl (by omega) (by omega) (by first | rfl | omega) ?_ | refine op_indexAddr rfl el_94 sz_99 rfl rfl (by omega) (by omega) ?_
            refine op_fieldAddr rfl fo_99_0 rfl ?_
            first | refine op_ldb rfl ag_9 rfl H (by first | exact at0 | exact at1 | exact at2 | exact at3 | exact at4 | exact at5 | exact at6 | exact at7 | exact at8 | exact at9) rfl ?_ | refine op_ld rfl ag_9 rfl (hcell0) ?_ | refine op_ld rfl ag_9 rfl (hcell1) ?_ | refine op_ld rfl ag_9 rfl ((hRb _ hx2).one (f := fun x => .int .i64 x) hx) ?_
            refine op_assign rfl (.string _) rfl ?_
            refine op_nil (at_then ?_)
            refine W_seq ?_
            refine W_rseq ?_
            refine op_move rfl (.int _ _) rfl ?_
            refine op_gtr rfl rfl rfl ?_
            refine op_nil (at_then ?_)
            refine W_cond _ rfl ?_ ?_
            · intro h5
              replace h5 := dec_t h5
              obtain ⟨b, hb⟩ := get_some (l := p.2) (i := pickN p (picks.drop (cntL (A.B.take i))) - 1) (by omega)
              have hk : kept p (pickN p (picks.drop (cntL (A.B.take i)))) = b := by rw [kept, if_neg (by omega), List.getD_eq_getElem?_getD, hb]; rfl
              refine W_region ?_
              refine op_move rfl (.pointer _) rfl ?_
              refine op_nilCheck rfl rfl ?_
              refine op_fieldAddr rfl fo_96_0 rfl ?_
              first | refine op_ldb rfl ag_94 rfl H (by first | exact at0 | exact at1 | exact at2 | exact at3 | exact at4 | exact at5 | exact at6 | exact at7 | exact at8 | exact at9) rfl ?_ | refine op_ld rfl ag_94 rfl (hcell0) ?_ | refine op_ld rfl ag_94 rfl (hcell1) ?_ | refine op_ld rfl ag_94 rfl ((hRb _ hx2).one (f := fun x => .int .i64 x) hx) ?_ | refine op_ld rfl ag_94 rfl (Rl.one (f := str) hb) ?_
              refine op_move rfl (.int _ _) rfl ?_
              first | refine op_indexRd (hRb _ hx2) rfl el_94 sz_99 rfl rfl (by omega) (by omega) (by first | rfl | omega) ?_ | refine op_indexRd Rl rfl el_94 sz_99 rfl rfl (by omega) (by omega) (by first | rfl | omega) ?_ | refine op_indexAddr rfl el_94 sz_99 rfl rfl (by omega) (by omega) ?_
              refine op_fieldAddr rfl fo_99_1 rfl ?_
              first | refine op_ldb rfl ag_97 rfl H (by first | exact at0 | exact at1 | exact at2 | exact at3 | exact at4 | exact at5 | exact at6 | exact at7 | exact at8 | exact at9) rfl ?_ | refine op_ld rfl ag_97 rfl (hcell0) ?_ | refine op_ld rfl ag_97 rfl (hcell1) ?_ | refine op_ld rfl ag_97 rfl ((hRb _ hx2).one (f := fun x => .int .i64 x) hx) ?_ | refine op_ld rfl ag_97 rfl (Rl.one (f := str) hb) ?_
              refine op_move rfl (.int _ _) rfl ?_
              refine op_sub_i64 rfl rfl rfl (by omega) (by omega) ?_
              rw [show (((pickN p (picks.drop (cntL (A.B.take i))) : Nat) : Int) - 1) = ((pickN p (picks.drop (cntL (A.B.take i))) - 1 : Nat) : Int) by omega]
              first | refine op_indexRd (hRb _ hx2) rfl el_97 sz_9 rfl rfl (by omega) (by omega) (by first | rfl | omega) ?_ | refine op_indexRd Rl rfl el_97 sz_9 rfl rfl (by omega) (by omega) (by first | rfl | omega) ?_ | refine op_indexAddr rfl el_97 sz_9 rfl rfl (by omega) (by omega) ?_
              first | refine op_ldb rfl ag_9 rfl H (by first | exact at0 | exact at1 | exact at2 | exact at3 | exact at4 | exact at5 | exact at6 | exact at7 | exact at8 | exact at9) rfl ?_ | refine op_ld rfl ag_9 rfl (hcell0) ?_ | refine op_ld rfl ag_9 rfl (hcell1) ?_ | refine op_ld rfl ag_9 rfl ((hRb _ hx2).one (f := fun x => .int .i64 x) hx) ?_ | refine op_ld rfl ag_9 rfl (Rl.one (f := str) hb) ?_
              refine op_assign rfl (.string _) rfl ?_
              refine op_nil (at_then ?_)
              refine W_region ?_
              refine op_move rfl (.pointer _) rfl ?_
              refine op_nilCheck rfl rfl ?_
              refine op_fieldAddr rfl fo_96_0 rfl ?_
              first | refine op_ldb rfl ag_94 rfl H (by first | exact at0 | exact at1 | exact at2 | exact at3 | exact at4 | exact at5 | exact at6 | exact at7 | exact at8 | exact at9) rfl ?_ | refine op_ld rfl ag_94 rfl (hcell0) ?_ | refine op_ld rfl ag_94 rfl (hcell1) ?_ | refine op_ld rfl ag_94 rfl ((hRb _ hx2).one (f := fun x => .int .i64 x) hx) ?_ | refine op_ld rfl ag_94 rfl (Rl.one (f := str) hb) ?_
              refine op_move rfl (.int _ _) rfl ?_
              refine op_move rfl (.string _) rfl ?_
              refine op_buildS [str b, .slice none 0 0] rfl pl_99 zc_99 (by kernel_rfl) ?_
              first | refine op_indexRd (hRb _ hx2) rfl el_94 sz_99 rfl rfl (by omega) (by omega) (by first | rfl | omega) ?_ | refine op_indexRd Rl rfl el_94 sz_99 rfl rfl (by omega) (by omega) (by first | rfl | omega) ?_ | refine op_indexAddr rfl el_94 sz_99 rfl rfl (by omega) (by omega) ?_
              refine op_stbN (vs := [str b, .slice none 0 0]) rfl sz_99 rfl rfl rfl (one_pair _) (Ctx.start1 D2.hb) at0 (by omega) ?_
              rintro w H9
              refine op_nil (at_block (at_then ?_))
              refine W_region ?_
              refine op_move rfl (.int _ _) rfl ?_
              refine op_add_i64 rfl rfl rfl (by omega) (by omega) ?_
              refine op_assign rfl (.int _ _) rfl ?_
              refine op_nil (at_then ?_)
              exact ⟨i + 1, rfl, ⟨rfl, congrArg (Value.int .i64) (by rw [hcs]; omega), trivial⟩, fin b hk _ H9.ext (H9.get at0), by omega⟩
            · intro h5
              replace h5 := dec_f h5
              have hk : kept p (pickN p (picks.drop (cntL (A.B.take i)))) = p.1 := by rw [kept, if_pos (by omega)]
              refine W_skip (at_then ?_)
              refine W_region ?_
              refine op_move rfl (.pointer _) rfl ?_
              refine op_nilCheck rfl rfl ?_
              refine op_fieldAddr rfl fo_96_0 rfl ?_
              first | refine op_ldb rfl ag_94 rfl H (by first | exact at0 | exact at1 | exact at2 | exact at3 | exact at4 | exact at5 | exact at6 | exact at7 | exact at8 | exact at9) rfl ?_ | refine op_ld rfl ag_94 rfl (hcell0) ?_ | refine op_ld rfl ag_94 rfl (hcell1) ?_ | refine op_ld rfl ag_94 rfl ((hRb _ hx2).one (f := fun x => .int .i64 x) hx) ?_ | refine op_ld rfl ag_94 rfl (Rl.one (f := str) hb) ?_
              refine op_move rfl (.int _ _) rfl ?_
              refine op_move rfl (.string _) rfl ?_
              refine op_buildS [str p.1, .slice none 0 0] rfl pl_99 zc_99 (by kernel_rfl) ?_
              first | refine op_indexRd (hRb _ hx2) rfl el_94 sz_99 rfl rfl (by omega) (by omega) (by first | rfl | omega) ?_ | refine op_indexRd Rl rfl el_94 sz_99 rfl rfl (by omega) (by omega) (by first | rfl | omega) ?_ | refine op_indexAddr rfl el_94 sz_99 rfl rfl (by omega) (by omega) ?_
              refine op_stbN (vs := [str p.1, .slice none 0 0]) rfl sz_99 rfl rfl rfl (one_pair _) (Ctx.start1 D2.hb) at0 (by omega) ?_
              rintro w H9
              refine op_nil (at_block (at_then ?_))
              refine W_region ?_
              refine op_move rfl (.int _ _) rfl ?_
              refine op_add_i64 rfl rfl rfl (by omega) (by omega) ?_
              refine op_assign rfl (.int _ _) rfl ?_
              refine op_nil (at_then ?_)
              exact ⟨i + 1, rfl, ⟨rfl, congrArg (Value.int .i64) (by rw [hcs]; omega), trivial⟩, fin p.1 hk _ H9.ext (H9.get at0), by omega⟩
          · intro h4
            replace h4 := dec_f h4
            have hdr : picks.drop (cntL (A.B.take i)) = [] := List.drop_eq_nil_of_le (by omega)
            refine W_skip (at_then ?_)
            refine W_rseq ?_
            refine op_move rfl (.int _ _) rfl ?_
            refine op_add_i64 rfl rfl rfl (by omega) (by omega) ?_
            refine op_assign rfl (.int _ _) rfl ?_
            refine op_nil (at_then ?_)
            refine W_rseq ?_
            refine op_move rfl (.pointer _) rfl ?_
            refine op_nilCheck rfl rfl ?_
            refine op_fieldAddr rfl fo_96_0 rfl ?_
            first | refine op_ldb rfl ag_94 rfl H (by first | exact at0 | exact at1 | exact at2 | exact at3 | exact at4 | exact at5 | exact at6 | exact at7 | exact at8 | exact at9) rfl ?_ | refine op_ld rfl ag_94 rfl (hcell0) ?_ | refine op_ld rfl ag_94 rfl (hcell1) ?_ | refine op_ld rfl ag_94 rfl ((hRb _ hx2).one (f := fun x => .int .i64 x) hx) ?_ | refine op_ld rfl ag_94 rfl (Rl.one (f := str) hb) ?_
            refine op_move rfl (.int _ _) rfl ?_
            first | refine op_indexRd (hRb _ hx2) rfl el_94 sz_99 rfl rfl (by omega) (by omega) (by first | rfl | omega) ?_ | refine op_indexRd Rl rfl el_94 sz_99 rfl rfl (by omega) (by omega) (by first | rfl | omega) ?_ | refine op_indexAddr rfl el_94 sz_99 rfl rfl (by omega) (by omega) ?_
            refine op_fieldAddr rfl fo_99_0 rfl ?_
            first | refine op_ldb rfl ag_9 rfl H (by first | exact at0 | exact at1 | exact at2 | exact at3 | exact at4 | exact at5 | exact at6 | exact at7 | exact at8 | exact at9) rfl ?_ | refine op_ld rfl ag_9 rfl (hcell0) ?_ | refine op_ld rfl ag_9 rfl (hcell1) ?_ | refine op_ld rfl ag_9 rfl ((hRb _ hx2).one (f := fun x => .int .i64 x) hx) ?_ | refine op_ld rfl ag_9 rfl (Rl.one (f := str) hb) ?_
            refine op_assign rfl (.string _) rfl ?_
            refine op_nil (at_then ?_)
            refine W_seq ?_
            refine W_rseq ?_
            refine op_move rfl (.int _ _) rfl ?_
            refine op_gtr rfl rfl rfl ?_
            refine op_nil (at_then ?_)
            refine W_cond _ rfl ?_ ?_
            · intro h5
              replace h5 := dec_t h5
              exact absurd h5 (by omega)
            · intro h5
              replace h5 := dec_f h5
              have hk : kept p (pickN p (picks.drop (cntL (A.B.take i)))) = p.1 := by rw [hdr]; rfl
              refine W_skip (at_then ?_)
              refine W_region ?_
              refine op_move rfl (.pointer _) rfl ?_
              refine op_nilCheck rfl rfl ?_
              refine op_fieldAddr rfl fo_96_0 rfl ?_
              first | refine op_ldb rfl ag_94 rfl H (by first | exact at0 | exact at1 | exact at2 | exact at3 | exact at4 | exact at5 | exact at6 | exact at7 | exact at8 | exact at9) rfl ?_ | refine op_ld rfl ag_94 rfl (hcell0) ?_ | refine op_ld rfl ag_94 rfl (hcell1) ?_ | refine op_ld rfl ag_94 rfl ((hRb _ hx2).one (f := fun x => .int .i64 x) hx) ?_ | refine op_ld rfl ag_94 rfl (Rl.one (f := str) hb) ?_
              refine op_move rfl (.int _ _) rfl ?_
              refine op_move rfl (.string _) rfl ?_
              refine op_buildS [str p.1, .slice none 0 0] rfl pl_99 zc_99 (by kernel_rfl) ?_
              first | refine op_indexRd (hRb _ hx2) rfl el_94 sz_99 rfl rfl (by omega) (by omega) (by first | rfl | omega) ?_ | refine op_indexRd Rl rfl el_94 sz_99 rfl rfl (by omega) (by omega) (by first | rfl | omega) ?_ | refine op_indexAddr rfl el_94 sz_99 rfl rfl (by omega) (by omega) ?_
              refine op_stbN (vs := [str p.1, .slice none 0 0]) rfl sz_99 rfl rfl rfl (one_pair _) (Ctx.start1 D2.hb) at0 (by omega) ?_
              rintro w H9
              refine op_nil (at_block (at_then ?_))
              refine W_region ?_
              refine op_move rfl (.int _ _) rfl ?_
              refine op_add_i64 rfl rfl rfl (by omega) (by omega) ?_
              refine op_assign rfl (.int _ _) rfl ?_
              refine op_nil (at_then ?_)
              exact ⟨i + 1, rfl, ⟨rfl, congrArg (Value.int .i64) (by rw [hcs]; omega), trivial⟩, fin p.1 hk _ H9.ext (H9.get at0), by omega⟩
      · intro h2
        replace h2 := dec_f h2
        have h2' : ¬ (i : Int) < ((keepI A.B picks i).length : Int) := h2
        rw [keepI_len] at h2'
        have hin : i = A.B.length := by omega
        subst hin
        have hon : onD A picks = ⟨keepI A.B picks A.B.length, -1, true⟩ := by rw [onD, ho, keepI_all]; rfl
        refine W_exit (exit_then (exit_then (exit_here (at_then ?_))))
        refine W_rseq ?_
        refine op_move rfl (.pointer _) rfl ?_
        refine op_nilCheck rfl rfl ?_
        refine op_fieldAddr rfl fo_96_2 rfl ?_
        refine op_stb (.bool _) rfl sz_4 rfl rfl rfl H (by first | exact at0 | exact at1 | exact at2 | exact at3 | exact at4 | exact at5 | exact at6 | exact at7 | exact at8 | exact at9) (by first | decide | (simp; done) | (simp; omega)) ?_
        rintro w H
        refine op_nil (at_then ?_)
        refine W_rseq ?_
        refine op_move rfl (.pointer _) rfl ?_
        refine op_nilCheck rfl rfl ?_
        refine op_fieldAddr rfl fo_96_1 rfl ?_
        refine op_stb (.int _ _) rfl sz_3 rfl rfl rfl H (by first | exact at0 | exact at1 | exact at2 | exact at3 | exact at4 | exact at5 | exact at6 | exact at7 | exact at8 | exact at9) (by first | decide | (simp; done) | (simp; omega)) ?_
        rintro w H
        refine op_nil (at_then ?_)
        refine W_rseq ?_
        refine op_assign rfl (.int _ _) rfl ?_
        refine op_nil (at_then ?_)
        refine W_ret (leave1 (v := (.int _ _)) rfl rfl rfl ?_)
        have D4 := D2.turn (A' := onD A picks) H.ext (by rw [hon]; exact H.get at0) (by rw [hon]) (on_wf D.wf picks)
        refine ⟨by rw [onE, ho]; rfl, ⟨role, bb, cb, full', D4, hF⟩, .of (S := [rd, bb]) ((hx2.mono (by simp)).trans (H.ext.mono (by simp))) fun x h => ?_⟩
        simp only [List.mem_cons, List.not_mem_nil, or_false] at h
        rcases h with rfl | rfl
        · exact hF1
        · exact hF2

end Go.Proofs.YtkmbcpgnafmnpaaDoor

/- The reference's device is made; its roots. -/
namespace Go.Proofs.YtkmbcpgnafmnpaaDoor
open Go.GV
attribute [local irreducible] Wops W Wq Wt

theorem zeros_len : zeros.length = 512 := List.length_replicate
def cellsN (i : Nat) : List Value := (List.replicate i [str zeros, Value.slice none 0 0]).flatten
theorem cellsN_succ (i : Nat) : cellsN (i + 1) = cellsN i ++ [str zeros, .slice none 0 0] := by
  unfold cellsN
  rw [List.replicate_succ', List.flatten_append]
  simp
theorem cellsN_get {n i : Nat} (h : i < n) : (cellsN n)[2 * i]? = some (str zeros) ∧ (cellsN n)[2 * i + 1]? = some (.slice none 0 0) := by
  have hlen : ∀ n, (cellsN n).length = 2 * n := fun n => by
    induction n with
    | zero => rfl
    | succ n ih => rw [cellsN_succ, List.length_append, ih]; simp; omega
  induction n with
  | zero => omega
  | succ n ih =>
    rw [cellsN_succ]
    by_cases hi : i < n
    · rw [List.getElem?_append_left (by rw [hlen]; omega), List.getElem?_append_left (by rw [hlen]; omega)]
      exact ih hi
    · have : i = n := by omega
      subst this
      rw [List.getElem?_append_right (by rw [hlen]; omega), List.getElem?_append_right (by rw [hlen]; omega), hlen]
      rw [show 2 * i - 2 * i = 0 by omega, show 2 * i + 1 - 2 * i = 1 by omega]
      exact ⟨rfl, rfl⟩

set_option maxRecDepth 20000 in
set_option maxHeartbeats 1000000 in
theorem rnew_ok (n : Int) (w : World) :
    Ret Tryd.prog 18 #[.int .i64 n] w fun v w' => Ext [] w w' ∧ ((newE n = 1 ∧ v = .tuple #[.pointer none, .int .i64 1]) ∨
      (newE n = 0 ∧ 1 ≤ n ∧ n ≤ 4096 ∧ ∃ rd, v = .tuple #[ptr rd, .int .i64 0] ∧ RefAt w' rd (newD n.toNat) fun x => w.heap.size ≤ x ∧ x < w'.heap.size)) := by
  obtain ⟨w0, rfl⟩ : ∃ w0, w0 = w := ⟨_, rfl⟩
  have H := Ctx.start w0 []
  refine ret_of_W (fn := Tryd.f18) Tryd.func18 rfl [.int .i64 n] rfl (by kernel_rfl) ?_
  refine W_rseq ?_
  refine op_assign rfl (.pointer _) rfl ?_
  refine op_assign rfl (.int _ _) rfl ?_
  refine op_nil (at_then ?_)
  refine W_seq ?_
  refine W_rseq (Wops_join (α := Unit) 8064 (fun _ => [(12, .bool (decide (n < 1) || decide (4096 < n)))]) (fun _ w' => Ctx w0 [] w' []) rfl ?_ ?_)
  · refine op_move rfl (.int _ _) rfl ?_
    refine op_lss rfl rfl rfl ?_
    refine op_move rfl (.bool _) rfl ?_
    refine Wops_split 9 rfl ?_ ?_
    · intro h1
      replace h1 := dec_t h1
      refine op_skip rfl ?_
      refine op_skip rfl ?_
      refine op_pick1 rfl rfl (.bool _) rfl ?_
      refine op_nil ?_
      exact ⟨rfl, (), rfl, ⟨congrArg Value.bool (by rw [Bool.eq_iff_iff]; simp_all; try omega), trivial⟩, H⟩
    · intro h2
      replace h2 := dec_f h2
      refine op_move rfl (.int _ _) rfl ?_
      refine op_gtr rfl rfl rfl ?_
      refine op_pick0 rfl rfl (.bool _) rfl ?_
      refine op_nil ?_
      exact ⟨rfl, (), rfl, ⟨congrArg Value.bool (by rw [Bool.eq_iff_iff]; simp_all; try omega), trivial⟩, H⟩
  rintro - j12 w H
  refine W_cond _ rfl ?_ ?_
  · intro h1
    refine W_rseq ?_
    refine op_assign rfl (.pointer _) rfl ?_
    refine op_assign rfl (.int _ _) rfl ?_
    refine op_nil (at_then ?_)
    refine W_ret (ret_then (leave2 (v1 := (.pointer _)) (v2 := (.int _ _)) rfl rfl rfl rfl ?_))
    exact ⟨H.ext, .inl ⟨by rw [newE, h1]; rfl, rfl⟩⟩
  · intro h1
    have h2 : 1 ≤ n ∧ n ≤ 4096 := by simp only [Bool.or_eq_false_iff, decide_eq_false_iff_not] at h1; omega
    obtain ⟨m, rfl⟩ : ∃ m : Nat, n = m := ⟨n.toNat, by omega⟩
    refine W_skip (at_then ?_)
    refine W_rseq ?_
    refine op_buildS [.slice none 0 0, .int .i64 (-1), .bool true] rfl pl_96 zc_96 (by kernel_rfl) ?_
    refine op_box rfl _ (.agg _) rfl rfl H ?_
    rintro b14 w - H
    refine op_assign rfl (.pointer _) rfl ?_
    refine op_nil (at_then ?_)
    refine W_rseq ?_
    refine op_make rfl el_23 sz_5 by_5 zc_5 rfl rfl (by omega) (by omega) (by omega) (by omega) H ?_
    rintro b15 w - H
    have Rz : Rd w (some ⟨b15, 0, none⟩) 1 B8 zeros := rd_blB (t := 5) (by have := H.get at0; rw [show (zeros.map bv) = List.replicate 512 (Value.int .u8 0) from by rw [zeros, List.map_replicate]; rfl]; exact this)
    refine op_back rfl el_23 un_5 un_9 (show _ = Value.slice (some ⟨b15, 0, none⟩) zeros.length 512 from by rw [zeros_len]; rfl) Rz ?_
    replace H := H.tail
    refine op_assign rfl (.string _) rfl ?_
    refine op_nil (at_then ?_)
    refine W_seq ?_
    refine W_rseq ?_
    refine op_assign rfl (.int _ _) rfl ?_
    refine op_nil (at_then ?_)
    refine W_block ?_
    refine W_loop 8589803584 (α := Nat × Option Addr × Nat × List Value) (fun x => [(6, .int .i64 x.1)]) (fun x w' => x.1 ≤ m ∧ Ctx w0 [] w' ([(b14, Bl TR [.slice x.2.1 x.1 x.2.2.1, .int .i64 (-1), .bool true])] ++ ent x.2.1 99 x.2.2.2) ∧ OS x.2.1 x.1 x.2.2.1 2 x.2.2.2 (cellsN x.1)) (fun x => m - x.1) (0, none, 0, []) rfl ?_ ?_ ?_
    · exact ⟨rfl, trivial⟩
    · exact ⟨Nat.zero_le _, H, OS.nil⟩
    · rintro ⟨i, a5, c5, full5⟩ j w ⟨hi, H, O⟩; dsimp only at hi H O; dsimp only
      refine W_seq ?_
      refine W_rseq ?_
      refine op_move rfl (.int _ _) rfl ?_
      refine op_move rfl (.int _ _) rfl ?_
      refine op_lss rfl rfl rfl ?_
      refine op_nil (at_then ?_)
      refine W_cond _ rfl ?_ ?_
      · intro h3
        replace h3 := dec_t h3
        refine W_skip (at_then ?_)
        refine W_seq ?_
        refine W_block ?_
        refine W_region ?_
        refine op_move rfl (.pointer _) rfl ?_
        refine op_move rfl (.pointer _) rfl ?_
        refine op_nilCheck rfl rfl ?_
        refine op_fieldAddr rfl fo_96_0 rfl ?_
        refine op_ldb rfl ag_94 rfl H (by first | exact at0 | exact at1 | exact at2 | exact at3 | exact at4 | exact at5 | exact at6 | exact at7 | exact at8 | exact at9) rfl ?_
        refine op_move rfl (.string _) rfl ?_
        refine op_buildS [str zeros, .slice none 0 0] rfl pl_99 zc_99 (by kernel_rfl) ?_
        refine op_buildL [str zeros, .slice none 0 0] rfl el_94 sz_99 zc_99 (by decide) (by decide) (by kernel_rfl) H ?_
        rintro b29 w - H
        refine op_appendb (L := [(b14, Bl TR [.slice a5 i c5, .int .i64 (-1), .bool true])]) rfl el_94 el_94 sz_99 by_99 zc_99 rfl (by decide) rfl rfl H O rfl (one_pair _) (by omega) ?_
        rintro a9 c9 full9 w H O
        refine op_nilCheck rfl rfl ?_
        refine op_fieldAddr rfl fo_96_0 rfl ?_
        refine op_stb (.slice _ _ _) rfl sz_94 rfl rfl rfl H (by first | exact at0 | exact at1 | exact at2 | exact at3 | exact at4 | exact at5 | exact at6 | exact at7 | exact at8 | exact at9) (by first | decide | (simp; done) | (simp; omega)) ?_
        rintro w H
        refine op_nil (at_block (at_then ?_))
        refine W_region ?_
        refine op_move rfl (.int _ _) rfl ?_
        refine op_add_i64 rfl rfl rfl (by omega) (by omega) ?_
        refine op_assign rfl (.int _ _) rfl ?_
        refine op_nil (at_then ?_)
        exact ⟨(i + 1, a9, c9, full9), rfl, ⟨rfl, trivial⟩, ⟨by omega, H, by rw [cellsN_succ]; exact O⟩, by dsimp only; omega⟩
      · intro h3
        replace h3 := dec_f h3
        have him : i = m := by omega
        subst him
        obtain ⟨bb, rfl⟩ := O.form (by omega)
        refine W_exit (exit_then (exit_then (exit_here (at_then ?_))))
        refine W_rseq ?_
        refine op_move rfl (.pointer _) rfl ?_
        refine op_assign rfl (.pointer _) rfl ?_
        refine op_assign rfl (.int _ _) rfl ?_
        refine op_nil (at_then ?_)
        refine W_ret (leave2 (v1 := (.pointer _)) (v2 := (.int _ _)) rfl rfl rfl rfl ?_)
        have hin : (bb, Bl TB full5) ∈ [(b14, Bl TR [.slice (some ⟨bb, 0, none⟩) i c5, .int .i64 (-1), .bool true])] ++ ent (some ⟨bb, 0, none⟩) 99 full5 := List.mem_append_right _ (by rw [mem_ent rfl]; exact List.mem_singleton.2 rfl)
        have hne : b14 ≠ bb := H.ne (i := 0) (j := 1) at0 at1 (by decide)
        have o1 : w0.heap.size ≤ b14 := (H.own _ (List.mem_cons_self ..)).elim (fun h => by cases h) id
        have o2 : w0.heap.size ≤ bb := (H.own _ hin).elim (fun h => by cases h) id
        have hr : ∀ x, (if x = b14 then 1 else if x = bb then 2 else 0) ≠ 0 → w0.heap.size ≤ x ∧ x < w.heap.size := by
          intro x hx
          by_cases h14 : x = b14
          · rw [h14]; exact ⟨o1, H.lt at0⟩
          · by_cases h11 : x = bb
            · rw [h11]; exact ⟨o2, heap_lt (H.blk _ hin)⟩
            · rw [if_neg h14, if_neg h11] at hx; exact absurd rfl hx
        have hln : (newD i).B.length = i := List.length_replicate
        refine ⟨H.ext, .inr ⟨by rw [newE, h1]; rfl, h2.1, h2.2, b14, rfl, fun x => if x = b14 then 1 else if x = bb then 2 else 0, bb, c5, full5, ⟨fun x h => (hr x h).2, if_pos rfl, ?_, ?_, H.blk _ hin, O.len, by rw [show ((i : Int)).toNat = i from rfl, hln]; exact O.le, fun k p hp => ?_, new_wf (by omega) (by omega)⟩, hr⟩⟩
        · rw [if_neg (Ne.symm hne), if_pos rfl]
        · rw [show ((i : Int)).toNat = i from rfl, hln]; exact H.get at0
        · obtain ⟨hk, rfl⟩ := List.getElem?_eq_some_iff.1 hp
          have hk' : k < i := by rw [show ((i : Int)).toNat = i from rfl, hln] at hk; exact hk
          have hpe : (newD ((i : Int)).toNat).B[k] = (zeros, []) := List.getElem_replicate _
          rw [hpe]
          obtain ⟨g0, g1⟩ := cellsN_get hk'
          have hsp := O.split
          have hll := O.llen
          exact ⟨by rw [hsp, List.getElem?_append_left (by omega)]; exact g0, .slice none 0 0, by rw [hsp, List.getElem?_append_left (by omega)]; exact g1, none, 0, 0, [], rfl, OS.nil, by simp [ent]⟩

end Go.Proofs.YtkmbcpgnafmnpaaDoor

/- The reference's roots are saved and loaded. -/
namespace Go.Proofs.YtkmbcpgnafmnpaaDoor
open Go.GV
attribute [local irreducible] Wops W Wq Wt

def rootB (gen : Nat) (body : Byt) : Byt := sealB 1 (putN gen 8 ++ body)
def slot (gen : Nat) : Int := ((gen % 2 : Nat) : Int)
def saveE (A : Dev) (gen : Nat) (body : Byt) : Int :=
  bif decide (gen < 1) || (decide (4611686018427387904 < gen) || decide (A.B.length < 2)) then 1 else bif decide (480 < body.length) then 6 else
    bif decide (writeE A (slot gen) (rootB gen body) = 0) then flushE (writeD A (slot gen) (rootB gen body)) else writeE A (slot gen) (rootB gen body)
def saveD (A : Dev) (gen : Nat) (body : Byt) : Dev :=
  bif decide (gen < 1) || (decide (4611686018427387904 < gen) || decide (A.B.length < 2)) then A else bif decide (480 < body.length) then A else
    bif decide (writeE A (slot gen) (rootB gen body) = 0) then flushD (writeD A (slot gen) (rootB gen body)) else writeD A (slot gen) (rootB gen body)
def at' (A : Dev) (k : Nat) : Byt := stands (A.B.getD k (zeros, []))
def loadE (A : Dev) : Int := bif A.on then (bif decide (A.B.length < 2) then 1 else bif decide (rootG 0 (at' A 0) = 0) && decide (rootG 1 (at' A 1) = 0) then 4 else 0) else 8
def loadG (A : Dev) : Nat := bif decide (loadE A = 0) then (bif decide (rootG 1 (at' A 1) < rootG 0 (at' A 0)) then rootG 0 (at' A 0) else rootG 1 (at' A 1)) else 0
def loadL (A : Dev) : Byt := bif decide (loadE A = 0) then (bif decide (rootG 1 (at' A 1) < rootG 0 (at' A 0)) then rootL 0 (at' A 0) else rootL 1 (at' A 1)) else []

theorem save_wf {A : Dev} (h : Wf A) (gen : Nat) (body : Byt) : Wf (saveD A gen body) := by
  unfold saveD
  cases decide (gen < 1) || (decide (4611686018427387904 < gen) || decide (A.B.length < 2))
  · cases decide (480 < body.length)
    · cases decide (writeE A (slot gen) (rootB gen body) = 0)
      · exact write_wf h _ _
      · exact flush_wf (write_wf h _ _)
    · exact h
  · exact h
theorem save_few {A : Dev} {m : Nat} (h : Few A m) (gen : Nat) (body : Byt) : Few (saveD A gen body) (m + 1) := by
  unfold saveD
  cases decide (gen < 1) || (decide (4611686018427387904 < gen) || decide (A.B.length < 2))
  · cases decide (480 < body.length)
    · cases decide (writeE A (slot gen) (rootB gen body) = 0)
      · exact write_few h _ _
      · exact flush_few (write_few h _ _)
    · exact h.mono (by omega)
  · exact h.mono (by omega)

theorem grow_grow {F : Nat → Prop} {a b c : World} (h1 : a.heap.size ≤ b.heap.size) (h2 : b.heap.size ≤ c.heap.size) : ∀ x, grow (grow F a b) b c x → grow F a c x := by
  rintro x ((h | h) | h)
  · exact .inl h
  · exact .inr ⟨h.1, by omega⟩
  · exact .inr ⟨by omega, h.2⟩
theorem grow_old {F : Nat → Prop} {a b c : World} (h1 : a.heap.size ≤ b.heap.size) : ∀ x, grow F b c x → grow F a c x := by
  rintro x (h | h)
  · exact .inl h
  · exact .inr ⟨by omega, h.2⟩

set_option maxRecDepth 20000 in
set_option maxHeartbeats 1000000 in
theorem rsave_ok {w : World} {rd : Nat} {A : Dev} {F : Nat → Prop} (gen : Nat) (hgen : gen < 18446744073709551616) (a : Option Addr) (c n : Nat) (body : Byt) (R : Rd w a 1 B8 body) (hn : body.length = n) (hm : n ≤ 140737488351231) (hlt : ∀ x, F x → x < w.heap.size)
    {mx : Nat} (hfew : Few A mx) (hmx : mx < 1000000000000) (DA : RefAt w rd A F) :
    Ret Tryd.prog 19 #[ptr rd, .int .u64 (gen : Int), .slice a n c] w fun v w' => v = .int .i64 (saveE A gen body) ∧ RefAt w' rd (saveD A gen body) (grow F w w') ∧ Turn F w w' := by
  subst hn
  obtain ⟨w0, rfl⟩ : ∃ w0, w0 = w := ⟨_, rfl⟩
  obtain ⟨role, bb, cb, full, D, hF⟩ := DA
  have H := Ctx.start1 D.hd
  refine ret_of_W (fn := Tryd.f19) Tryd.func19 rfl [.pointer (some ⟨rd, 0, none⟩), .int .u64 (gen : Int), .slice a body.length c] rfl (by kernel_rfl) ?_
  refine W_rseq ?_
  refine op_assign rfl (.int _ _) rfl ?_
  refine op_nil (at_then ?_)
  refine W_seq ?_
  refine W_rseq (Wops_join (α := Unit) 16776192 (fun _ => [(23, .bool (decide (gen < 1) || (decide (4611686018427387904 < gen) || decide (A.B.length < 2))))]) (fun _ w' => w0 = w') rfl ?_ ?_)
  · refine op_move rfl (.int _ _) rfl ?_
    refine op_lss rfl rfl rfl ?_
    refine op_move rfl (.bool _) rfl ?_
    refine Wops_split 12 rfl ?_ ?_
    · intro h1
      replace h1 := dec_t h1
      refine op_skip rfl ?_
      refine op_skip rfl ?_
      refine op_pick1 rfl rfl (.bool _) rfl ?_
      refine op_move rfl (.bool _) rfl ?_
      refine op_skip rfl ?_
      refine op_skip rfl ?_
      refine op_skip rfl ?_
      refine op_skip rfl ?_
      refine op_skip rfl ?_
      refine op_skip rfl ?_
      refine op_pick1 rfl rfl (.bool _) rfl ?_
      refine op_nil ?_
      exact ⟨rfl, (), rfl, ⟨congrArg Value.bool (by rw [Bool.eq_iff_iff]; simp_all; try omega), trivial⟩, rfl⟩
    · intro h2
      replace h2 := dec_f h2
      refine op_move rfl (.int _ _) rfl ?_
      refine op_gtr rfl rfl rfl ?_
      refine op_pick0 rfl rfl (.bool _) rfl ?_
      refine op_move rfl (.bool _) rfl ?_
      refine Wops_split 16 rfl ?_ ?_
      · intro h3
        replace h3 := dec_t h3
        refine op_skip rfl ?_
        refine op_skip rfl ?_
        refine op_skip rfl ?_
        refine op_skip rfl ?_
        refine op_skip rfl ?_
        refine op_skip rfl ?_
        refine op_pick1 rfl rfl (.bool _) rfl ?_
        refine op_nil ?_
        exact ⟨rfl, (), rfl, ⟨congrArg Value.bool (by rw [Bool.eq_iff_iff]; simp_all; try omega), trivial⟩, rfl⟩
      · intro h4
        replace h4 := dec_f h4
        refine op_move rfl (.pointer _) rfl ?_
        refine op_nilCheck rfl rfl ?_
        refine op_fieldAddr rfl fo_96_0 rfl ?_
        refine op_ldb rfl ag_94 rfl H (by first | exact at0 | exact at1 | exact at2 | exact at3 | exact at4 | exact at5 | exact at6 | exact at7 | exact at8 | exact at9) rfl ?_
        refine op_len rfl el_94 rfl ?_
        refine op_lss rfl rfl rfl ?_
        refine op_pick0 rfl rfl (.bool _) rfl ?_
        refine op_nil ?_
        exact ⟨rfl, (), rfl, ⟨congrArg Value.bool (by rw [Bool.eq_iff_iff]; simp_all; try omega), trivial⟩, rfl⟩
  rintro - j23 w rfl
  refine W_cond _ rfl ?_ ?_
  · intro h1
    refine W_rseq ?_
    refine op_assign rfl (.int _ _) rfl ?_
    refine op_nil (at_then ?_)
    refine W_ret (ret_then (leave1 (v := (.int _ _)) rfl rfl rfl ?_))
    exact ⟨by rw [saveE, h1]; rfl, by rw [saveD, h1]; exact ⟨role, bb, cb, full, D, fun x h => .inl (hF x h)⟩, .of0 (.refl _ _)⟩
  · intro h1
    refine W_skip (at_then ?_)
    refine W_seq ?_
    refine W_rseq ?_
    refine op_move rfl (.slice _ _ _) rfl ?_
    refine op_len rfl el_23 rfl ?_
    refine op_gtr rfl rfl rfl ?_
    refine op_nil (at_then ?_)
    refine W_cond _ rfl ?_ ?_
    · intro h2
      replace h2 := dec_t h2
      have h2' : decide (480 < body.length) = true := decide_eq_true (by omega)
      refine W_rseq ?_
      refine op_assign rfl (.int _ _) rfl ?_
      refine op_nil (at_then ?_)
      refine W_ret (ret_then (leave1 (v := (.int _ _)) rfl rfl rfl ?_))
      exact ⟨by rw [saveE, h1, h2']; rfl, by rw [saveD, h1, h2']; exact ⟨role, bb, cb, full, D, fun x h => .inl (hF x h)⟩, .of0 (.refl _ _)⟩
    · intro h2
      replace h2 := dec_f h2
      have h2' : decide (480 < body.length) = false := decide_eq_false (by omega)
      have hlr : (putN gen 8 ++ body).length ≤ 505 := by rw [List.length_append, putN_len]; omega
      have hse : sealE 1 (putN gen 8 ++ body) = 0 := by
        rw [sealE, decide_eq_false (show ¬ (1 : UInt8).toNat = 0 by decide), decide_eq_false (by omega)]; rfl
      have hb5 : (rootB gen body).length = 512 := seal_len hlr
      refine W_skip (at_then ?_)
      refine W_rseq ?_
      refine op_move rfl (.int _ _) rfl ?_
      refine op_move rfl (.slice _ _ _) rfl ?_
      refine op_call rfl ca_57 (root_ok gen a c body.length body _ R rfl hm hgen) rfl ?_
      rintro v w F30
      obtain ⟨a30, c30, rfl, R30, hc30⟩ := Fresh.rdB F30
      have hx30 := F30.ext
      refine op_call rfl ca_56 (seal4_ok 1 a30 c30 _ _ _ R30 rfl (by omega)) rfl ?_
      rintro v w P31
      rw [hse] at P31
      obtain ⟨s31, rfl, F31⟩ : ∃ s, v = .tuple #[s, .int .i64 0] ∧ Fresh _ w 5 1 s ((rootB gen body).map bv) := (P31.elim (fun h => absurd rfl h.1) fun h => h.2)
      have hx := hx30.trans F31.ext
      obtain ⟨a31, c31, rfl, R31, hc31, hn31, -⟩ := Fresh.new512 F31 hb5
      have hn31' : w0.heap.size ≤ (adr a31).block := Nat.le_trans hx30.size hn31
      have DA1 : RefAt w rd A F := RefAt.keep0 ⟨role, bb, cb, full, D, hF⟩ hx
      refine op_move rfl (.tuple _) rfl ?_
      refine op_extract rfl rfl rfl ?_
      refine op_extract rfl rfl rfl ?_
      refine op_assign rfl (.slice _ _ _) rfl ?_
      refine op_assign rfl (.int _ _) rfl ?_
      refine op_nil (at_then ?_)
      refine W_rseq ?_
      refine op_move rfl (.pointer _) rfl ?_
      refine op_move rfl (.int _ _) rfl ?_
      refine op_rem rfl rfl rfl (by omega) (by omega) ?_
      refine op_conv_i64 rfl rfl un_22 un_3 (by omega) (by omega) ?_
      refine op_move rfl (.slice _ _ _) rfl ?_
      refine op_call rfl ca_27 (rwrite_ok (slot gen) a31 c31 512 (rootB gen body) R31 hb5 (.inr fun h => by have := hlt _ h; omega) hfew (by omega) DA1) rfl ?_
      rintro v w9 ⟨rfl, DA2, hT⟩
      refine op_assign rfl (.int _ _) rfl ?_
      refine op_nil (at_then ?_)
      refine W_seq ?_
      refine W_rseq ?_
      refine op_move rfl (.int _ _) rfl ?_
      refine op_neq rfl rfl rfl ?_
      refine op_nil (at_then ?_)
      refine W_cond _ rfl ?_ ?_
      · intro h3
        replace h3 := ndec_t h3
        have h3' : decide (writeE A (slot gen) (rootB gen body) = 0) = false := decide_eq_false h3
        refine W_rseq ?_
        refine op_move rfl (.int _ _) rfl ?_
        refine op_assign rfl (.int _ _) rfl ?_
        refine op_nil (at_then ?_)
        refine W_ret (ret_then (leave1 (v := (.int _ _)) rfl rfl rfl ?_))
        exact ⟨by rw [saveE, h1, h2', h3']; rfl, by rw [saveD, h1, h2', h3']; exact DA2.mono (grow_old hx.size), Turn.trans (.of0 hx) hT (fun x h => .inl h)⟩
      · intro h3
        replace h3 := ndec_f h3
        have h3' : decide (writeE A (slot gen) (rootB gen body) = 0) = true := decide_eq_true h3
        refine W_skip (at_then ?_)
        refine W_rseq ?_
        refine op_move rfl (.pointer _) rfl ?_
        refine op_call rfl ca_58 (rflush_ok (write_few hfew _ _) (by omega) DA2) rfl ?_
        rintro v w10 ⟨rfl, DA3, hT3⟩
        refine op_assign rfl (.int _ _) rfl ?_
        refine op_nil (at_then ?_)
        refine W_ret (leave1 (v := (.int _ _)) rfl rfl rfl ?_)
        have hs1 := hx.size; have hs2 := hT.size; have hs3 := hT3.size
        have hg : ∀ x, grow F w w9 x → grow F w0 w10 x := fun x h => h.elim .inl fun h => .inr ⟨by omega, by omega⟩
        refine ⟨by rw [saveE, h1, h2', h3']; rfl, by rw [saveD, h1, h2', h3']; exact DA3.mono hg, Turn.trans (Turn.trans (.of0 hx) hT fun x h => .inl h) hT3 fun x h => ?_⟩
        · rcases h with h | h
          · exact .inl h
          · exact .inr (by omega)

set_option maxRecDepth 20000 in
set_option maxHeartbeats 1000000 in
theorem rload_ok {w : World} {rd : Nat} {A : Dev} {F : Nat → Prop} {mx : Nat} (hfew : Few A mx) (hmx : mx < 1000000000000) (DA : RefAt w rd A F) :
    Ret Tryd.prog 28 #[ptr rd] w fun v w' => ∃ a c, v = .tuple #[.int .u64 (loadG A : Int), .slice a (loadL A).length c, .int .i64 (loadE A)] ∧ Rd w' a 1 B8 (loadL A) ∧ Ext [] w w' := by
  obtain ⟨w0, rfl⟩ : ∃ w0, w0 = w := ⟨_, rfl⟩
  obtain ⟨role, bb, cb, full, D, hF⟩ := DA
  have H := Ctx.start w0 []
  have hcap := D.cap
  refine ret_of_W (fn := Tryd.f28) Tryd.func28 rfl [.pointer (some ⟨rd, 0, none⟩)] rfl (by kernel_rfl) ?_
  refine W_rseq ?_
  refine op_assign rfl (.int _ _) rfl ?_
  refine op_assign rfl (.slice _ _ _) rfl ?_
  refine op_assign rfl (.int _ _) rfl ?_
  refine op_nil (at_then ?_)
  refine W_seq ?_
  refine W_rseq ?_
  refine op_move rfl (.pointer _) rfl ?_
  refine op_nilCheck rfl rfl ?_
  refine op_fieldAddr rfl fo_96_2 rfl ?_
  first | refine op_ldb rfl ag_4 rfl H (by first | exact at0 | exact at1 | exact at2 | exact at3 | exact at4 | exact at5 | exact at6 | exact at7 | exact at8 | exact at9) rfl ?_ | refine op_ld rfl ag_4 rfl (H.old0 (cell_bl D.hd _)) ?_
  refine op_not rfl rfl ?_
  refine op_nil (at_then ?_)
  refine W_cond _ rfl ?_ ?_
  · intro h1
    replace h1 := nvar_t h1
    have ho : A.on = false := by simpa using h1
    have he : loadE A = 8 := by rw [loadE, ho]; rfl
    refine W_rseq ?_
    refine op_assign rfl (.int _ _) rfl ?_
    refine op_assign rfl (.slice _ _ _) rfl ?_
    refine op_assign rfl (.int _ _) rfl ?_
    refine op_nil (at_then ?_)
    refine W_ret (ret_then (leave3 (v1 := (.int _ _)) (v2 := (.slice _ _ _)) (v3 := (.int _ _)) rfl rfl rfl rfl rfl ?_))
    exact ⟨none, 0, by rw [loadG, loadL, he]; rfl, by rw [loadL, he]; exact Rd.nil, H.ext⟩
  · intro h1
    replace h1 := nvar_f h1
    have ho : A.on = true := by simpa using h1
    refine W_skip (at_then ?_)
    refine W_seq ?_
    refine W_rseq ?_
    refine op_move rfl (.pointer _) rfl ?_
    refine op_nilCheck rfl rfl ?_
    refine op_fieldAddr rfl fo_96_0 rfl ?_
    first | refine op_ldb rfl ag_94 rfl H (by first | exact at0 | exact at1 | exact at2 | exact at3 | exact at4 | exact at5 | exact at6 | exact at7 | exact at8 | exact at9) rfl ?_ | refine op_ld rfl ag_94 rfl (H.old0 (cell_bl D.hd _)) ?_
    refine op_len rfl el_94 rfl ?_
    refine op_lss rfl rfl rfl ?_
    refine op_nil (at_then ?_)
    refine W_cond _ rfl ?_ ?_
    · intro h2
      replace h2 := dec_t h2
      have he : loadE A = 1 := by rw [loadE, ho, decide_eq_true (show A.B.length < 2 by omega)]; rfl
      refine W_rseq ?_
      refine op_assign rfl (.int _ _) rfl ?_
      refine op_assign rfl (.slice _ _ _) rfl ?_
      refine op_assign rfl (.int _ _) rfl ?_
      refine op_nil (at_then ?_)
      refine W_ret (ret_then (leave3 (v1 := (.int _ _)) (v2 := (.slice _ _ _)) (v3 := (.int _ _)) rfl rfl rfl rfl rfl ?_))
      exact ⟨none, 0, by rw [loadG, loadL, he]; rfl, by rw [loadL, he]; exact Rd.nil, H.ext⟩
    · intro h2
      replace h2 := dec_f h2
      obtain ⟨p0, hp0⟩ := get_some (l := A.B) (i := 0) (by omega)
      obtain ⟨p1, hp1⟩ := get_some (l := A.B) (i := 1) (by omega)
      obtain ⟨hs0, v0, hv0, L0⟩ := D.part 0 p0 hp0
      obtain ⟨hs1, v1, hv1, L1⟩ := D.part 1 p1 hp1
      have hf0 := hfew p0 (List.mem_of_getElem? hp0)
      have hf1 := hfew p1 (List.mem_of_getElem? hp1)
      have hl0 := stands_len D.wf (List.mem_of_getElem? hp0)
      have hl1 := stands_len D.wf (List.mem_of_getElem? hp1)
      have ha0 : at' A 0 = stands p0 := by rw [at', List.getD_eq_getElem?_getD, hp0]; rfl
      have ha1 : at' A 1 = stands p1 := by rw [at', List.getD_eq_getElem?_getD, hp1]; rfl
      have hc0 := pair_cells D.hb hs0 hv0
      have hc1 := pair_cells D.hb hs1 hv1
      refine W_skip (at_then ?_)
      refine W_rseq ?_
      refine op_move rfl (.pointer _) rfl ?_
      refine op_nilCheck rfl rfl ?_
      refine op_fieldAddr rfl fo_96_0 rfl ?_
      first | refine op_ldb rfl ag_94 rfl H (by first | exact at0 | exact at1 | exact at2 | exact at3 | exact at4 | exact at5 | exact at6 | exact at7 | exact at8 | exact at9) rfl ?_ | refine op_ld rfl ag_94 rfl (H.old0 (cell_bl D.hd _)) ?_
      refine op_indexAddr rfl el_94 sz_99 rfl rfl (by omega) (by omega) ?_
      refine op_ldN [str p0.1, v0] rfl ag_99 sz_99 rfl rfl (fun j v hj => H.old0 (hc0 j v hj)) ?_
      refine op_call rfl ca_63 (rstands_ok (L0.keep H.ext (by simp) fun _ h => h) (by omega)) rfl ?_
      rintro v w ⟨rfl, hx⟩
      replace H := H.call hx
      refine op_bytes rfl un_9 el_23 un_5 rfl ?_
      rintro b28 c28 w - hc28 hx R28
      replace H := H.call hx
      refine op_call rfl ca_62 (of_ok 0 (some ⟨b28, 0, none⟩) c28 _ (stands p0) _ R28 rfl (by omega) hc28) rfl ?_
      rintro v w ⟨a29, c29, rfl, R29, hc29, hx⟩
      replace H := H.call hx
      refine op_move rfl (.tuple _) rfl ?_
      refine op_extract rfl rfl rfl ?_
      refine op_extract rfl rfl rfl ?_
      refine op_assign rfl (.int _ _) rfl ?_
      refine op_assign rfl (.slice _ _ _) rfl ?_
      refine op_nil (at_then ?_)
      refine W_rseq ?_
      refine op_move rfl (.pointer _) rfl ?_
      refine op_nilCheck rfl rfl ?_
      refine op_fieldAddr rfl fo_96_0 rfl ?_
      first | refine op_ldb rfl ag_94 rfl H (by first | exact at0 | exact at1 | exact at2 | exact at3 | exact at4 | exact at5 | exact at6 | exact at7 | exact at8 | exact at9) rfl ?_ | refine op_ld rfl ag_94 rfl (H.old0 (cell_bl D.hd _)) ?_
      refine op_indexAddr rfl el_94 sz_99 rfl rfl (by omega) (by omega) ?_
      refine op_ldN [str p1.1, v1] rfl ag_99 sz_99 rfl rfl (fun j v hj => H.old0 (hc1 j v hj)) ?_
      refine op_call rfl ca_63 (rstands_ok (L1.keep H.ext (by simp) fun _ h => h) (by omega)) rfl ?_
      rintro v w ⟨rfl, hx⟩
      replace H := H.call hx
      replace R29 := R29.ext0 hx
      refine op_bytes rfl un_9 el_23 un_5 rfl ?_
      rintro b40 c40 w - hc40 hx R40
      replace H := H.call hx
      replace R29 := R29.ext0 hx
      refine op_call rfl ca_62 (of_ok 1 (some ⟨b40, 0, none⟩) c40 _ (stands p1) _ R40 rfl (by omega) hc40) rfl ?_
      rintro v w ⟨a41, c41, rfl, R41, hc41, hx⟩
      replace H := H.call hx
      replace R29 := R29.ext0 hx
      refine op_move rfl (.tuple _) rfl ?_
      refine op_extract rfl rfl rfl ?_
      refine op_extract rfl rfl rfl ?_
      refine op_assign rfl (.int _ _) rfl ?_
      refine op_assign rfl (.slice _ _ _) rfl ?_
      refine op_nil (at_then ?_)
      refine W_seq ?_
      refine W_rseq (Wops_join (α := Unit) 1108307720798208 (fun _ => [(49, .bool (decide (rootG 0 (stands p0) = 0) && decide (rootG 1 (stands p1) = 0)))]) (fun _ w' => Ctx w0 [] w' [] ∧ Rd w' a29 1 B8 (rootL 0 (stands p0)) ∧ Rd w' a41 1 B8 (rootL 1 (stands p1))) rfl ?_ ?_)
      · refine op_move rfl (.int _ _) rfl ?_
        refine op_eql rfl rfl rfl ?_
        refine op_move rfl (.bool _) rfl ?_
        refine Wops_split 46 rfl ?_ ?_
        · intro h1
          replace h1 := dec_t h1
          refine op_move rfl (.int _ _) rfl ?_
          refine op_eql rfl rfl rfl ?_
          refine op_pick1 rfl rfl (.bool _) rfl ?_
          refine op_nil ?_
          exact ⟨rfl, (), rfl, ⟨congrArg Value.bool (by rw [Bool.eq_iff_iff]; simp_all; try omega), trivial⟩, ⟨H, R29, R41⟩⟩
        · intro h2
          replace h2 := dec_f h2
          refine op_skip rfl ?_
          refine op_skip rfl ?_
          refine op_pick0 rfl rfl (.bool _) rfl ?_
          refine op_nil ?_
          exact ⟨rfl, (), rfl, ⟨congrArg Value.bool (by rw [Bool.eq_iff_iff]; simp_all; try omega), trivial⟩, ⟨H, R29, R41⟩⟩
      rintro - j49 w ⟨H, R29, R41⟩
      refine W_cond _ rfl ?_ ?_
      · intro h3
        have he : loadE A = 4 := by rw [loadE, ho, decide_eq_false (show ¬ A.B.length < 2 by omega), ha0, ha1, h3]; rfl
        refine W_rseq ?_
        refine op_assign rfl (.int _ _) rfl ?_
        refine op_assign rfl (.slice _ _ _) rfl ?_
        refine op_assign rfl (.int _ _) rfl ?_
        refine op_nil (at_then ?_)
        refine W_ret (ret_then (leave3 (v1 := (.int _ _)) (v2 := (.slice _ _ _)) (v3 := (.int _ _)) rfl rfl rfl rfl rfl ?_))
        exact ⟨none, 0, by rw [loadG, loadL, he]; rfl, by rw [loadL, he]; exact Rd.nil, H.ext⟩
      · intro h3
        have he : loadE A = 0 := by rw [loadE, ho, decide_eq_false (show ¬ A.B.length < 2 by omega), ha0, ha1, h3]; rfl
        refine W_skip (at_then ?_)
        refine W_seq ?_
        refine W_rseq ?_
        refine op_move rfl (.int _ _) rfl ?_
        refine op_move rfl (.int _ _) rfl ?_
        refine op_gtr rfl rfl rfl ?_
        refine op_nil (at_then ?_)
        refine W_cond _ rfl ?_ ?_
        · intro h4
          replace h4 := dec_t h4
          have h4' : decide (rootG 1 (stands p1) < rootG 0 (stands p0)) = true := decide_eq_true (by omega)
          refine W_rseq ?_
          refine op_move rfl (.int _ _) rfl ?_
          refine op_move rfl (.slice _ _ _) rfl ?_
          refine op_assign rfl (.int _ _) rfl ?_
          refine op_assign rfl (.slice _ _ _) rfl ?_
          refine op_assign rfl (.int _ _) rfl ?_
          refine op_nil (at_then ?_)
          refine W_ret (ret_then (leave3 (v1 := (.int _ _)) (v2 := (.slice _ _ _)) (v3 := (.int _ _)) rfl rfl rfl rfl rfl ?_))
          exact ⟨a29, c29, by rw [loadG, loadL, he, ha0, ha1, h4']; rfl, by rw [loadL, he, ha0, ha1, h4']; exact R29, H.ext⟩
        · intro h4
          replace h4 := dec_f h4
          have h4' : decide (rootG 1 (stands p1) < rootG 0 (stands p0)) = false := decide_eq_false (by omega)
          refine W_skip (at_then ?_)
          refine W_rseq ?_
          refine op_move rfl (.int _ _) rfl ?_
          refine op_move rfl (.slice _ _ _) rfl ?_
          refine op_assign rfl (.int _ _) rfl ?_
          refine op_assign rfl (.slice _ _ _) rfl ?_
          refine op_assign rfl (.int _ _) rfl ?_
          refine op_nil (at_then ?_)
          refine W_ret (leave3 (v1 := (.int _ _)) (v2 := (.slice _ _ _)) (v3 := (.int _ _)) rfl rfl rfl rfl rfl ?_)
          exact ⟨a41, c41, by rw [loadG, loadL, he, ha0, ha1, h4']; rfl, by rw [loadL, he, ha0, ha1, h4']; exact R41, H.ext⟩

end Go.Proofs.YtkmbcpgnafmnpaaDoor

/- slices.Sorted(maps.Keys(m)) at this program. -/
namespace Go.Proofs
open Go.RowKit Go.Maps Go.Sort Go.Shelf
def Tryd.keysA_ren : Go.Shelf.Ren := ⟨fun | 7 => 79 | 10 => 95 | n => n, fun | 23 => 84 | 26 => 3 | 3 => 58 | 28 => 121 | 0 => 0 | 27 => 120 | 33 => 89 | 4 => 4 | n => n, fun | n => n⟩
theorem Tryd.keysA : Go.Proofs.SlLaysZI.n7 Tryd.prog Tryd.keysA_ren := {
  mixed := by kernel_rfl
  f7 := ⟨Tryd.f79.name, by decide, Tryd.func79.trans (congrArg some (by kernel_rfl))⟩
  f10 := ⟨Tryd.f95.name, by decide, Tryd.func95.trans (congrArg some (by kernel_rfl))⟩
  t0 := Tryd.underlying0
  a0 := Tryd.isAgg0
  z0 := Tryd.sizeOf0
  v0 := Tryd.zeroValue0
  t4 := Tryd.underlying4
  a4 := Tryd.isAgg4
  z4 := Tryd.sizeOf4
  v4 := Tryd.zeroValue4
  t23 := Tryd.underlying84
  a23 := Tryd.isAgg84
  z23 := Tryd.sizeOf84
  v23 := Tryd.zeroValue84
  t26 := Tryd.underlying3
  a26 := Tryd.isAgg3
  z26 := Tryd.sizeOf3
  v26 := Tryd.zeroValue3
  t27 := Tryd.underlying120
  a27 := Tryd.isAgg120
  z27 := Tryd.sizeOf120
  v27 := Tryd.zeroValue120
  t28 := Tryd.underlying121
  a28 := Tryd.isAgg121
  z28 := Tryd.sizeOf121
  v28 := Tryd.zeroValue121
  t33 := Tryd.underlying89
  a33 := Tryd.isAgg89
  z33 := Tryd.sizeOf89
  v33 := Tryd.zeroValue89 }
def Tryd.sortedA_ren : Go.Shelf.Ren := ⟨fun | 6 => 78 | 8 => 93 | 9 => 94 | 11 => 103 | 13 => 105 | 12 => 104 | 23 => 118 | 24 => 119 | 14 => 109 | 15 => 110 | 16 => 111 | 17 => 112 | 18 => 113 | 19 => 114 | 20 => 115 | 21 => 116 | 22 => 117 | 25 => 121 | 26 => 122 | 27 => 123 | 28 => 124 | 29 => 125 | 30 => 126 | 31 => 127 | n => n, fun | 26 => 3 | 28 => 121 | 24 => 45 | 0 => 0 | 3 => 3 | 37 => 34 | 48 => 25 | 50 => 22 | 4 => 4 | 40 => 152 | 39 => 151 | 45 => 157 | 5 => 5 | 9 => 9 | 51 => 161 | 55 => 165 | 57 => 171 | 58 => 172 | 33 => 89 | n => n, fun | n => n⟩
theorem Tryd.sortedA : Go.Proofs.SlLaysZI.n6 Tryd.prog Tryd.sortedA_ren := {
  mixed := by kernel_rfl
  f6 := ⟨Tryd.f78.name, by decide, Tryd.func78.trans (congrArg some (by kernel_rfl))⟩
  f8 := ⟨Tryd.f93.name, by decide, Tryd.func93.trans (congrArg some (by kernel_rfl))⟩
  f11 := ⟨Tryd.f103.name, by decide, Tryd.func103.trans (congrArg some (by kernel_rfl))⟩
  t0 := Tryd.underlying0
  a0 := Tryd.isAgg0
  z0 := Tryd.sizeOf0
  v0 := Tryd.zeroValue0
  t24 := Tryd.underlying45
  a24 := Tryd.isAgg45
  z24 := Tryd.sizeOf45
  v24 := Tryd.zeroValue45
  t26 := Tryd.underlying3
  a26 := Tryd.isAgg3
  z26 := Tryd.sizeOf3
  v26 := Tryd.zeroValue3
  t28 := Tryd.underlying121
  a28 := Tryd.isAgg121
  z28 := Tryd.sizeOf121
  v28 := Tryd.zeroValue121
  i26 := by kernel_rfl }
def Tryd.sortA_ren : Go.Shelf.Ren := ⟨fun | 5 => 94 | 8 => 105 | 7 => 104 | 19 => 118 | 20 => 119 | 10 => 109 | 11 => 110 | 12 => 111 | 13 => 112 | 14 => 113 | 15 => 114 | 16 => 115 | 17 => 116 | 18 => 117 | 30 => 121 | 31 => 122 | 32 => 123 | 33 => 124 | 34 => 125 | 35 => 126 | 40 => 127 | n => n, fun | 23 => 45 | 25 => 3 | 3 => 3 | 32 => 34 | 22 => 45 | 0 => 0 | 44 => 25 | 46 => 22 | 4 => 4 | 36 => 152 | 35 => 151 | 41 => 157 | 5 => 5 | 9 => 9 | 53 => 161 | 57 => 165 | 63 => 171 | 64 => 172 | n => n, fun | n => n⟩
theorem Tryd.sortA : Go.Proofs.SlLaysM.n5 Tryd.prog Tryd.sortA_ren := {
  mixed := by kernel_rfl
  f5 := ⟨Tryd.f94.name, by decide, Tryd.func94.trans (congrArg some (by kernel_rfl))⟩
  f7 := ⟨Tryd.f104.name, by decide, Tryd.func104.trans (congrArg some (by kernel_rfl))⟩
  f8 := Tryd.func105.trans (congrArg some (by kernel_rfl))
  f10 := ⟨Tryd.f109.name, by decide, Tryd.func109.trans (congrArg some (by kernel_rfl))⟩
  f11 := ⟨Tryd.f110.name, by decide, Tryd.func110.trans (congrArg some (by kernel_rfl))⟩
  f12 := ⟨Tryd.f111.name, by decide, Tryd.func111.trans (congrArg some (by kernel_rfl))⟩
  f13 := ⟨Tryd.f112.name, by decide, Tryd.func112.trans (congrArg some (by kernel_rfl))⟩
  f14 := ⟨Tryd.f113.name, by decide, Tryd.func113.trans (congrArg some (by kernel_rfl))⟩
  f15 := ⟨Tryd.f114.name, by decide, Tryd.func114.trans (congrArg some (by kernel_rfl))⟩
  f16 := ⟨Tryd.f115.name, by decide, Tryd.func115.trans (congrArg some (by kernel_rfl))⟩
  f17 := ⟨Tryd.f116.name, by decide, Tryd.func116.trans (congrArg some (by kernel_rfl))⟩
  f18 := ⟨Tryd.f117.name, by decide, Tryd.func117.trans (congrArg some (by kernel_rfl))⟩
  f19 := Tryd.func118.trans (congrArg some (by kernel_rfl))
  f20 := Tryd.func119.trans (congrArg some (by kernel_rfl))
  f30 := ⟨Tryd.f121.name, by decide, Tryd.func121.trans (congrArg some (by kernel_rfl))⟩
  f31 := Tryd.func122.trans (congrArg some (by kernel_rfl))
  f32 := Tryd.func123.trans (congrArg some (by kernel_rfl))
  f33 := ⟨Tryd.f124.name, by decide, Tryd.func124.trans (congrArg some (by kernel_rfl))⟩
  f34 := ⟨Tryd.f125.name, by decide, Tryd.func125.trans (congrArg some (by kernel_rfl))⟩
  f35 := ⟨Tryd.f126.name, by decide, Tryd.func126.trans (congrArg some (by kernel_rfl))⟩
  f40 := ⟨Tryd.f127.name, by decide, Tryd.func127.trans (congrArg some (by kernel_rfl))⟩
  t0 := Tryd.underlying0
  a0 := Tryd.isAgg0
  z0 := Tryd.sizeOf0
  v0 := Tryd.zeroValue0
  t3 := Tryd.underlying3
  a3 := Tryd.isAgg3
  z3 := Tryd.sizeOf3
  v3 := Tryd.zeroValue3
  t4 := Tryd.underlying4
  a4 := Tryd.isAgg4
  z4 := Tryd.sizeOf4
  v4 := Tryd.zeroValue4
  t5 := Tryd.underlying5
  a5 := Tryd.isAgg5
  z5 := Tryd.sizeOf5
  v5 := Tryd.zeroValue5
  t9 := Tryd.underlying9
  a9 := Tryd.isAgg9
  z9 := Tryd.sizeOf9
  v9 := Tryd.zeroValue9
  t22 := Tryd.underlying45
  a22 := Tryd.isAgg45
  z22 := Tryd.sizeOf45
  v22 := Tryd.zeroValue45
  t23 := Tryd.underlying45
  a23 := Tryd.isAgg45
  z23 := Tryd.sizeOf45
  v23 := Tryd.zeroValue45
  t25 := Tryd.underlying3
  a25 := Tryd.isAgg3
  z25 := Tryd.sizeOf3
  v25 := Tryd.zeroValue3
  t32 := Tryd.underlying34
  a32 := Tryd.isAgg34
  z32 := Tryd.sizeOf34
  v32 := Tryd.zeroValue34
  t35 := Tryd.underlying151
  a35 := Tryd.isAgg151
  z35 := Tryd.sizeOf151
  v35 := Tryd.zeroValue151
  t36 := Tryd.underlying152
  a36 := Tryd.isAgg152
  z36 := Tryd.sizeOf152
  v36 := Tryd.zeroValue152
  t41 := Tryd.underlying157
  a41 := Tryd.isAgg157
  z41 := Tryd.sizeOf157
  v41 := Tryd.zeroValue157
  t44 := Tryd.underlying25
  a44 := Tryd.isAgg25
  z44 := Tryd.sizeOf25
  v44 := Tryd.zeroValue25
  t46 := Tryd.underlying22
  a46 := Tryd.isAgg22
  z46 := Tryd.sizeOf22
  v46 := Tryd.zeroValue22
  t53 := Tryd.underlying161
  a53 := Tryd.isAgg161
  z53 := Tryd.sizeOf161
  v53 := Tryd.zeroValue161
  t57 := Tryd.underlying165
  a57 := Tryd.isAgg165
  z57 := Tryd.sizeOf165
  v57 := Tryd.zeroValue165
  t63 := Tryd.underlying171
  a63 := Tryd.isAgg171
  z63 := Tryd.sizeOf171
  v63 := Tryd.zeroValue171
  t64 := Tryd.underlying172
  a64 := Tryd.isAgg172
  z64 := Tryd.sizeOf172
  v64 := Tryd.zeroValue172 }

theorem Tryd.sortsA (m : Nat) : AnyZI.SortsIn Tryd.prog Tryd.sortedA_ren Fence.wide m :=
  ⟨fun blk off cap ss W hH hblk hsz => callsIn_wide.2 (AnyM.slices_Sort_int Tryd.sortA blk off cap ss W hH hblk hsz),
   fun p cap W => callsIn_wide.2 (AnyM.slices_Sort_int_none Tryd.sortA p cap W)⟩
end Go.Proofs

/- The keys of a map, rising; the blocks of a device that have loose things. -/
namespace Go.Proofs.YtkmbcpgnafmnpaaDoor
open Go.GV Go.Maps Go.Sort Go.Shelf Go.RowKit
attribute [local irreducible] Wops W Wq Wt

def keysOf (m : List (Int × Value)) : List Int := (m.map (·.1)).mergeSort fun x y => decide (x ≤ y)

theorem mkeys_ok (mb : Option Nat) (w : World) : Ret Tryd.prog 79 #[.map mb] w fun v w' => v = .func (.func 95) #[] #[.pointer (some ⟨w.heap.size, 0, none⟩)] ∧ w' = w.alloc (Bl 84 [.map mb]) := by
  have h := AnyZI.keys_in Tryd.keysA Fence.wide 5 trivial rfl mb w
  exact CallsIn.mono (callsIn_wide.2 (callsIn_wide.1 h)) fun e w' ⟨h1, h2⟩ => ⟨_, h1, rfl, h2⟩

theorem msorted_ok {w : World} {bx bm : Nat} {m : List (Int × Value)} {o : Obj} (hx : w.heap[bx]? = some (Bl 84 [.map (some bm)])) (hb : w.heap[bm]? = some o) (hM : MapO .i64 m o) (nd : (m.map (·.1)).Nodup) (hsz : m.length ≤ 4096)
    (hr : ∀ p ∈ m, -9223372036854775808 ≤ p.1 ∧ p.1 ≤ 9223372036854775807) :
    Ret Tryd.prog 78 #[.func (.func 95) #[] #[.pointer (some ⟨bx, 0, none⟩)]] w fun v w' => ∃ a c, v = .slice a (keysOf m).length c ∧ Rd w' a 1 (fun x : Int => [.int .i64 x]) (keysOf m) ∧ (keysOf m).length ≤ c ∧ (keysOf m = [] ∨ w.heap.size ≤ (adr a).block) ∧ Ext [] w w' := by
  obtain ⟨D0, hown, hperm, hsize⟩ := ownsMap_of (P := Tryd.prog) un_3 hb hM nd (Nat.le_trans hsz (by decide)) hr
  have hseq : SeqGives Fence.wide 2 Tryd.prog 95 #[.pointer (some ⟨bx, 0, none⟩)] encZ (fun ss => ss.Perm (intKeys D0)) (Maps.size D0) w :=
    AnyZI.keys_gives (ρ := Tryd.keysA_ren) { Tryd.keysA with } Fence.wide _ trivial rfl (by omega) bx bm m.length D0 w (heap_lt hx) (by rw [cell_bl hx]; rfl) hown
  have cS := AnyZI.sorted_in Tryd.sortedA Fence.wide 5 trivial trivial trivial trivial rfl (by omega) (Tryd.sortsA _) (enters_of Tryd.func94 (by kernel_rfl) rfl) 95 #[.pointer (some ⟨bx, 0, none⟩)] trivial (enters_of Tryd.func95 (by kernel_rfl) rfl) _ (Maps.size D0) (by rw [hsize]; exact Nat.le_trans hsz (by decide)) (by rw [hsize]; omega) _ hseq
  refine CallsIn.mono (callsIn_wide.2 (callsIn_wide.1 cS)) ?_
  rintro e w' ⟨v, ss, rfl, hS, hrow, _, hbel⟩
  have he : ss.mergeSort (fun x y => decide (x ≤ y)) = keysOf m := mergeSort_of_perm_i (hS.trans hperm)
  rw [he] at hrow
  obtain ⟨a, c, rfl, R, hc, hnew⟩ := rd_of_owns (by rw [← he, List.length_mergeSort]) hrow
  exact ⟨_, rfl, a, c, rfl, R, hc, hnew, ext_of_below hbel⟩

theorem keysOf_mem {m : List (Int × Value)} {k : Int} (h : k ∈ keysOf m) : ∃ v, mget m k = some v := by
  have h1 : k ∈ m.map (·.1) := ((List.mergeSort_perm _ _).mem_iff).1 h
  clear h
  induction m with
  | nil => cases h1
  | cons p m ih =>
    by_cases hp : p.1 = k
    · exact ⟨p.2, by simp [mget, hp]⟩
    · have h2 : k ∈ m.map (·.1) := by
        rcases List.mem_cons.1 h1 with h | h
        · exact absurd h.symm hp
        · exact h
      obtain ⟨v, hv⟩ := ih h2
      exact ⟨v, by simpa [mget, hp] using hv⟩
theorem keysOf_len (m : List (Int × Value)) : (keysOf m).length = m.length := by rw [keysOf, List.length_mergeSort, List.length_map]

set_option maxHeartbeats 1000000 in
/-- The blocks with loose things, rising: J tells the world behind the first rounds. -/
theorem rising1_ok {w : World} {l bx bd bs bm n : Nat} {left : Int} {on : Bool} {m : List (Int × Value)} {o : Obj} (hx : w.heap[bx]? = some (Bl 27 [ptr bd])) (hd : w.heap[bd]? = some (Bl TD (DB n bs bm left on))) (hb : w.heap[bm]? = some o)
    (hM : MapO .i64 m o) (nd : (m.map (·.1)).Nodup) (hsz : m.length ≤ 4096) (hr : ∀ p ∈ m, -9223372036854775808 ≤ p.1 ∧ p.1 ≤ 9223372036854775807) (J : World → Nat → World → Prop) (hJ0 : ∀ wK, Ext [] w wK → J wK 0 wK)
    (hJ : ∀ wK i w', Ext [] w wK → J wK i w' → w'.heap[bx]? = some (Bl 27 [ptr bd]) ∧ (∃ bs' left' on', w'.heap[bd]? = some (Bl TD (DB n bs' bm left' on'))) ∧ w'.heap[bm]? = some o ∧ ∃ S, Ext S wK w' ∧ ∀ x ∈ S, x < w.heap.size)
    (hround : ∀ wK i k v w', Ext [] w wK → (keysOf m)[i]? = some k → mget m k = some v → J wK i w' → Go.GV.YieldAt Tryd.prog l [.int .i64 k, v] w' fun u w'' => u = .bool true ∧ J wK (i + 1) w'') :
    Ret Tryd.prog 77 #[.func (.yield l) #[] #[], ptr bx] w fun _ w' => ∃ wK, Ext [] w wK ∧ J wK m.length w' := by
  obtain ⟨w0, rfl⟩ : ∃ w0, w0 = w := ⟨_, rfl⟩
  have H := Ctx.start w0 []
  have hkl := keysOf_len m
  refine ret_of_W (fn := Tryd.f77) Tryd.func77 rfl [.func (.yield l) #[] #[], .pointer (some ⟨bx, 0, none⟩)] rfl (by kernel_rfl) ?_
  refine W_rseq ?_
  first | refine op_ldb rfl ag_27 rfl H (by first | exact at0 | exact at1 | exact at2 | exact at3 | exact at4 | exact at5 | exact at6 | exact at7 | exact at8 | exact at9) rfl ?_ | refine op_ld rfl ag_27 rfl (H.old0 (cell_bl hx _)) ?_ | refine op_ld rfl ag_27 rfl (H.old0 (cell_bl hd _)) ?_
  refine op_nilCheck rfl rfl ?_
  refine op_fieldAddr rfl fo_86_1 rfl ?_
  first | refine op_ldb rfl ag_84 rfl H (by first | exact at0 | exact at1 | exact at2 | exact at3 | exact at4 | exact at5 | exact at6 | exact at7 | exact at8 | exact at9) rfl ?_ | refine op_ld rfl ag_84 rfl (H.old0 (cell_bl hx _)) ?_ | refine op_ld rfl ag_84 rfl (H.old0 (cell_bl hd _)) ?_
  refine op_call rfl ca_79 (mkeys_ok (some bm) _) rfl ?_
  rintro v w ⟨rfl, rfl⟩
  replace H := H.alloc (Bl 84 [.map (some bm)])
  refine op_call rfl ca_78 (msorted_ok (H.get at0) (Ctx.oldb H hb) hM nd hsz hr) rfl ?_
  rintro v w ⟨a, c, rfl, R, hc, hnew, hx10⟩
  replace H := H.call hx10
  refine op_len rfl el_45 rfl ?_
  refine op_move rfl (.int _ _) rfl ?_
  refine op_nil (at_then ?_)
  refine W_block ?_
  obtain ⟨wK, rfl⟩ : ∃ x, x = w := ⟨_, rfl⟩
  refine W_loop 134213648 (α := Nat) (fun i => [(12, .int .i64 i)]) (fun i w' => i ≤ (keysOf m).length ∧ J wK i w') (fun i => (keysOf m).length - i) 0 rfl ?_ ?_ ?_
  · exact ⟨rfl, trivial⟩
  · exact ⟨Nat.zero_le _, hJ0 wK H.ext⟩
  · rintro i j w ⟨hi, hJw⟩
    obtain ⟨hx', ⟨bs', left', on', hd'⟩, hb', S, hS, hSlt⟩ := hJ wK i w H.ext hJw
    have Rw : Rd w a 1 (fun x : Int => [.int .i64 x]) (keysOf m) := by
      rcases hnew with h0 | h0
      · rw [h0]; exact Rd.nil
      · refine R.ext hS fun h => ?_
        have := hSlt _ h
        rw [World.size_alloc] at h0
        omega
    refine W_rseq ?_
    refine op_lss rfl rfl rfl ?_
    refine op_nil (at_then ?_)
    refine W_seq ?_
    refine W_cond _ rfl ?_ ?_
    · intro h1
      replace h1 := dec_t h1
      obtain ⟨k, hk⟩ := get_some (l := keysOf m) (i := i) (by omega)
      obtain ⟨v, hv⟩ := keysOf_mem (List.mem_of_getElem? hk)
      refine W_skip (at_then ?_)
      refine W_seq ?_
      refine W_block ?_
      refine W_rseq ?_
      first | refine op_indexRd Rw rfl el_45 sz_3 rfl rfl (by omega) (by omega) (by first | rfl | omega) ?_ | refine op_indexAddr rfl el_45 sz_3 rfl rfl (by omega) (by omega) ?_
      first | refine op_ldb rfl ag_3 rfl H (by first | exact at0 | exact at1 | exact at2 | exact at3 | exact at4 | exact at5 | exact at6 | exact at7 | exact at8 | exact at9) rfl ?_ | refine op_ld rfl ag_3 rfl (cell_bl hx' _) ?_ | refine op_ld rfl ag_3 rfl (cell_bl hd' _) ?_ | refine op_ld rfl ag_3 rfl (Rw.one (f := fun x => .int .i64 x) hk) ?_
      refine op_assign rfl (.int _ _) rfl ?_
      refine op_nil (at_then ?_)
      refine W_rseq ?_
      refine op_move rfl (.func _ _ _) rfl ?_
      refine op_move rfl (.int _ _) rfl ?_
      first | refine op_ldb rfl ag_27 rfl H (by first | exact at0 | exact at1 | exact at2 | exact at3 | exact at4 | exact at5 | exact at6 | exact at7 | exact at8 | exact at9) rfl ?_ | refine op_ld rfl ag_27 rfl (cell_bl hx' _) ?_ | refine op_ld rfl ag_27 rfl (cell_bl hd' _) ?_ | refine op_ld rfl ag_27 rfl (Rw.one (f := fun x => .int .i64 x) hk) ?_
      refine op_nilCheck rfl rfl ?_
      refine op_fieldAddr rfl fo_86_1 rfl ?_
      first | refine op_ldb rfl ag_84 rfl H (by first | exact at0 | exact at1 | exact at2 | exact at3 | exact at4 | exact at5 | exact at6 | exact at7 | exact at8 | exact at9) rfl ?_ | refine op_ld rfl ag_84 rfl (cell_bl hx' _) ?_ | refine op_ld rfl ag_84 rfl (cell_bl hd' _) ?_ | refine op_ld rfl ag_84 rfl (Rw.one (f := fun x => .int .i64 x) hk) ?_
      refine op_move rfl (.int _ _) rfl ?_
      refine op_lookupH rfl mt_84 un_3 zv_58 rfl rfl hb' hM ?_
      rw [show (mget m k).getD (.slice none 0 0) = v from by rw [hv]; rfl]
      refine op_yield rfl rfl (hround wK i k v w H.ext hk hv hJw) rfl ?_
      rintro _ w ⟨rfl, hJ2⟩
      refine op_not rfl rfl ?_
      refine op_nil (at_then ?_)
      refine W_cond0 rfl ?_
      refine W_skip (at_block (at_then ?_))
      refine W_region ?_
      refine op_add_i64 rfl rfl rfl (by omega) (by omega) ?_
      refine op_move rfl (.int _ _) rfl ?_
      refine op_nil (at_then ?_)
      exact ⟨i + 1, rfl, ⟨rfl, trivial⟩, ⟨by omega, hJ2⟩, by omega⟩
    · intro h1
      replace h1 := dec_f h1
      have hin : i = m.length := by omega
      subst hin
      refine W_exit (exit_then (exit_then (exit_here (leave0n rfl rfl ?_))))
      exact ⟨wK, H.ext, hJw⟩

end Go.Proofs.YtkmbcpgnafmnpaaDoor

/- A device's flush. -/
namespace Go.Proofs.YtkmbcpgnafmnpaaDoor
open Go.GV
attribute [local irreducible] Wops W Wq Wt

theorem rising_ok (bd : Nat) (w : World) : Ret Tryd.prog 59 #[ptr bd] w fun v w' => ∃ bx, v = .func (.func 77) #[] #[ptr bx] ∧ w'.heap[bx]? = some (Bl 27 [ptr bd]) ∧ w.heap.size ≤ bx ∧ Ext [] w w' := by
  obtain ⟨w0, rfl⟩ : ∃ w0, w0 = w := ⟨_, rfl⟩
  have H := Ctx.start w0 []
  refine ret_of_W (fn := Tryd.f59) Tryd.func59 rfl [.pointer (some ⟨bd, 0, none⟩)] rfl (by kernel_rfl) ?_
  refine W_rseq ?_
  refine op_box rfl _ (.pointer _) rfl rfl H ?_
  rintro b1 w - H
  refine op_assign rfl .nilFunc rfl ?_
  refine op_nil (at_then ?_)
  refine W_rseq ?_
  refine op_makeFuncL rfl [.pointer _] rfl ?_
  refine op_assign rfl (.func _ _ _) rfl ?_
  refine op_nil (at_then ?_)
  refine W_ret (leave1 (v := (.func _ _ _)) rfl rfl rfl ?_)
  exact ⟨b1, rfl, H.get at0, (H.own _ (List.mem_cons_self ..)).elim (fun h => by cases h) id, H.ext⟩

/-- What the rounds leave in the array. -/
def laid (f : Nat → Value) (sv : List Value) (ks : List Int) : List Value := ks.foldl (fun s k => s.set k.toNat (f k.toNat)) sv
theorem laid_len (f : Nat → Value) (sv : List Value) (ks : List Int) : (laid f sv ks).length = sv.length := by
  unfold laid
  induction ks generalizing sv with
  | nil => rfl
  | cons k ks ih => rw [List.foldl_cons, ih, List.length_set]
theorem laid_snoc (f : Nat → Value) (sv : List Value) (ks : List Int) (k : Int) : laid f sv (ks ++ [k]) = (laid f sv ks).set k.toNat (f k.toNat) := by
  unfold laid; rw [List.foldl_append]; rfl
theorem laid_get (f : Nat → Value) (sv : List Value) (ks : List Int) (hk : ∀ k ∈ ks, 0 ≤ k) {i : Nat} (hi : i < sv.length) : (laid f sv ks)[i]? = if (i : Int) ∈ ks then some (f i) else sv[i]? := by
  unfold laid
  induction ks generalizing sv with
  | nil => simp
  | cons k ks ih =>
    rw [List.foldl_cons, ih (sv := sv.set k.toNat (f k.toNat)) (fun x h => hk x (List.mem_cons_of_mem _ h)) (by rw [List.length_set]; exact hi)]
    have h0 := hk k (List.mem_cons_self ..)
    by_cases h1 : (i : Int) ∈ ks
    · rw [if_pos h1, if_pos (List.mem_cons_of_mem _ h1)]
    · rw [if_neg h1]
      by_cases h2 : k = (i : Int)
      · subst h2
        rw [if_pos (List.mem_cons_self ..), show ((i : Int)).toNat = i from rfl, List.getElem?_set_self hi]
      · rw [if_neg (by simp [h1, Ne.symm h2]), List.getElem?_set_ne (by omega)]

end Go.Proofs.YtkmbcpgnafmnpaaDoor

/- A device's flush: the rounds. -/
namespace Go.Proofs.YtkmbcpgnafmnpaaDoor
open Go.GV
attribute [local irreducible] Wops W Wq Wt

/-- The last of what is loose, by blocks. -/
theorem DevR.last {w : World} {bd : Nat} {A : Dev} {role : Nat → Nat} {bs bm : Nat} {sv : List Value} {m : List (Int × Value)} {o : Obj} (D : DevR w bd A role bs bm sv m o) :
    ∃ f : Nat → Value, ∀ i p, A.B[i]? = some p → p.2 ≠ [] → BytesAt w role (f i) (stands p) ∧ ∃ al n c fl vs, mget m (i : Int) = some (.slice al n c) ∧ OS al n c 1 fl vs ∧ n = p.2.length ∧ (∀ x ∈ ent al 23 fl, w.heap[x.1]? = some x.2 ∧ role x.1 = 5 + i) ∧ vs[n - 1]? = some (f i) := by
  have h : ∀ i : Nat, ∃ v, ∀ p, A.B[i]? = some p → p.2 ≠ [] → BytesAt w role v (stands p) ∧ ∃ al n c fl vs, mget m (i : Int) = some (.slice al n c) ∧ OS al n c 1 fl vs ∧ n = p.2.length ∧ (∀ x ∈ ent al 23 fl, w.heap[x.1]? = some x.2 ∧ role x.1 = 5 + i) ∧ vs[n - 1]? = some v := fun i => by
    by_cases hp : ∃ p, A.B[i]? = some p ∧ p.2 ≠ []
    · obtain ⟨p, hp, hne⟩ := hp
      obtain ⟨_, ⟨al, n, c, fl, vs, hv, O, hent, hvs⟩, hiff⟩ := D.part i p hp
      have hn : n = vs.length := by have := O.llen; omega
      have hpos : 0 < p.2.length := List.length_pos_iff.2 hne
      have hvl := hvs.1
      obtain ⟨b, hb⟩ := get_some (l := p.2) (i := n - 1) (by omega)
      obtain ⟨v, hvv⟩ := get_some (l := vs) (i := n - 1) (by omega)
      have hst : stands p = b := by
        rw [stands, List.getLast?_eq_getElem?, show p.2.length - 1 = n - 1 by omega, hb]; rfl
      refine ⟨v, fun p' hp' _ => ?_⟩
      rw [hp] at hp'
      cases hp'
      refine ⟨by rw [hst]; exact hvs.2 _ _ _ hvv hb, al, n, c, fl, vs, ?_, O, by omega, hent, hvv⟩
      obtain ⟨u, hu⟩ := Option.isSome_iff_exists.1 (hiff.2 hne)
      rw [hu] at hv ⊢
      rw [← hv]; rfl
    · exact ⟨.nilFunc, fun p h1 h2 => absurd ⟨p, h1, h2⟩ hp⟩
  exact ⟨fun i => Classical.choose (h i), fun i => Classical.choose_spec (h i)⟩

theorem DevR.keep {w w' : World} {bd : Nat} {A : Dev} {role : Nat → Nat} {bs bm : Nat} {sv : List Value} {m : List (Int × Value)} {o : Obj} (D : DevR w bd A role bs bm sv m o) {S : List Nat} (hx : Ext S w w') (hS' : ∀ x ∈ S, role x = 0) : DevR w' bd A role bs bm sv m o := by
  have hb : ∀ {b : Nat} {o : Obj}, w.heap[b]? = some o → role b ≠ 0 → w'.heap[b]? = some o := fun {b o} h1 h2 => by
    rw [hx.block b (heap_lt h1) fun h => h2 (hS' b h)]; exact h1
  refine ⟨fun x h => Nat.lt_of_lt_of_le (D.lt x h) hx.size, D.rd, D.rs, D.rm, hb D.hd (by rw [D.rd]; decide), hb D.hs (by rw [D.rs]; decide), hb D.hm (by rw [D.rm]; decide), D.hM, D.nd, D.keys, D.len, fun i p hp => ?_, D.wf⟩
  obtain ⟨⟨v, h1, h2⟩, h3, h4⟩ := D.part i p hp
  exact ⟨⟨v, h1, h2.keep hx (fun x h => by rw [hS' x h]; decide) fun _ h => h⟩, h3.keep hx (fun x h => by rw [hS' x h]; omega) (fun _ h => h) (fun _ h => h), h4⟩
theorem DevR.keep0 {w w' : World} {bd : Nat} {A : Dev} {role : Nat → Nat} {bs bm : Nat} {sv : List Value} {m : List (Int × Value)} {o : Obj} (D : DevR w bd A role bs bm sv m o) (hx : Ext [] w w') : DevR w' bd A role bs bm sv m o := D.keep hx (by simp)

/-- Nothing is loose any more: the array anew, the map empty. -/
theorem DevR.swept {w w' : World} {bd : Nat} {A : Dev} {role : Nat → Nat} {bs bm : Nat} {sv : List Value} {m : List (Int × Value)} {o o' : Obj} (D : DevR w bd A role bs bm sv m o) {A' : Dev} {sv' : List Value} (hx : Ext [bd, bs, bm] w w')
    (hlen : A'.B.length = A.B.length) (hd : w'.heap[bd]? = some (Bl TD (DB A'.B.length bs bm A'.left A'.on))) (hs : w'.heap[bs]? = some (Bl 23 sv')) (hm : w'.heap[bm]? = some o') (hM : MapO .i64 [] o') (hl : sv'.length = A.B.length)
    (hp : ∀ (i : Nat) (p : Byt × List Byt), A'.B[i]? = some p → p.2 = [] ∧ ∃ v, sv'[i]? = some v ∧ SureAt w' role v p.1) (wf : Wf A') : DevR w' bd A' role bs bm sv' [] o' := by
  refine ⟨fun x h => Nat.lt_of_lt_of_le (D.lt x h) hx.size, D.rd, D.rs, D.rm, hd, hs, hm, hM, List.nodup_nil, fun k v h => (by cases h), by rw [hl, hlen], fun i p h => ?_, wf⟩
  obtain ⟨h1, h2⟩ := hp i p h
  refine ⟨h2, ?_, by simp [mget_nil, h1]⟩
  rw [h1]
  exact ⟨none, 0, 0, [], [], rfl, OS.nil, by simp [ent], rfl, fun j x y h => by cases h⟩

theorem pigeon : ∀ (n : Nat) (l : List Nat), l.Nodup → (∀ x ∈ l, x < n) → l.length ≤ n
  | 0, l, _, h => by
    cases l with
    | nil => exact Nat.le_refl _
    | cons x l => exact absurd (h x (by simp)) (Nat.not_lt_zero _)
  | n + 1, l, hd, h => by
    have h1 := pigeon n (l.filter (· != n)) (hd.filter _) (fun x hx => by
      have := h x (List.mem_filter.1 hx).1
      have h2 := (List.mem_filter.1 hx).2
      simp at h2; omega)
    have h2 : l.length = (l.filter (· != n)).length + l.count n := by
      clear hd h h1
      induction l with
      | nil => rfl
      | cons x l ih =>
        rw [List.count_cons, List.filter_cons]
        by_cases hx : x = n
        · subst hx; simp; omega
        · simp [hx]; omega
    have h3 : l.count n ≤ 1 := List.nodup_iff_count.1 hd n
    omega

theorem DevR.bound {w : World} {bd : Nat} {A : Dev} {role : Nat → Nat} {bs bm : Nat} {sv : List Value} {m : List (Int × Value)} {o : Obj} (D : DevR w bd A role bs bm sv m o) : ∀ p ∈ m, 0 ≤ p.1 ∧ p.1 < A.B.length := by
  intro p hp
  have h : ∃ v, mget m p.1 = some v := by
    have hm : p.1 ∈ keysOf m := (List.mergeSort_perm _ _).mem_iff.2 (List.mem_map.2 ⟨p, hp, rfl⟩)
    exact keysOf_mem hm
  obtain ⟨v, hv⟩ := h
  obtain ⟨i, h1, h2⟩ := D.keys _ v hv
  omega
theorem DevR.few {w : World} {bd : Nat} {A : Dev} {role : Nat → Nat} {bs bm : Nat} {sv : List Value} {m : List (Int × Value)} {o : Obj} (D : DevR w bd A role bs bm sv m o) : m.length ≤ A.B.length := by
  have h := pigeon A.B.length (m.map fun p => p.1.toNat) (by
    have nd := D.nd
    rw [List.nodup_iff_pairwise_ne, List.pairwise_map] at nd ⊢
    refine nd.imp_of_mem fun {a b} ha hb hab he => hab ?_
    have := D.bound a ha; have := D.bound b hb
    omega) (fun x hx => by
    obtain ⟨p, hp, rfl⟩ := List.mem_map.1 hx
    have := D.bound p hp
    omega)
  simpa using h

end Go.Proofs.YtkmbcpgnafmnpaaDoor

/- A device's flush. -/
namespace Go.Proofs.YtkmbcpgnafmnpaaDoor
open Go.GV
theorem ca_59_StV : callable Tryd.prog 59 = true := by kernel_rfl
theorem ca_77_StV : callable Tryd.prog 77 = true := by kernel_rfl
attribute [local irreducible] Wops W Wq Wt

theorem sim_two {n a b : Nat} {tmps : Array Value} {g : Nat → Value} {x y : Value} (hts : tmps.size = n) (htm : ∀ i, tmps.getD i undef = g i) (ha : a < n) (hb : b < n) :
    Sim n (put (put ⟨g, []⟩ (some a) x) (some b) y) { tmps := ((#[a, b] : Array Tmp).zip [x, y].toArray).foldl (fun tmps (t, v) => tmps.setIfInBounds t v) tmps, defers := [] } := by
  have h1 : Sim n ⟨g, []⟩ { tmps := tmps, defers := [] } := ⟨rfl, hts, htm⟩
  have h2 := Sim.put (Sim.put h1 (some a) x (by rintro _ ⟨⟩; exact ha)) (some b) y (by rintro _ ⟨⟩; exact hb)
  simpa [Act.put] using h2

theorem begin_of {P : Program} {l n : Nat} {body : Code} {R : Value → World → Prop} {e : Env} {w : World} {lo : Loop} (h1 : w.heap[l]? = some (.loop lo)) (hst : lo.state = .ready)
    (h : ∀ wR lo2, Ext [l] w wR → wR.heap[l]? = some (.loop lo2) → lo2 = { lo with state := .busy } → W P (some l) n body (Qround l R) e wR) : Qbegin P l n body R .normal e w :=
  ⟨lo, h1, hst, h _ _ (Ext.setB w l _) (setB_same h1) rfl⟩
theorem round_end {l : Nat} {R : Value → World → Prop} {e : Env} {w : World} {lo lo2 : Loop} (h1 : w.heap[l]? = some (.loop lo2)) (h2 : lo2 = { lo with state := .busy }) (hst : lo.state = .ready) (hp : lo.pending = none)
    (h : ∀ wF, Ext [l] w wF → wF.heap[l]? = some (.loop lo) → R (.bool true) wF) : Qround l R .normal e w := by
  refine ⟨lo2, h1, h _ (Ext.setB w l _) ?_⟩
  have : ({ lo2 with state := .ready, pending := none } : Loop) = lo := by
    subst h2
    cases lo
    simp_all
  rw [setB_same h1, this]

theorem jumped_none {Q : Exit → Env → World → Prop} {e : Env} {w : World} {j : Option Code} (hj : j = none) (h : Q .normal e w) : jumped Q e w j := by subst hj; exact h
theorem mem_keysOf {m : List (Int × Value)} {k : Int} {v : Value} (h : mget m k = some v) : k ∈ keysOf m := by
  refine (List.mergeSort_perm _ _).mem_iff.2 ?_
  induction m with
  | nil => cases h
  | cons p m ih =>
    by_cases hp : p.1 = k
    · rw [← hp]; exact List.mem_cons_self ..
    · exact List.mem_cons_of_mem _ (ih (by simpa [mget, hp] using h))

set_option maxRecDepth 20000 in
set_option maxHeartbeats 1000000 in
theorem dflush_ok {w : World} {bd : Nat} {A : Dev} {F : Nat → Prop} {mx : Nat} (hfew : Few A mx) (hmx : mx ≤ 1000000000000) (DA : DevAt w bd A F) :
    Ret Tryd.prog 49 #[ptr bd] w fun v w' => v = .int .i64 (flushE A) ∧ DevAt w' bd (flushD A) F ∧ Turn F w w' := by
  obtain ⟨w0, rfl⟩ : ∃ w0, w0 = w := ⟨_, rfl⟩
  obtain ⟨role, bs, bm, sv, m, o, D, hF⟩ := DA
  have H := Ctx.start w0 []
  refine ret_of_WM (fn := Tryd.f49) Tryd.func49 rfl [.pointer (some ⟨bd, 0, none⟩)] rfl (by kernel_rfl) ?_
  refine W_rseq ?_
  refine op_box rfl _ (.pointer _) rfl rfl H ?_
  rintro b1 w - H
  refine op_assign rfl (.int _ _) rfl ?_
  refine op_nil (at_then ?_)
  refine W_seq ?_
  refine W_rseq ?_
  refine op_ldb rfl ag_27 rfl H (by first | exact at0 | exact at1 | exact at2 | exact at3 | exact at4 | exact at5 | exact at6 | exact at7 | exact at8 | exact at9) rfl ?_
  refine op_call rfl ca_50 (don_ok (Ctx.oldb H D.hd)) rfl ?_
  rintro v w ⟨rfl, rfl⟩
  refine op_assign rfl (.int _ _) rfl ?_
  refine op_nil (at_then ?_)
  refine W_rseq ?_
  refine op_move rfl (.int _ _) rfl ?_
  refine op_neq rfl rfl rfl ?_
  refine op_nil (at_then ?_)
  refine W_cond _ rfl ?_ ?_
  · intro h1
    replace h1 := ndec_t h1
    have ho : A.on = false := by cases h : A.on <;> simp_all
    refine W_rseq ?_
    refine op_move rfl (.int _ _) rfl ?_
    refine op_assign rfl (.int _ _) rfl ?_
    refine op_nil (at_then ?_)
    refine W_ret (ret_then (leaveM1 (v := (.int _ _)) rfl rfl ?_))
    exact ⟨by rw [flushE, ho]; rfl, by rw [flushD, ho]; exact ⟨role, bs, bm, sv, m, o, D.keep0 H.ext, hF⟩, .of0 H.ext⟩
  · intro h1
    replace h1 := ndec_f h1
    have ho : A.on = true := by cases h : A.on <;> simp_all
    refine W_skip (at_then ?_)
    refine W_rseq ?_
    refine op_ldb rfl ag_27 rfl H (by first | exact at0 | exact at1 | exact at2 | exact at3 | exact at4 | exact at5 | exact at6 | exact at7 | exact at8 | exact at9) rfl ?_
    refine op_call rfl ca_52 (dcounts_ok (D.keep0 H.ext)) rfl ?_
    rintro v w ⟨rfl, D1, hx1⟩
    refine op_assign rfl (.int _ _) rfl ?_
    refine op_nil (at_then ?_)
    refine W_seq ?_
    refine W_rseq ?_
    refine op_move rfl (.int _ _) rfl ?_
    refine op_eql rfl rfl rfl ?_
    refine op_nil (at_then ?_)
    refine W_cond _ rfl ?_ ?_
    · intro h3
      replace h3 := dec_t h3
      have hg : A.goes = false := by cases h : A.goes <;> simp_all
      have hbd0 := heap_lt D.hd
      have ho1 : w0.heap.size ≤ b1 := (H.own _ (List.mem_cons_self ..)).elim (fun h => by cases h) id
      have hb1 : w.heap[b1]? = some (Bl 27 [ptr bd]) := by
        rw [hx1.block b1 (H.lt at0) (by simp; omega)]; exact H.get at0
      refine W_seq ?_
      refine W_rseq ?_
      first | refine op_ldb rfl ag_27 rfl H (by first | exact at0 | exact at1 | exact at2 | exact at3 | exact at4 | exact at5 | exact at6 | exact at7 | exact at8 | exact at9) rfl ?_ | refine op_ld rfl ag_27 rfl (cell_bl hb1 _) ?_
      refine op_call rfl ca_59_StV (rising_ok bd _) rfl ?_
      rintro v w ⟨bx, rfl, hbx, hbxn, hx17⟩
      refine op_nil (at_then ?_)
      refine W_block ?_
      have D2 := D1.keep0 hx17
      have hb1L : w.heap[b1]? = some (Bl 27 [ptr bd]) := by rw [hx17.block b1 (heap_lt hb1) (by simp)]; exact hb1
      obtain ⟨f, hf⟩ := D2.last
      refine W_rangeFunc rfl ca_77_StV ?_
      intro fn tmps hts htm Db l w2 hDb hl hx2 hD hrec
      have D3 := D2.keep0 hx2
      have up2 : ∀ {b : Nat} {o : Obj}, w.heap[b]? = some o → w2.heap[b]? = some o := fun {b o} g => by rw [hx2.block b (heap_lt g) (by simp)]; exact g
      obtain ⟨lo, hlo, hrec'⟩ : ∃ lo, lo = _ ∧ w2.heap[l]? = some (.loop lo) := ⟨_, rfl, hrec⟩
      have hhi := D3.wf.hi
      have hlen : m.length ≤ 4096 := Nat.le_trans D3.few hhi
      have hbs0 := D2.lt bs (by rw [D2.rs]; decide)
      have hbd1 := D2.lt bd (by rw [D2.rd]; decide)
      have hbm1 := D2.lt bm (by rw [D2.rm]; decide)
      have hbxL := heap_lt hbx
      have hbsl : bs ≠ l := by omega
      have hb1s : b1 ≠ bs := by have := D.lt bs (by rw [D.rs]; decide); omega
      have hbxs : bx ≠ bs := by have := D1.lt bs (by rw [D1.rs]; decide); omega
      have hbds : bd ≠ bs := fun h => by have h1 := D3.rd; rw [h, D3.rs] at h1; omega
      have hbms : bm ≠ bs := fun h => by have h1 := D3.rm; rw [h, D3.rs] at h1; omega
      refine Ret.mono (rising1_ok (l := l) (up2 hbx) D3.hd D3.hm D3.hM D3.nd hlen (fun p hp => by have := D3.bound p hp; omega)
        (fun wK i w' => w'.heap[l]? = some (.loop lo) ∧ Ext [bs, l] wK w' ∧ w'.heap[bs]? = some (Bl 23 (laid f sv ((keysOf m).take i)))) ?_ ?_ ?_) ?_
      · intro wK hx
        refine ⟨by rw [hx.block l (heap_lt hrec') (by simp)]; exact hrec', .refl _ _, ?_⟩
        rw [hx.block bs (heap_lt D3.hs) (by simp)]; exact D3.hs
      · rintro wK i w' hx ⟨h1, h2, h3⟩
        have e1 : ∀ {b : Nat} {o : Obj}, w.heap[b]? = some o → b ≠ bs → w'.heap[b]? = some o := fun {b o} g1 g2 => by
          have g3 : b ≠ l := by have := heap_lt g1; omega
          rw [h2.block b (Nat.lt_of_lt_of_le (heap_lt (up2 g1)) hx.size) (by simp [g2, g3]), hx.block b (heap_lt (up2 g1)) (by simp)]; exact up2 g1
        refine ⟨e1 hbx hbxs, ⟨bs, _, _, e1 D2.hd hbds⟩, e1 D2.hm hbms, _, h2, fun x h => ?_⟩
        simp only [List.mem_cons, List.not_mem_nil, or_false] at h
        rcases h with rfl | rfl
        · exact heap_lt D3.hs
        · exact heap_lt hrec'
      · rintro wK i k v w' hxK hk hv ⟨h1, h2, h3⟩
        obtain ⟨q, rfl, hq⟩ := D3.keys _ v hv
        obtain ⟨p, hp⟩ : ∃ p, A.less.B[q]? = some p := ⟨_, List.getElem?_eq_getElem hq⟩
        have hne : p.2 ≠ [] := (D3.part q p hp).2.2.1 (by rw [hv]; rfl)
        obtain ⟨hby, al, nl, cl, fl, vs, hv', O, hnl, hent, hlast⟩ := hf q p hp hne
        rw [hv] at hv'
        cases hv'
        have hpl := less_few hfew p (List.mem_of_getElem? hp)
        have hpos : 0 < nl := by rw [hnl]; exact List.length_pos_iff.2 hne
        subst hlo
        refine yield_of h1 rfl (round_of_W _ (sim_two hts htm (by decide) (by decide)) (by kernel_rfl) ?_)
        refine W_rseq ?_
        refine op_assign rfl (.int _ _) rfl ?_
        refine op_nil (at_then ?_)
        refine W_region ?_
        refine op_assign rfl (.slice _ _ _) rfl ?_
        refine op_nil ?_
        refine begin_of h1 rfl ?_
        intro wR lo2 hxR hlR hlo2
        have eR : ∀ {b : Nat} {o : Obj}, w.heap[b]? = some o → b ≠ bs → wR.heap[b]? = some o := fun {b o} g1 g2 => by
          have g3 : b ≠ l := by have := heap_lt g1; omega
          have g4 : w'.heap[b]? = some o := by
            rw [h2.block b (Nat.lt_of_lt_of_le (heap_lt (up2 g1)) hxK.size) (by simp [g2, g3]), hxK.block b (heap_lt (up2 g1)) (by simp)]; exact up2 g1
          rw [hxR.block b (heap_lt g4) (by simpa using g3)]; exact g4
        have hbs2 := D3.rs
        have hbdR := eR D2.hd hbds
        have hb1R := eR hb1L hb1s
        have hbsR : wR.heap[bs]? = some (Bl 23 (laid f sv ((keysOf m).take i))) := by rw [hxR.block bs (heap_lt h3) (by simpa using hbsl)]; exact h3
        have Rl : Rd wR al 1 (fun v : Value => [v]) vs := OS.rdV O fun x hx => eR (hent x hx).1 (fun h => by have := (hent x hx).2; rw [h] at this; omega)
        have hlv : (laid f sv ((keysOf m).take i)).length = sv.length := laid_len ..
        have hsvl := D3.len
        have hvn : nl = vs.length := by have := O.llen; omega
        obtain ⟨a9, c9, hfq, _⟩ := hby
        rw [hfq] at hlast
        have HT : ∀ x, Ext [] wR x → Ctx wR [] x [] := fun x hx => (Ctx.start wR []).call hx
        refine W_block ?_
        refine W_segz [([0, 1, 2, 3, 4, 5, 6, 7, 8, 9, 10, 11], 12)] (fun x => Ext [] wR x) [12] mixed (by kernel_rfl) (Ext.drew _ wR) ?_
        refine seg_cons rfl rfl ?_
        first | refine t_ldb rfl ag_27 rfl HT (by first | exact at0 | exact at1 | exact at2 | exact at3 | exact at4 | exact at5 | exact at6 | exact at7 | exact at8 | exact at9) rfl ?_ | refine t_ld rfl ag_27 rfl (fun _ hx => hx.cell (cell_bl hb1R 0) (by simp)) ?_ | refine t_ld rfl ag_27 rfl (fun _ hx => hx.cell (cell_bl hbdR (0 + 0)) (by simp)) ?_ | refine t_ld rfl ag_27 rfl (fun _ hx => (Rl.ext0 hx).one (f := fun v => v) hlast) ?_
        refine t_nilCheck rfl rfl ?_
        refine t_fieldAddr rfl fo_86_0 rfl ?_
        first | refine t_ldb rfl ag_58 rfl HT (by first | exact at0 | exact at1 | exact at2 | exact at3 | exact at4 | exact at5 | exact at6 | exact at7 | exact at8 | exact at9) rfl ?_ | refine t_ld rfl ag_58 rfl (fun _ hx => hx.cell (cell_bl hb1R 0) (by simp)) ?_ | refine t_ld rfl ag_58 rfl (fun _ hx => hx.cell (cell_bl hbdR (0 + 0)) (by simp)) ?_ | refine t_ld rfl ag_58 rfl (fun _ hx => (Rl.ext0 hx).one (f := fun v => v) hlast) ?_
        refine t_move rfl (.int _ _) rfl ?_
        refine t_move rfl (.slice _ _ _) rfl ?_
        refine t_move rfl (.slice _ _ _) rfl ?_
        refine t_len rfl el_58 rfl ?_
        refine t_sub_i64 rfl rfl rfl (by omega) (by omega) ?_
        rw [show ((nl : Int) - 1) = ((nl - 1 : Nat) : Int) by omega]
        first | refine t_indexRd Rl rfl el_58 sz_23 rfl rfl (by omega) (by omega) (by first | rfl | omega) ?_ | refine t_indexAddr rfl el_58 sz_23 rfl rfl (by omega) (by omega) ?_
        first | refine t_ldb rfl ag_23 rfl HT (by first | exact at0 | exact at1 | exact at2 | exact at3 | exact at4 | exact at5 | exact at6 | exact at7 | exact at8 | exact at9) rfl ?_ | refine t_ld rfl ag_23 rfl (fun _ hx => hx.cell (cell_bl hb1R 0) (by simp)) ?_ | refine t_ld rfl ag_23 rfl (fun _ hx => hx.cell (cell_bl hbdR (0 + 0)) (by simp)) ?_ | refine t_ld rfl ag_23 rfl (fun _ hx => (Rl.ext0 hx).one (f := fun v => v) hlast) ?_
        first | refine t_indexRd Rl rfl el_58 sz_23 rfl rfl (by omega) (by omega) (by first | rfl | omega) ?_ | refine t_indexAddr rfl el_58 sz_23 rfl rfl (by omega) (by omega) ?_
        refine t_nil ?_
        skip
        refine op_stb (.slice _ _ _) rfl sz_23 rfl rfl rfl (Ctx.start1 (show (World.drew wR).heap[bs]? = _ from hbsR)) at0 (by omega) ?_
        rintro wE HE
        refine op_nil (at_segz rfl ?_)
        refine seg_nil ?_
        refine at_block ?_
        have hlE : wE.heap[l]? = some (.loop lo2) := by rw [HE.ext.block l (heap_lt hlR) (by simp; omega)]; exact hlR
        refine round_end hlE hlo2 rfl rfl ?_
        intro wF hxF hlF
        refine ⟨rfl, hlF, (h2.trans (hxR.mono (by simp))).trans ((Ext.drew _ _).trans ((HE.ext.mono (by simp)).trans (hxF.mono (by simp)))), ?_⟩
        rw [hxF.block bs (heap_lt (HE.get at0)) (by simpa using hbsl), HE.get at0, take_snoc hk, laid_snoc]
        simp only [Int.toNat_natCast, Nat.zero_add, Nat.mul_one, hfq]
      · rintro v w3 ⟨wK, hxK, hl3, hx3, hs3⟩
        rw [← keysOf_len m, List.take_length] at hs3
        refine ⟨_, hl3, by subst hlo; exact (fun h => by cases h), jumped_none (by rw [hlo]) ?_⟩
        have hx4 := Ext.setB w3 l (.loop { lo with state := .exhausted })
        generalize w3.putObj l (.loop { lo with state := .exhausted }) = w4 at hx4 ⊢
        refine at_block (at_then ?_)
        have hz : Ext [bd, bs, bm] w w4 := (((hx2.trans hxK).mono (by simp)).then hx3 (by intro x h; simp only [List.mem_cons, List.not_mem_nil, or_false] at h ⊢; omega)).then hx4 (by intro x h; simp only [List.mem_cons, List.not_mem_nil, or_false] at h ⊢; omega)
        have up4 : ∀ {b : Nat} {o : Obj}, w.heap[b]? = some o → b ≠ bs → w4.heap[b]? = some o := fun {b o} g1 g2 => by
          have g3 : b ≠ l := by have := heap_lt g1; omega
          rw [hx4.block b (Nat.lt_of_lt_of_le (heap_lt (up2 g1)) (Nat.le_trans hxK.size hx3.size)) (by simpa using g3), hx3.block b (Nat.lt_of_lt_of_le (heap_lt (up2 g1)) hxK.size) (by simp [g2, g3]), hxK.block b (heap_lt (up2 g1)) (by simp)]; exact up2 g1
        have hD4 : w4.heap[Db]? = some (.deferred (some [])) := by
          have g3 : Db ≠ l := by omega
          have g2 : Db ≠ bs := by omega
          rw [hx4.block Db (Nat.lt_of_lt_of_le (heap_lt hD) (Nat.le_trans hxK.size hx3.size)) (by simpa using g3), hx3.block Db (Nat.lt_of_lt_of_le (heap_lt hD) hxK.size) (by simp [g2, g3]), hxK.block Db (heap_lt hD) (by simp)]; exact hD
        have hs4 : w4.heap[bs]? = some (Bl 23 (laid f sv (keysOf m))) := by
          rw [hx4.block bs (heap_lt hs3) (by simpa using hbsl)]; exact hs3
        have hb14 := up4 hb1L hb1s
        have hd4 := up4 D2.hd hbds
        have H4 := Ctx.start1 (up4 D2.hm hbms)
        refine W_region ?_
        first | refine op_ldb rfl ag_27 rfl H (by first | exact at0 | exact at1 | exact at2 | exact at3 | exact at4 | exact at5 | exact at6 | exact at7 | exact at8 | exact at9) rfl ?_ | refine op_ld rfl ag_27 rfl (cell_bl hb14 _) ?_ | refine op_ld rfl ag_27 rfl (cell_bl hd4 _) ?_
        refine op_nilCheck rfl rfl ?_
        refine op_fieldAddr rfl fo_86_1 rfl ?_
        first | refine op_ldb rfl ag_84 rfl H (by first | exact at0 | exact at1 | exact at2 | exact at3 | exact at4 | exact at5 | exact at6 | exact at7 | exact at8 | exact at9) rfl ?_ | refine op_ld rfl ag_84 rfl (cell_bl hb14 _) ?_ | refine op_ld rfl ag_84 rfl (cell_bl hd4 _) ?_
        refine op_clear rfl mt_84 rfl H4 at0 D2.hM ?_
        rintro o' w5 hM' H5
        refine op_nil (at_then ?_)
        refine W_rseq ?_
        refine op_move rfl (.int _ _) rfl ?_
        refine op_assign rfl (.int _ _) rfl ?_
        refine op_nil (at_then ?_)
        refine W_ret (leaveM1 (v := (.int _ _)) rfl rfl ?_)
        refine ⟨Db, rfl, by rw [H5.ext.block Db (heap_lt hD4) (by simp; omega)]; exact hD4, ?_⟩
        have hxD := Ext.setB w5 Db (.deferred none)
        obtain ⟨w6, hw6⟩ : ∃ x, x = w5.putObj Db (.deferred none) := ⟨_, rfl⟩
        rw [← hw6] at hxD ⊢
        have hz6 : Ext [bd, bs, bm] w w6 := (hz.then H5.ext (by intro x h; simp only [List.mem_cons, List.not_mem_nil, or_false] at h ⊢; omega)).then hxD (by intro x h; simp only [List.mem_cons, List.not_mem_nil, or_false] at h ⊢; omega)
        have up6 : ∀ {b : Nat} {o : Obj}, w4.heap[b]? = some o → b ≠ bm → b ≠ Db → w6.heap[b]? = some o := fun {b o} g1 g2 g3 => by
          rw [hxD.block b (Nat.lt_of_lt_of_le (heap_lt g1) H5.ext.size) (by simpa using g3), H5.ext.block b (heap_lt g1) (by simpa using g2)]; exact g1
        have hbdm : bd ≠ bm := fun h => by have h1 := D3.rd; rw [h, D3.rm] at h1; omega
        refine ⟨by rw [flushE, ho, hg]; rfl, ?_, ?_⟩
        · rw [flushD, ho, hg]
          refine ⟨role, bs, bm, laid f sv (keysOf m), [], o', D2.swept (A' := sureD A.less) hz6 (by simp [sureD]) ?_ (up6 hs4 (Ne.symm hbms) (by omega)) ?_ hM' (by rw [laid_len, D2.len]) ?_ (sureD_wf D2.wf), hF⟩
          · rw [show (sureD A.less).B.length = A.less.B.length by simp [sureD]]
            exact up6 hd4 hbdm (by omega)
          · rw [hxD.block bm (heap_lt (H5.get at0)) (by simp; omega)]; exact H5.get at0
          · intro i p hp
            obtain ⟨p0, hp0, rfl⟩ : ∃ p0, A.less.B[i]? = some p0 ∧ p = (stands p0, []) := by
              simp only [sureD, List.getElem?_map, Option.map_eq_some_iff] at hp
              obtain ⟨p0, h1, h2⟩ := hp
              exact ⟨p0, h1, h2.symm⟩
            have hi : i < A.less.B.length := (List.getElem?_eq_some_iff.1 hp0).1
            refine ⟨rfl, ?_⟩
            have hr4 : ∀ x ∈ [bd, bs, bm], role x ≠ 4 := by
              intro x h
              simp only [List.mem_cons, List.not_mem_nil, or_false] at h
              rcases h with rfl | rfl | rfl
              · rw [D2.rd]; decide
              · rw [D2.rs]; decide
              · rw [D2.rm]; decide
            rw [laid_get f sv _ (fun k hk => by obtain ⟨v, hv⟩ := keysOf_mem hk; obtain ⟨j, rfl, _⟩ := D2.keys k v hv; omega) (by rw [D2.len]; exact hi)]
            have hpart := D2.part i p0 hp0
            split
            · rename_i hin
              obtain ⟨v, hv⟩ := keysOf_mem hin
              have hne : p0.2 ≠ [] := hpart.2.2.1 (by rw [hv]; rfl)
              exact ⟨_, rfl, .inr ((hf i p0 hp0 hne).1.keep hz6 hr4 fun _ h => h)⟩
            · rename_i hin
              have he : p0.2 = [] := Classical.byContradiction fun hne => by
                obtain ⟨v, hv⟩ := Option.isSome_iff_exists.1 (hpart.2.2.2 hne)
                exact hin (mem_keysOf hv)
              obtain ⟨v, h1, h2⟩ := hpart.1
              refine ⟨v, h1, ?_⟩
              rw [show stands p0 = p0.1 by rw [stands, he]; rfl]
              exact h2.keep hz6 hr4 fun _ h => h
        · refine Turn.trans (.of0 H.ext) (Turn.trans (.of hx1 fun x h => hF x (by rw [List.mem_singleton.1 h, D.rd]; decide)) (.of ((hx17.mono (by simp)).trans hz6) fun x h => ?_) fun x h => .inl h) fun x h => .inl h
          refine hF x ?_
          simp only [List.mem_cons, List.not_mem_nil, or_false] at h
          rcases h with rfl | rfl | rfl
          · rw [D2.rd]; decide
          · rw [D2.rs]; decide
          · rw [D2.rm]; decide
    · intro h3
      replace h3 := dec_f h3
      have hg : A.goes = true := by cases h : A.goes <;> simp_all
      refine W_skip (at_then ?_)
      refine W_rseq ?_
      refine op_move rfl (.int _ _) rfl ?_
      refine op_assign rfl (.int _ _) rfl ?_
      refine op_nil (at_then ?_)
      refine W_ret (leaveM1 (v := (.int _ _)) rfl rfl ?_)
      exact ⟨by rw [flushE, ho, hg]; rfl, by rw [flushD, ho, hg]; exact ⟨role, bs, bm, sv, m, o, D1, hF⟩, Turn.trans (.of0 H.ext) (.of hx1 fun x h => hF x (by rw [List.mem_singleton.1 h, D.rd]; decide)) fun x h => .inl h⟩

end Go.Proofs.YtkmbcpgnafmnpaaDoor

/- A device comes on again. -/
namespace Go.Proofs.YtkmbcpgnafmnpaaDoor
open Go.GV
theorem ag_45_StY : aggB Tryd.prog 45 = some false := by kernel_rfl
theorem ca_59_StY : callable Tryd.prog 59 = true := by kernel_rfl
theorem ca_77_StY : callable Tryd.prog 77 = true := by kernel_rfl
theorem sz_45_StY : tsize Tryd.prog 45 = some 1 := by kernel_rfl
attribute [local irreducible] Wops W Wq Wt

/-! ### Which pick is whose -/
theorem sorted_eq {xs ys : List Int} (hx : xs.Pairwise (· < ·)) (hy : ys.Pairwise (· < ·)) (h : ∀ k, k ∈ xs ↔ k ∈ ys) : xs = ys := by
  induction xs generalizing ys with
  | nil =>
    cases ys with
    | nil => rfl
    | cons y ys => exact absurd ((h y).2 (List.mem_cons_self ..)) (by simp)
  | cons x xs ih =>
    cases ys with
    | nil => exact absurd ((h x).1 (List.mem_cons_self ..)) (by simp)
    | cons y ys =>
      rw [List.pairwise_cons] at hx hy
      have hxy : x = y := by
        have h1 := (h x).1 (List.mem_cons_self ..)
        have h2 := (h y).2 (List.mem_cons_self ..)
        rw [List.mem_cons] at h1 h2
        rcases h1 with h1 | h1
        · exact h1
        · rcases h2 with h2 | h2
          · exact h2.symm
          · have := hy.1 x h1; have := hx.1 y h2; omega
      subst hxy
      congr 1
      refine ih hx.2 hy.2 fun k => ?_
      have h1 := h k
      rw [List.mem_cons, List.mem_cons] at h1
      constructor
      · intro hk
        rcases h1.1 (.inr hk) with h2 | h2
        · have := hx.1 k hk; omega
        · exact h2
      · intro hk
        rcases h1.2 (.inr hk) with h2 | h2
        · have := hy.1 k hk; omega
        · exact h2

/-- The blocks that have something loose, rising. -/
def looseL (B : List (Byt × List Byt)) : List Nat := (List.range B.length).filter fun i => !(B.getD i ([], [])).2.isEmpty
theorem keysOf_sorted {m : List (Int × Value)} (nd : (m.map (·.1)).Nodup) : (keysOf m).Pairwise (· < ·) := by
  have h1 : (keysOf m).Pairwise fun x y => decide (x ≤ y) = true := List.pairwise_mergeSort (by intro a b c; simp; omega) (by intro a b; simp; omega) _
  have h2 : (keysOf m).Nodup := (List.mergeSort_perm _ _).nodup_iff.2 nd
  rw [List.nodup_iff_pairwise_ne] at h2
  exact (h1.and h2).imp fun ⟨h3, h4⟩ => by rw [decide_eq_true_eq] at h3; omega
theorem DevR.keys_eq {w : World} {bd : Nat} {A : Dev} {role : Nat → Nat} {bs bm : Nat} {sv : List Value} {m : List (Int × Value)} {o : Obj} (D : DevR w bd A role bs bm sv m o) : keysOf m = (looseL A.B).map Int.ofNat := by
  refine sorted_eq (keysOf_sorted D.nd) ?_ fun k => ?_
  · rw [List.pairwise_map]
    exact (List.pairwise_lt_range.filter _).imp fun h => by simpa using h
  · constructor
    · intro hk
      obtain ⟨v, hv⟩ := keysOf_mem hk
      obtain ⟨i, rfl, hi⟩ := D.keys k v hv
      obtain ⟨p, hp⟩ : ∃ p, A.B[i]? = some p := ⟨_, List.getElem?_eq_getElem hi⟩
      have hne := (D.part i p hp).2.2.1 (by rw [hv]; rfl)
      refine List.mem_map.2 ⟨i, List.mem_filter.2 ⟨List.mem_range.2 hi, ?_⟩, rfl⟩
      rw [List.getD_eq_getElem?_getD, hp]
      simpa using hne
    · intro hk
      obtain ⟨i, hi, rfl⟩ := List.mem_map.1 hk
      rw [looseL, List.mem_filter, List.mem_range] at hi
      obtain ⟨p, hp⟩ : ∃ p, A.B[i]? = some p := ⟨_, List.getElem?_eq_getElem hi.1⟩
      rw [List.getD_eq_getElem?_getD, hp] at hi
      obtain ⟨v, hv⟩ := Option.isSome_iff_exists.1 ((D.part i p hp).2.2.2 (by simpa using hi.2))
      exact mem_keysOf hv
theorem cntL_range (B : List (Byt × List Byt)) (q : Nat) (hq : q ≤ B.length) : cntL (B.take q) = ((List.range q).filter fun i => !(B.getD i ([], [])).2.isEmpty).length := by
  induction q with
  | zero => rfl
  | succ q ih =>
    obtain ⟨p, hp⟩ : ∃ p, B[q]? = some p := ⟨_, List.getElem?_eq_getElem (by omega)⟩
    rw [take_snoc hp, cntL_snoc, ih (by omega), List.range_succ, List.filter_append, List.length_append, List.filter_cons, List.getD_eq_getElem?_getD, hp]
    by_cases h : p.2 = []
    · simp [h]
    · simp [h]
theorem looseL_at {B : List (Byt × List Byt)} {i q : Nat} (h : (looseL B)[i]? = some q) : i = cntL (B.take q) := by
  have hm := List.mem_of_getElem? h
  rw [looseL, List.mem_filter, List.mem_range] at hm
  obtain ⟨hq, hne⟩ := hm
  rw [cntL_range B q (by omega)]
  have hsp : looseL B = ((List.range q).filter fun i => !(B.getD i ([], [])).2.isEmpty) ++ q :: ((List.range' (q + 1) (B.length - q - 1)).filter fun i => !(B.getD i ([], [])).2.isEmpty) := by
    have hr : List.range B.length = List.range q ++ q :: List.range' (q + 1) (B.length - q - 1) := by
      have h1 : List.range B.length = List.range' 0 q ++ List.range' (0 + 1 * q) (B.length - q) := by
        rw [List.range'_append, List.range_eq_range']; congr 1; omega
      rw [h1, List.range_eq_range']
      congr 1
      obtain ⟨n, hn⟩ : ∃ n, B.length - q = n + 1 := ⟨B.length - q - 1, by omega⟩
      rw [hn, List.range'_succ]
      simp
    rw [looseL, hr, List.filter_append, List.filter_cons, if_pos hne]
  have hnd : (looseL B).Pairwise (· < ·) := List.pairwise_lt_range.filter _
  have h2 : (looseL B)[((List.range q).filter fun i => !(B.getD i ([], [])).2.isEmpty).length]? = some q := by rw [hsp]; simp
  obtain ⟨hi, h3⟩ := List.getElem?_eq_some_iff.1 h
  obtain ⟨hj, h4⟩ := List.getElem?_eq_some_iff.1 h2
  rw [List.pairwise_iff_getElem] at hnd
  rcases Nat.lt_trichotomy i ((List.range q).filter fun i => !(B.getD i ([], [])).2.isEmpty).length with h5 | h5 | h5
  · have := hnd i _ hi hj h5; omega
  · exact h5
  · have := hnd _ i hj hi h5; omega
theorem DevR.key_at {w : World} {bd : Nat} {A : Dev} {role : Nat → Nat} {bs bm : Nat} {sv : List Value} {m : List (Int × Value)} {o : Obj} (D : DevR w bd A role bs bm sv m o) {i q : Nat} (h : (keysOf m)[i]? = some (q : Int)) : i = cntL (A.B.take q) := by
  rw [D.keys_eq, List.getElem?_map, Option.map_eq_some_iff] at h
  obtain ⟨q', h1, h2⟩ := h
  have : q' = q := Int.ofNat.inj h2
  subst this
  exact looseL_at h1
/-- What is kept of each, by its place. -/
theorem keepB_at : ∀ (B : List (Byt × List Byt)) (picks : List Int) {i : Nat} {p : Byt × List Byt}, B[i]? = some p → (keepB B picks)[i]? = some (if p.2 = [] then (p.1, []) else (kept p (pickN p (picks.drop (cntL (B.take i)))), []))
  | [], _, i, p, h => by simp at h
  | b :: B, picks, 0, p, h => by
    simp only [List.getElem?_cons_zero, Option.some.injEq] at h
    subst h
    unfold keepB
    by_cases hb : b.2 = []
    · rw [if_pos hb, if_pos hb]; rfl
    · rw [if_neg hb, if_neg hb]; rfl
  | b :: B, picks, i + 1, p, h => by
    have ih := keepB_at B
    unfold keepB
    rw [List.take_succ_cons]
    by_cases hb : b.2 = []
    · rw [if_pos hb, List.getElem?_cons_succ, ih picks (by simpa using h)]
      congr 6
      simp [cntL, hb]
    · rw [if_neg hb, List.getElem?_cons_succ, ih picks.tail (by simpa using h)]
      congr 4
      rw [show cntL (b :: B.take i) = cntL (B.take i) + 1 by simp [cntL, hb]]
      cases picks <;> simp

theorem set_same {α : Type} {l : List α} {i : Nat} {x : α} (h : l[i]? = some x) : l.set i x = l := by
  apply List.ext_getElem?
  intro j
  rw [List.getElem?_set]
  by_cases hj : i = j
  · subst hj; rw [if_pos rfl, if_pos (List.getElem?_eq_some_iff.1 h).1, h]
  · rw [if_neg hj]
/-- What is laid of each. -/
theorem DevR.picked {w : World} {bd : Nat} {A : Dev} {role : Nat → Nat} {bs bm : Nat} {sv : List Value} {m : List (Int × Value)} {o : Obj} (D : DevR w bd A role bs bm sv m o) (x : Nat → Nat) :
    ∃ f : Nat → Value, ∀ i p, A.B[i]? = some p → p.2 ≠ [] → x i ≤ p.2.length → SureAt w role (f i) (kept p (x i)) ∧ (x i = 0 → sv[i]? = some (f i)) ∧ (0 < x i → BytesAt w role (f i) (kept p (x i)) ∧ ∃ al n c fl vs, mget m (i : Int) = some (.slice al n c) ∧ OS al n c 1 fl vs ∧ n = p.2.length ∧ (∀ y ∈ ent al 23 fl, w.heap[y.1]? = some y.2 ∧ role y.1 = 5 + i) ∧ vs[x i - 1]? = some (f i)) := by
  have h : ∀ i : Nat, ∃ v, ∀ p, A.B[i]? = some p → p.2 ≠ [] → x i ≤ p.2.length → SureAt w role v (kept p (x i)) ∧ (x i = 0 → sv[i]? = some v) ∧ (0 < x i → BytesAt w role v (kept p (x i)) ∧ ∃ al n c fl vs, mget m (i : Int) = some (.slice al n c) ∧ OS al n c 1 fl vs ∧ n = p.2.length ∧ (∀ y ∈ ent al 23 fl, w.heap[y.1]? = some y.2 ∧ role y.1 = 5 + i) ∧ vs[x i - 1]? = some v) := fun i => by
    by_cases hp : ∃ p, A.B[i]? = some p ∧ p.2 ≠ [] ∧ x i ≤ p.2.length
    · obtain ⟨p, hp, hne, hx⟩ := hp
      obtain ⟨⟨sv0, hs0, hs1⟩, ⟨al, n, c, fl, vs, hv, O, hent, hvs⟩, hiff⟩ := D.part i p hp
      by_cases h0 : x i = 0
      · refine ⟨sv0, fun p' hp' _ _ => ?_⟩
        rw [hp] at hp'
        cases hp'
        exact ⟨by rw [h0]; exact hs1, fun _ => hs0, fun h => absurd h (by omega)⟩
      · have hn : n = vs.length := by have := O.llen; omega
        have hvl := hvs.1
        obtain ⟨b, hb⟩ := get_some (l := p.2) (i := x i - 1) (by omega)
        obtain ⟨v, hvv⟩ := get_some (l := vs) (i := x i - 1) (by omega)
        have hst : kept p (x i) = b := by
          rw [kept, if_neg h0, List.getD_eq_getElem?_getD, hb]; rfl
        refine ⟨v, fun p' hp' _ _ => ?_⟩
        rw [hp] at hp'
        cases hp'
        have hB : BytesAt w role v (kept p (x i)) := by rw [hst]; exact hvs.2 _ _ _ hvv hb
        refine ⟨.inr hB, fun h => absurd h h0, fun _ => ⟨hB, al, n, c, fl, vs, ?_, O, by omega, hent, hvv⟩⟩
        obtain ⟨u, hu⟩ := Option.isSome_iff_exists.1 (hiff.2 hne)
        rw [hu] at hv ⊢
        rw [← hv]; rfl
    · exact ⟨.nilFunc, fun p h1 h2 h3 => absurd ⟨p, h1, h2, h3⟩ hp⟩
  exact ⟨fun i => Classical.choose (h i), fun i => Classical.choose_spec (h i)⟩


set_option maxRecDepth 20000 in
set_option maxHeartbeats 2000000 in
theorem donp_ok {w : World} {bd : Nat} {A : Dev} {F : Nat → Prop} (a : Option Addr) (c n : Nat) (picks : List Int) (R : Rd w a 1 (fun x : Int => [.int .i64 x]) picks) (hn : picks.length = n) (hm : n ≤ 9223372036854775000) (hc : n ≤ c) (hFa : picks = [] ∨ ¬ F (adr a).block) (hi64 : ∀ x ∈ picks, -9223372036854775808 ≤ x ∧ x ≤ 9223372036854775807) {mx : Nat} (hfew : Few A mx) (hmx : mx ≤ 1000000000000) (DA : DevAt w bd A F) :
    Ret Tryd.prog 24 #[ptr bd, .slice a n c] w fun v w' => v = .int .i64 (onE A) ∧ DevAt w' bd (onD A picks) F ∧ Turn F w w' := by
  subst hn
  obtain ⟨w0, rfl⟩ : ∃ w0, w0 = w := ⟨_, rfl⟩
  obtain ⟨role, bs, bm, sv, m, o, D, hF⟩ := DA
  have H := Ctx.start w0 []
  refine ret_of_WM (fn := Tryd.f24) Tryd.func24 rfl [.pointer (some ⟨bd, 0, none⟩), .slice a picks.length c] rfl (by kernel_rfl) ?_
  refine W_rseq ?_
  refine op_box rfl _ (.pointer _) rfl rfl H ?_
  rintro b2 w - H
  refine op_box rfl _ (.slice _ _ _) rfl rfl H ?_
  rintro b3 w - H
  refine op_assign rfl (.int _ _) rfl ?_
  refine op_nil (at_then ?_)
  refine W_seq ?_
  refine W_block ?_
  refine W_rseq ?_
  first | refine op_ldb rfl ag_27 rfl H (by first | exact at0 | exact at1 | exact at2 | exact at3 | exact at4 | exact at5 | exact at6 | exact at7 | exact at8 | exact at9) rfl ?_ | refine op_ld rfl ag_27 rfl (Ctx.old0 H (cell_bl D.hd _)) ?_
  refine op_eqlptr rfl un_27 rfl ?_
  refine op_assign rfl (.bool _) rfl ?_
  refine op_nil (at_then ?_)
  refine W_cond0 rfl ?_
  refine W_rseq ?_
  first | refine op_ldb rfl ag_27 rfl H (by first | exact at0 | exact at1 | exact at2 | exact at3 | exact at4 | exact at5 | exact at6 | exact at7 | exact at8 | exact at9) rfl ?_ | refine op_ld rfl ag_27 rfl (Ctx.old0 H (cell_bl D.hd _)) ?_
  refine op_nilCheck rfl rfl ?_
  refine op_fieldAddr rfl fo_86_3 rfl ?_
  first | refine op_ldb rfl ag_4 rfl H (by first | exact at0 | exact at1 | exact at2 | exact at3 | exact at4 | exact at5 | exact at6 | exact at7 | exact at8 | exact at9) rfl ?_ | refine op_ld rfl ag_4 rfl (Ctx.old0 H (cell_bl D.hd _)) ?_
  refine op_not rfl rfl ?_
  refine op_assign rfl (.bool _) rfl ?_
  refine op_nil (at_then ?_)
  refine W_cond _ rfl ?_ ?_
  · intro h1
    replace h1 := nvar_t h1
    have ho : A.on = true := by cases h : A.on <;> simp_all
    refine W_rseq ?_
    refine op_assign rfl (.int _ _) rfl ?_
    refine op_nil (at_then ?_)
    refine W_ret (ret_block (ret_then (leaveM1 (v := (.int _ _)) rfl rfl ?_)))
    exact ⟨by rw [onE, ho]; rfl, by rw [onD, ho]; exact ⟨role, bs, bm, sv, m, o, D.keep0 H.ext, hF⟩, .of0 H.ext⟩
  · intro h1
    replace h1 := nvar_f h1
    have ho : A.on = false := by cases h : A.on <;> simp_all
    have hb2 := H.get at1
    have hb3 := H.get at0
    have ho2 : w0.heap.size ≤ b2 := (H.own _ (List.mem_cons_of_mem _ (List.mem_cons_self ..))).elim (fun h => by cases h) id
    have ho3 : w0.heap.size ≤ b3 := (H.own _ (List.mem_cons_self ..)).elim (fun h => by cases h) id
    have hb23 : b3 ≠ b2 := H.ne at0 at1 (by decide)
    have hx00 := H.ext
    have D1 := D.keep0 H.ext
    refine W_skip (at_block (at_then ?_))
    refine W_seq ?_
    refine W_rseq ?_
    first | refine op_ldb rfl ag_27 rfl H (by first | exact at0 | exact at1 | exact at2 | exact at3 | exact at4 | exact at5 | exact at6 | exact at7 | exact at8 | exact at9) rfl ?_ | refine op_ld rfl ag_27 rfl (cell_bl hb2 _) ?_
    refine op_call rfl ca_59_StY (rising_ok bd _) rfl ?_
    rintro v w ⟨bx, rfl, hbx, hbxn, hx17⟩
    refine op_nil (at_then ?_)
    refine W_block ?_
    have D2 := D1.keep0 hx17
    have hb2L : w.heap[b2]? = some (Bl 27 [ptr bd]) := by rw [hx17.block b2 (heap_lt hb2) (by simp)]; exact hb2
    have hb3L : w.heap[b3]? = some (Bl 45 [.slice a picks.length c]) := by rw [hx17.block b3 (heap_lt hb3) (by simp)]; exact hb3
    obtain ⟨xq, hxq⟩ : ∃ x : Nat → Nat, x = fun q => pickN (A.B.getD q ([], [])) (picks.drop (cntL (A.B.take q))) := ⟨_, rfl⟩
    obtain ⟨f, hf⟩ := D2.picked xq
    refine W_rangeFunc rfl ca_77_StY ?_
    intro fn tmps hts htm Db l w2 hDb hl hx2 hD hrec
    have D3 := D2.keep0 hx2
    have up2 : ∀ {b : Nat} {o : Obj}, w.heap[b]? = some o → w2.heap[b]? = some o := fun {b o} g => by rw [hx2.block b (heap_lt g) (by simp)]; exact g
    obtain ⟨lo, hlo, hrec'⟩ : ∃ lo, lo = _ ∧ w2.heap[l]? = some (.loop lo) := ⟨_, rfl, hrec⟩
    have hhi := D3.wf.hi
    have hlen : m.length ≤ 4096 := Nat.le_trans D3.few hhi
    have hbs0 := D.lt bs (by rw [D.rs]; decide)
    have hbs2 := D2.lt bs (by rw [D2.rs]; decide)
    have hbd1 := D2.lt bd (by rw [D2.rd]; decide)
    have hbm1 := D2.lt bm (by rw [D2.rm]; decide)
    have hbdo := D.lt bd (by rw [D.rd]; decide)
    have hbmo := D.lt bm (by rw [D.rm]; decide)
    have hbxL := heap_lt hbx
    have hb3s := heap_lt hb3L
    have hw1 := heap_lt hb3
    have hbsl : bs ≠ l := by omega
    have hbxs : bx ≠ bs := by omega
    have hbx3 : bx ≠ b3 := by omega
    have hbds : bd ≠ bs := fun h => by have h1 := D3.rd; rw [h, D3.rs] at h1; omega
    have hbms : bm ≠ bs := fun h => by have h1 := D3.rm; rw [h, D3.rs] at h1; omega
    have hx02 : Ext [] w0 w2 := (H.ext.trans hx17).trans hx2
    refine Ret.mono (rising1_ok (l := l) (up2 hbx) D3.hd D3.hm D3.hM D3.nd hlen (fun p hp => by have := D3.bound p hp; omega)
      (fun wK i w' => w'.heap[l]? = some (.loop lo) ∧ Ext [bs, b3, l] wK w' ∧ w'.heap[bs]? = some (Bl 23 (laid f sv ((keysOf m).take i))) ∧
        ∃ a' c', w'.heap[b3]? = some (Bl 45 [.slice a' (picks.drop i).length c']) ∧ Rd w0 a' 1 (fun x : Int => [.int .i64 x]) (picks.drop i) ∧ (picks.drop i).length ≤ c' ∧ (adr a').block = (adr a).block) ?_ ?_ ?_) ?_
    · intro wK hx
      refine ⟨by rw [hx.block l (heap_lt hrec') (by simp)]; exact hrec', .refl _ _, ?_, a, c, ?_, R, hc, rfl⟩
      · rw [hx.block bs (heap_lt D3.hs) (by simp)]; exact D3.hs
      · rw [hx.block b3 (heap_lt (up2 hb3L)) (by simp)]; exact up2 hb3L
    · rintro wK i w' hx ⟨h1, h2, h3, h4⟩
      have e1 : ∀ {b : Nat} {o : Obj}, w.heap[b]? = some o → b ≠ bs → b ≠ b3 → w'.heap[b]? = some o := fun {b o} g1 g2 g4 => by
        have g3 : b ≠ l := by have := heap_lt g1; omega
        rw [h2.block b (Nat.lt_of_lt_of_le (heap_lt (up2 g1)) hx.size) (by simp [g2, g3, g4]), hx.block b (heap_lt (up2 g1)) (by simp)]; exact up2 g1
      refine ⟨e1 hbx hbxs hbx3, ⟨bs, _, _, e1 D2.hd hbds (by omega)⟩, e1 D2.hm hbms (by omega), _, h2, fun x h => ?_⟩
      simp only [List.mem_cons, List.not_mem_nil, or_false] at h
      rcases h with rfl | rfl | rfl
      · exact heap_lt D3.hs
      · exact heap_lt (up2 hb3L)
      · exact heap_lt hrec'
    · rintro wK i k v w' hxK hk hv ⟨h1, h2, h3, a', c', h4, R', hc', ha'⟩
      obtain ⟨q, rfl, hq⟩ := D3.keys _ v hv
      obtain ⟨p, hp⟩ : ∃ p, A.B[q]? = some p := ⟨_, List.getElem?_eq_getElem hq⟩
      have hne : p.2 ≠ [] := (D3.part q p hp).2.2.1 (by rw [hv]; rfl)
      have hiq := D3.key_at hk
      have hxv : xq q = pickN p (picks.drop i) := by rw [hxq, hiq]; dsimp only; rw [List.getD_eq_getElem?_getD, hp]; rfl
      have hxle : xq q ≤ p.2.length := by
        rw [hxv]; unfold pickN
        split
        · exact Nat.zero_le _
        · exact Nat.le_of_lt_succ (Nat.mod_lt _ (Nat.succ_pos _))
      obtain ⟨hsu, hz0, hby⟩ := hf q p hp hne hxle
      obtain ⟨_, ⟨al0, nl, cl0, fl0, vs0, hv0, O0, _, hvs0⟩, _⟩ := D2.part q p hp
      rw [hv] at hv0
      have hv0 : v = .slice al0 nl cl0 := hv0
      have hnl : nl = p.2.length := by have := O0.llen; have := hvs0.1; omega
      subst hv0
      have hpl := hfew p (List.mem_of_getElem? hp)
      subst hlo
      refine yield_of h1 rfl (round_of_W _ (sim_two hts htm (by decide) (by decide)) (by kernel_rfl) ?_)
      refine W_rseq ?_
      refine op_assign rfl (.int _ _) rfl ?_
      refine op_nil (at_then ?_)
      refine W_region ?_
      refine op_assign rfl (.slice _ _ _) rfl ?_
      refine op_nil ?_
      refine begin_of h1 rfl ?_
      intro wR lo2 hxR hlR hlo2
      have hb3l : b3 ≠ l := by omega
      have eR : ∀ {b : Nat} {o : Obj}, w.heap[b]? = some o → b ≠ bs → b ≠ b3 → wR.heap[b]? = some o := fun {b o} g1 g2 g4 => by
        have g3 : b ≠ l := by have := heap_lt g1; omega
        have g4 : w'.heap[b]? = some o := by
          rw [h2.block b (Nat.lt_of_lt_of_le (heap_lt (up2 g1)) hxK.size) (by simp [g2, g3, g4]), hxK.block b (heap_lt (up2 g1)) (by simp)]; exact up2 g1
        rw [hxR.block b (heap_lt g4) (by simpa using g3)]; exact g4
      have hx0R : Ext [bs, b3, l] w0 wR := ((hx02.trans hxK).mono (by simp)).trans (h2.trans (hxR.mono (by simp)))
      have hRok : picks.drop i ≠ [] → (adr a').block ∉ [bs, b3, l] := fun hne => by
        have hne' : picks ≠ [] := fun h => hne (by rw [h]; simp)
        have hlt : (adr a').block < w0.heap.size := by
          cases hd : picks.drop i with
          | nil => exact absurd hd hne
          | cons x xs =>
            have h9 := World.block_lt_of_cell? w0 ⟨(adr a').block, _, none⟩ (R'.cell 0 x (by rw [hd]; rfl) 0 _ rfl (by decide))
            exact h9
        have hnF := hFa.resolve_left hne'
        have : (adr a').block ≠ bs := fun h => hnF (by rw [← ha', h]; exact hF bs (by rw [D.rs]; decide))
        simp only [List.mem_cons, List.not_mem_nil, or_false]
        omega
      have RR : Rd wR a' 1 (fun x : Int => [.int .i64 x]) (picks.drop i) := by
        by_cases hne : picks.drop i = []
        · rw [hne]; exact Rd.nil
        · exact R'.ext hx0R (hRok hne)
      have hbdR := eR D2.hd hbds (by omega)
      have hb2R := eR hb2L (by omega) (Ne.symm hb23)
      have hb3R : wR.heap[b3]? = some (Bl 45 [.slice a' (picks.drop i).length c']) := by rw [hxR.block b3 (heap_lt h4) (by simpa using hb3l)]; exact h4
      have hbsR : wR.heap[bs]? = some (Bl 23 (laid f sv ((keysOf m).take i))) := by rw [hxR.block bs (heap_lt h3) (by simpa using hbsl)]; exact h3
      have hlv : (laid f sv ((keysOf m).take i)).length = sv.length := laid_len ..
      have hsvl := D3.len
      refine W_block ?_
      refine W_rseq ?_
      refine op_assign rfl (.int _ _) rfl ?_
      refine op_nil (at_then ?_)
      refine W_seq ?_
      refine W_rseq ?_
      first | refine op_ldb rfl ag_45_StY rfl H (by first | exact at0 | exact at1 | exact at2 | exact at3 | exact at4 | exact at5 | exact at6 | exact at7 | exact at8 | exact at9) rfl ?_ | refine op_ld rfl ag_45_StY rfl (cell_bl hb3R 0) ?_
      refine op_len rfl el_45 rfl ?_
      refine op_gtr rfl rfl rfl ?_
      refine op_nil (at_then ?_)
      refine W_joinK 17163092096 (α := Unit) (fun _ => [(7, .int .i64 (xq q : Int))]) (fun _ w5 => Ext [bs, b3, l] wR w5 ∧ (∀ x o, wR.heap[x]? = some o → x ≠ b3 → w5.heap[x]? = some o) ∧ ∃ a' c', w5.heap[b3]? = some (Bl 45 [.slice a' (picks.drop (i + 1)).length c']) ∧ Rd w0 a' 1 (fun x : Int => [.int .i64 x]) (picks.drop (i + 1)) ∧ (picks.drop (i + 1)).length ≤ c' ∧ (adr a').block = (adr a).block) rfl ?_ ?_
      · skip
        refine W_cond _ rfl ?_ ?_
        · intro g1
          replace g1 := dec_t g1
          obtain ⟨x, hx0⟩ := get_some (l := picks.drop i) (i := 0) (by omega)
          have hxx : picks.drop i = x :: picks.drop (i + 1) := by
            cases hd : picks.drop i with
            | nil => rw [hd] at hx0; cases hx0
            | cons y ys =>
              rw [hd] at hx0; cases hx0
              rw [← List.drop_drop, hd]; rfl
          have hxi := hi64 x (List.mem_of_mem_drop (by rw [hxx]; exact List.mem_cons_self ..))
          have HT : ∀ x, Ext [] wR x → Ctx wR [] x [] := fun x hx => (Ctx.start wR []).call hx
          have hdl : (picks.drop i).length = (picks.drop (i + 1)).length + 1 := by rw [hxx]; rfl
          refine W_segz [([0, 1, 2, 3, 4, 5, 6, 7, 8, 9, 10], 11)] (fun x => Ext [] wR x) [11] mixed (by kernel_rfl) (Ext.drew _ wR) ?_
          refine seg_cons rfl rfl ?_
          first | refine t_ldb rfl ag_45_StY rfl HT (by first | exact at0 | exact at1 | exact at2 | exact at3 | exact at4 | exact at5 | exact at6 | exact at7 | exact at8 | exact at9) rfl ?_ | refine t_ld rfl ag_45_StY rfl (fun _ hx => hx.cell (cell_bl hb3R 0) (by simp)) ?_ | refine t_ld rfl ag_45_StY rfl (fun _ hx => (RR.ext0 hx).one (f := fun x => .int .i64 x) hx0) ?_
          first | refine t_indexRd RR rfl el_45 sz_3 rfl rfl (by omega) (by omega) (by first | rfl | omega) ?_ | refine t_indexAddr rfl el_45 sz_3 rfl rfl (by omega) (by omega) ?_
          first | refine t_ldb rfl ag_3 rfl HT (by first | exact at0 | exact at1 | exact at2 | exact at3 | exact at4 | exact at5 | exact at6 | exact at7 | exact at8 | exact at9) rfl ?_ | refine t_ld rfl ag_3 rfl (fun _ hx => hx.cell (cell_bl hb3R 0) (by simp)) ?_ | refine t_ld rfl ag_3 rfl (fun _ hx => (RR.ext0 hx).one (f := fun x => .int .i64 x) hx0) ?_
          refine t_max2 rfl rfl rfl ?_
          refine t_move rfl (.slice _ _ _) rfl ?_
          refine t_len rfl el_58 rfl ?_
          refine t_add_i64 rfl rfl rfl (by omega) (by omega) ?_
          refine t_rem rfl rfl rfl (by omega) (by omega) ?_
          first | refine t_ldb rfl ag_45_StY rfl HT (by first | exact at0 | exact at1 | exact at2 | exact at3 | exact at4 | exact at5 | exact at6 | exact at7 | exact at8 | exact at9) rfl ?_ | refine t_ld rfl ag_45_StY rfl (fun _ hx => hx.cell (cell_bl hb3R 0) (by simp)) ?_ | refine t_ld rfl ag_45_StY rfl (fun _ hx => (RR.ext0 hx).one (f := fun x => .int .i64 x) hx0) ?_
          refine t_slice_lo rfl el_45 sz_3 rfl rfl (by omega) (by omega) ?_
          refine t_assign rfl (.int _ _) rfl ?_
          refine t_nil ?_
          skip
          refine op_stb (.slice _ _ _) rfl sz_45_StY rfl rfl rfl (Ctx.start1 (show (World.drew wR).heap[b3]? = _ from hb3R)) at0 (Nat.succ_pos _) ?_
          rintro wE HE
          refine op_nil (at_segz rfl ?_)
          refine seg_nil ?_
          refine at_then ?_
          refine ⟨(), rfl, ⟨?_, trivial⟩, (Ext.drew _ _).trans (HE.ext.mono (by simp)), fun y o h hy => by rw [HE.ext.block y (heap_lt h) (by simpa using hy)]; exact h, cutA a' c' 1 1, c' - 1, ?_, ?_, ?_, ?_⟩
          · show Value.int .i64 _ = _
            rw [hxv, hxx, ← pick_num, hnl]
          · rw [HE.get at0, hdl]; rfl
          · have h9 := R'.cut 1 c' hc'
            rwa [List.drop_drop] at h9
          · omega
          · rw [← ha']; unfold cutA; split
            · rfl
            · cases a' <;> rfl
        · intro g1
          replace g1 := dec_f g1
          have hd0 : picks.drop i = [] := List.length_eq_zero_iff.1 (by omega)
          refine W_skip (at_then ?_)
          have hd1 : picks.drop (i + 1) = [] := by rw [← List.drop_drop, hd0]; rfl
          refine ⟨(), rfl, ⟨?_, trivial⟩, .refl _ _, fun _ _ h _ => h, a', c', ?_, ?_, ?_, ha'⟩
          · show Value.int .i64 0 = _
            rw [hxv, hd0]; rfl
          · rw [hd1, ← hd0]; exact hb3R
          · rw [hd1]; exact Rd.nil
          · rw [hd1]; exact Nat.zero_le _
      · rintro - j7 w5 ⟨hx5, hs5, a6, c6, h6, R6, hc6, ha6⟩
        have e5 : ∀ {b : Nat} {o : Obj}, w.heap[b]? = some o → b ≠ bs → b ≠ b3 → w5.heap[b]? = some o := fun {b o} g1 g2 g3 => hs5 _ _ (eR g1 g2 g3) g3
        have hb25 := e5 hb2L (by omega) (Ne.symm hb23)
        have hbd5 := e5 D2.hd hbds (by omega)
        have hbs5 := hs5 _ _ hbsR (by omega)
        have hl5 := hs5 _ _ hlR (Ne.symm hb3l)
        refine W_rseq ?_
        refine op_move rfl (.int _ _) rfl ?_
        refine op_gtr rfl rfl rfl ?_
        refine op_nil (at_then ?_)
        refine W_cond _ rfl ?_ ?_
        · intro g1
          replace g1 := dec_t g1
          have hgt : 0 < xq q := by omega
          obtain ⟨hB, al, n9, c9, fl, vs, hv9, O, hnn, hent, hlast⟩ := hby hgt
          rw [hv] at hv9
          cases hv9
          have Rl : Rd w5 al0 1 (fun v : Value => [v]) vs := OS.rdV O fun x hx => by
            have hlt := heap_lt (hent x hx).1
            refine e5 (hent x hx).1 (fun h => by have := (hent x hx).2; rw [h, D3.rs] at this; omega) fun h => ?_
            have h7 := (hent x hx).2
            have := D.lt x.1 (by omega)
            omega
          have hvn : nl = vs.length := by have := O.llen; omega
          obtain ⟨a8, c8, hfq, _⟩ := hB
          rw [hfq] at hlast
          have HT : ∀ x, Ext [] w5 x → Ctx w5 [] x [] := fun x hx => (Ctx.start w5 []).call hx
          refine W_segz [([0, 1, 2, 3, 4, 5, 6, 7, 8, 9, 10], 11)] (fun x => Ext [] w5 x) [11] mixed (by kernel_rfl) (Ext.drew _ w5) ?_
          refine seg_cons rfl rfl ?_
          first | refine t_ldb rfl ag_27 rfl HT (by first | exact at0 | exact at1 | exact at2 | exact at3 | exact at4 | exact at5 | exact at6 | exact at7 | exact at8 | exact at9) rfl ?_ | refine t_ld rfl ag_27 rfl (fun _ hx => hx.cell (cell_bl hb25 0) (by simp)) ?_ | refine t_ld rfl ag_27 rfl (fun _ hx => hx.cell (cell_bl hbd5 (0 + 0)) (by simp)) ?_ | refine t_ld rfl ag_27 rfl (fun _ hx => (Rl.ext0 hx).one (f := fun v => v) hlast) ?_
          refine t_nilCheck rfl rfl ?_
          refine t_fieldAddr rfl fo_86_0 rfl ?_
          first | refine t_ldb rfl ag_58 rfl HT (by first | exact at0 | exact at1 | exact at2 | exact at3 | exact at4 | exact at5 | exact at6 | exact at7 | exact at8 | exact at9) rfl ?_ | refine t_ld rfl ag_58 rfl (fun _ hx => hx.cell (cell_bl hb25 0) (by simp)) ?_ | refine t_ld rfl ag_58 rfl (fun _ hx => hx.cell (cell_bl hbd5 (0 + 0)) (by simp)) ?_ | refine t_ld rfl ag_58 rfl (fun _ hx => (Rl.ext0 hx).one (f := fun v => v) hlast) ?_
          refine t_move rfl (.int _ _) rfl ?_
          refine t_move rfl (.slice _ _ _) rfl ?_
          refine t_move rfl (.int _ _) rfl ?_
          refine t_sub_i64 rfl rfl rfl (by omega) (by omega) ?_
          rw [show ((xq q : Int) - 1) = ((xq q - 1 : Nat) : Int) by omega]
          first | refine t_indexRd Rl rfl el_58 sz_23 rfl rfl (by omega) (by omega) (by first | rfl | omega) ?_ | refine t_indexAddr rfl el_58 sz_23 rfl rfl (by omega) (by omega) ?_
          first | refine t_ldb rfl ag_23 rfl HT (by first | exact at0 | exact at1 | exact at2 | exact at3 | exact at4 | exact at5 | exact at6 | exact at7 | exact at8 | exact at9) rfl ?_ | refine t_ld rfl ag_23 rfl (fun _ hx => hx.cell (cell_bl hb25 0) (by simp)) ?_ | refine t_ld rfl ag_23 rfl (fun _ hx => hx.cell (cell_bl hbd5 (0 + 0)) (by simp)) ?_ | refine t_ld rfl ag_23 rfl (fun _ hx => (Rl.ext0 hx).one (f := fun v => v) hlast) ?_
          first | refine t_indexRd Rl rfl el_58 sz_23 rfl rfl (by omega) (by omega) (by first | rfl | omega) ?_ | refine t_indexAddr rfl el_58 sz_23 rfl rfl (by omega) (by omega) ?_
          refine t_nil ?_
          skip
          refine op_stb (.slice _ _ _) rfl sz_23 rfl rfl rfl (Ctx.start1 (show (World.drew w5).heap[bs]? = _ from hbs5)) at0 (by omega) ?_
          rintro wE HE
          refine op_nil (at_segz rfl ?_)
          refine seg_nil ?_
          refine at_block ?_
          have hlE : wE.heap[l]? = some (.loop lo2) := by rw [HE.ext.block l (heap_lt hl5) (by simp; omega)]; exact hl5
          refine round_end hlE hlo2 rfl rfl ?_
          intro wF hxF hlF
          refine ⟨rfl, hlF, (h2.trans (hxR.mono (by simp))).trans (hx5.trans ((Ext.drew _ _).trans ((HE.ext.mono (by simp)).trans (hxF.mono (by simp))))), ?_, a6, c6, ?_, R6, hc6, ha6⟩
          · rw [hxF.block bs (heap_lt (HE.get at0)) (by simpa using hbsl), HE.get at0, take_snoc hk, laid_snoc]
            simp only [Int.toNat_natCast, Nat.zero_add, Nat.mul_one, hfq]
          · have h7 : wE.heap[b3]? = some (Bl 45 [.slice a6 (picks.drop (i + 1)).length c6]) := by rw [HE.ext.block b3 (heap_lt h6) (by simp; omega)]; exact h6
            rw [hxF.block b3 (heap_lt h7) (by simpa using hb3l)]; exact h7
        · intro g1
          replace g1 := dec_f g1
          have hz9 : xq q = 0 := by omega
          refine W_skip (at_block ?_)
          refine round_end hl5 hlo2 rfl rfl ?_
          intro wF hxF hlF
          refine ⟨rfl, hlF, (h2.trans (hxR.mono (by simp))).trans (hx5.trans (hxF.mono (by simp))), ?_, a6, c6, ?_, R6, hc6, ha6⟩
          · rw [hxF.block bs (heap_lt hbs5) (by simpa using hbsl), hbs5, take_snoc hk, laid_snoc, Int.toNat_natCast, set_same]
            rw [laid_get f sv _ (fun k hk => by obtain ⟨v, hv⟩ := keysOf_mem (List.mem_of_mem_take hk); obtain ⟨j, rfl, _⟩ := D2.keys k v hv; omega) (by rw [D2.len]; exact hq), hz0 hz9]
            split <;> rfl
          · rw [hxF.block b3 (heap_lt h6) (by simpa using hb3l)]; exact h6
    · rintro v w3 ⟨wK, hxK, hl3, hx3, hs3, _⟩
      rw [← keysOf_len m, List.take_length] at hs3
      refine ⟨_, hl3, by subst hlo; exact (fun h => by cases h), jumped_none (by rw [hlo]) ?_⟩
      have hx4 := Ext.setB w3 l (.loop { lo with state := .exhausted })
      generalize w3.putObj l (.loop { lo with state := .exhausted }) = w4 at hx4 ⊢
      refine at_block (at_then ?_)
      have hz : Ext [bd, bs, bm, b3] w w4 := (((hx2.trans hxK).mono (by simp)).then hx3 (by intro x h; simp only [List.mem_cons, List.not_mem_nil, or_false] at h ⊢; omega)).then hx4 (by intro x h; simp only [List.mem_cons, List.not_mem_nil, or_false] at h ⊢; omega)
      have up4 : ∀ {b : Nat} {o : Obj}, w.heap[b]? = some o → b ≠ bs → b ≠ b3 → w4.heap[b]? = some o := fun {b o} g1 g2 g4 => by
        have g3 : b ≠ l := by have := heap_lt g1; omega
        rw [hx4.block b (Nat.lt_of_lt_of_le (heap_lt (up2 g1)) (Nat.le_trans hxK.size hx3.size)) (by simpa using g3), hx3.block b (Nat.lt_of_lt_of_le (heap_lt (up2 g1)) hxK.size) (by simp [g2, g3, g4]), hxK.block b (heap_lt (up2 g1)) (by simp)]; exact up2 g1
      have hD4 : w4.heap[Db]? = some (.deferred (some [])) := by
        have g3 : Db ≠ l := by omega
        have g2 : Db ≠ bs := by omega
        have g4 : Db ≠ b3 := by omega
        rw [hx4.block Db (Nat.lt_of_lt_of_le (heap_lt hD) (Nat.le_trans hxK.size hx3.size)) (by simpa using g3), hx3.block Db (Nat.lt_of_lt_of_le (heap_lt hD) hxK.size) (by simp [g2, g3, g4]), hxK.block Db (heap_lt hD) (by simp)]; exact hD
      have hs4 : w4.heap[bs]? = some (Bl 23 (laid f sv (keysOf m))) := by
        rw [hx4.block bs (heap_lt hs3) (by simpa using hbsl)]; exact hs3
      have hb24 := up4 hb2L (by omega) (Ne.symm hb23)
      have hd4 := up4 D2.hd hbds (by omega)
      have H4 := Ctx.start1 (up4 D2.hm hbms (by omega))
      refine W_rseq ?_
      first | refine op_ldb rfl ag_27 rfl H (by first | exact at0 | exact at1 | exact at2 | exact at3 | exact at4 | exact at5 | exact at6 | exact at7 | exact at8 | exact at9) rfl ?_ | refine op_ld rfl ag_27 rfl (cell_bl hb24 _) ?_ | refine op_ld rfl ag_27 rfl (cell_bl hd4 _) ?_
      refine op_nilCheck rfl rfl ?_
      refine op_fieldAddr rfl fo_86_1 rfl ?_
      first | refine op_ldb rfl ag_84 rfl H (by first | exact at0 | exact at1 | exact at2 | exact at3 | exact at4 | exact at5 | exact at6 | exact at7 | exact at8 | exact at9) rfl ?_ | refine op_ld rfl ag_84 rfl (cell_bl hb24 _) ?_ | refine op_ld rfl ag_84 rfl (cell_bl hd4 _) ?_
      refine op_clear rfl mt_84 rfl H4 at0 D2.hM ?_
      rintro o' w5 hM' H5
      refine op_nil (at_then ?_)
      have hbdm : bd ≠ bm := fun h => by have h1 := D3.rd; rw [h, D3.rm] at h1; omega
      have hb25 : w5.heap[b2]? = some (Bl 27 [ptr bd]) := by rw [H5.ext.block b2 (heap_lt hb24) (by simp; omega)]; exact hb24
      have hd5 : w5.heap[bd]? = some (Bl TD (DB A.B.length bs bm A.left A.on)) := by rw [H5.ext.block bd (heap_lt hd4) (by simpa using hbdm)]; exact hd4
      replace H := Ctx.start1 hd5
      have HT : ∀ x, Ext [bd] w5 x → Ctx w5 [bd] x [] := fun x hx => ⟨hx, by simp, List.Pairwise.nil, by simp⟩
      refine W_sseqz [([0, 1, 2, 3], 4), ([5, 6], 7)] (fun x => Ext [bd] w5 x) [] mixed (by kernel_rfl) (Ext.drew _ w5) ?_
      refine seg_cons rfl rfl ?_
      first | refine t_ldb rfl ag_27 rfl HT (by first | exact at0 | exact at1 | exact at2 | exact at3 | exact at4 | exact at5 | exact at6 | exact at7 | exact at8 | exact at9) rfl ?_ | refine t_ld rfl ag_27 rfl (fun _ hx => hx.cell (cell_bl hb25 0) (by simp; omega)) ?_
      first | refine t_ldb rfl ag_27 rfl HT (by first | exact at0 | exact at1 | exact at2 | exact at3 | exact at4 | exact at5 | exact at6 | exact at7 | exact at8 | exact at9) rfl ?_ | refine t_ld rfl ag_27 rfl (fun _ hx => hx.cell (cell_bl hb25 0) (by simp; omega)) ?_
      refine t_nilCheck rfl rfl ?_
      refine t_fieldAddr rfl fo_86_3 rfl ?_
      refine t_nil ?_
      replace H := H.drew
      refine op_stb (.bool _) rfl sz_4 rfl rfl rfl H (by first | exact at0 | exact at1 | exact at2 | exact at3 | exact at4 | exact at5 | exact at6 | exact at7 | exact at8 | exact at9) (by first | decide | (simp; done) | (simp; omega)) ?_
      rintro w H
      refine op_nil (at_seg (H.ext) ?_)
      refine seg_cons rfl rfl ?_
      refine t_nilCheck rfl rfl ?_
      refine t_fieldAddr rfl fo_86_2 rfl ?_
      refine t_nil ?_
      refine op_stb (.int _ _) rfl sz_3 rfl rfl rfl H (by first | exact at0 | exact at1 | exact at2 | exact at3 | exact at4 | exact at5 | exact at6 | exact at7 | exact at8 | exact at9) (by first | decide | (simp; done) | (simp; omega)) ?_
      rintro w H
      refine op_nil (at_seg (H.ext) ?_)
      refine seg_nil ?_
      refine W_rseq ?_
      refine op_assign rfl (.int _ _) rfl ?_
      refine op_nil (at_then ?_)
      refine W_ret (leaveM1 (v := (.int _ _)) rfl rfl ?_)
      refine ⟨Db, rfl, by rw [H.ext.block Db (Nat.lt_of_lt_of_le (heap_lt hD4) H5.ext.size) (by simp; omega), H5.ext.block Db (heap_lt hD4) (by simp; omega)]; exact hD4, ?_⟩
      have hxD := Ext.setB w Db (.deferred none)
      generalize w.putObj Db (.deferred none) = w6 at hxD ⊢
      have hz5 := hz.then H5.ext (fun x h => .inl (by rw [List.mem_singleton.1 h]; simp))
      have hz5' := hz5.then H.ext (fun x h => .inl (by rw [List.mem_singleton.1 h]; simp))
      have hz6 := hz5'.then hxD (fun x h => by have h9 : x = Db := List.mem_singleton.1 h; right; omega)
      have hz06 : Ext [bd, bs, bm] w0 w6 := ((hx00.trans hx17).mono (by simp)).then hz6 (by intro x h; simp only [List.mem_cons, List.not_mem_nil, or_false] at h ⊢; omega)
      have up6 : ∀ {b : Nat} {o : Obj}, w5.heap[b]? = some o → b ≠ bd → b ≠ Db → w6.heap[b]? = some o := fun {b o} g1 g2 g3 => by
        rw [hxD.block b (Nat.lt_of_lt_of_le (heap_lt g1) H.ext.size) (by simpa using g3), H.ext.block b (heap_lt g1) (by simpa using g2)]; exact g1
      refine ⟨by rw [onE, ho]; rfl, ?_, ?_⟩
      · rw [onD, ho]
        refine ⟨role, bs, bm, laid f sv (keysOf m), [], o', D.swept (A' := ⟨keepB A.B picks, -1, true⟩) hz06 (keepB_len ..) ?_ (up6 (by rw [H5.ext.block bs (heap_lt hs4) (by simp; omega)]; exact hs4) (Ne.symm hbds) (by omega)) (up6 (H5.get at0) (Ne.symm hbdm) (by omega)) hM' (by rw [laid_len, D2.len]) ?_ (by have h9 := on_wf D.wf picks; rwa [onD, ho] at h9), hF⟩
        · rw [show (Dev.B ⟨keepB A.B picks, -1, true⟩).length = A.B.length from keepB_len .., hxD.block bd (heap_lt (H.get at0)) (by simp; omega)]
          exact H.get at0
        · intro i p hp
          have hi : i < A.B.length := by have := (List.getElem?_eq_some_iff.1 hp).1; rwa [keepB_len] at this
          obtain ⟨p0, hp0⟩ : ∃ p0, A.B[i]? = some p0 := ⟨_, List.getElem?_eq_getElem hi⟩
          have hp : (keepB A.B picks)[i]? = some p := hp
          rw [keepB_at A.B picks hp0] at hp
          cases hp
          have hr4 : ∀ x ∈ [bd, bs, bm, b3], role x ≠ 4 := by
            intro x h
            simp only [List.mem_cons, List.not_mem_nil, or_false] at h
            rcases h with rfl | rfl | rfl | rfl
            · rw [D2.rd]; decide
            · rw [D2.rs]; decide
            · rw [D2.rm]; decide
            · intro h9
              have := D.lt x (by omega)
              omega
          rw [laid_get f sv _ (fun k hk => by obtain ⟨v, hv⟩ := keysOf_mem hk; obtain ⟨j, rfl, _⟩ := D2.keys k v hv; omega) (by rw [D2.len]; exact hi)]
          have hpart := D2.part i p0 hp0
          by_cases hne : p0.2 = []
          · rw [if_pos hne, if_neg (fun hin => by obtain ⟨v, hv⟩ := keysOf_mem hin; exact hpart.2.2.1 (by rw [hv]; rfl) hne)]
            obtain ⟨v, h1, h2⟩ := hpart.1
            exact ⟨rfl, v, h1, h2.keep hz6 hr4 fun _ h => h⟩
          · obtain ⟨v, hv⟩ := Option.isSome_iff_exists.1 (hpart.2.2.2 hne)
            rw [if_neg hne, if_pos (mem_keysOf hv)]
            have hxv : xq i = pickN p0 (picks.drop (cntL (A.B.take i))) := by rw [hxq]; dsimp only; rw [List.getD_eq_getElem?_getD, hp0]; rfl
            have hxle : xq i ≤ p0.2.length := by
              rw [hxv]; unfold pickN
              split
              · exact Nat.zero_le _
              · exact Nat.le_of_lt_succ (Nat.mod_lt _ (Nat.succ_pos _))
            refine ⟨rfl, _, rfl, ?_⟩
            have h9 := (hf i p0 hp0 hne hxle).1
            rw [hxv] at h9
            exact h9.keep hz6 hr4 fun _ h => h
      · refine .of hz06 fun x h => hF x ?_
        simp only [List.mem_cons, List.not_mem_nil, or_false] at h
        rcases h with rfl | rfl | rfl
        · rw [D2.rd]; decide
        · rw [D2.rs]; decide
        · rw [D2.rm]; decide

end Go.Proofs.YtkmbcpgnafmnpaaDoor

/- Plain law of roots: what is sealed is opened, what is saved is loaded. -/
namespace Go.Proofs.YtkmbcpgnafmnpaaDoor
open Go.GV
attribute [local irreducible] Wops W Wq Wt

theorem putN_succ (n k : Nat) : putN n (k + 1) = putN (n / 256) k ++ [UInt8.ofNat n] := by
  unfold putN
  rw [List.range_succ, List.map_append]
  congr 1
  · refine List.map_congr_left fun i hi => ?_
    have hi' := List.mem_range.1 hi
    rw [Nat.div_div_eq_div_mul, show (256 : Nat) = 2 ^ 8 from rfl, ← Nat.pow_add]
    congr 3
    omega
  · simp
theorem numN_putN (k : Nat) : ∀ n, numN (putN n k) = n % 256 ^ k := by
  induction k with
  | zero => intro n; simp [putN, numN, Nat.mod_one]
  | succ k ih =>
    intro n
    rw [putN_succ, numN_snoc, ih]
    have h1 : (UInt8.ofNat n).toNat = n % 256 := by simp [UInt8.toNat_ofNat']
    rw [h1, Nat.pow_succ, Nat.mul_comm (256 ^ k) 256, Nat.mod_mul]
    omega
theorem right_seal (k : UInt8) {l : List UInt8} (h : l.length ≤ 505) : rightW (sealB k l) = true := by
  have hl := seal_len (k := k) h
  have hh := head_len (k := k) h
  unfold rightW
  rw [hl]
  have h1 : (sealB k l).take (512 - 4) = headB k l := by unfold sealB; rw [show 512 - 4 = 508 from rfl]; exact take_app508 hh
  have h2 : (sealB k l).drop (512 - 4) = le4 (sumW (headB k l)).toNat := by
    unfold sealB
    rw [List.drop_append_of_le_length (by omega), List.drop_of_length_le (by omega), List.nil_append]
  rw [h1, h2, le4_want (sumW (headB k l)).isLt]
  simp
theorem kind_seal (k : UInt8) (l : List UInt8) : kindB (sealB k l) = k := rfl
theorem num_seal (k : UInt8) {l : List UInt8} (h : l.length ≤ 505) : numB (sealB k l) = l.length := by
  unfold numB
  have h1 : ((sealB k l).drop 1).take 2 = putN l.length 2 := by
    unfold sealB headB
    rw [List.cons_append, List.drop_one, List.tail_cons, List.append_assoc, List.take_append_of_le_length (Nat.le_of_eq (putN_len _ _).symm), List.take_of_length_le (Nat.le_of_eq (putN_len _ _))]
  rw [h1, numN_putN, Nat.mod_eq_of_lt (by omega)]
theorem rest_seal (k : UInt8) {l : List UInt8} (h : l.length ≤ 505) : restB (sealB k l) = l ++ List.replicate (505 - l.length) 0 := by
  unfold restB sealB headB
  have h1 : (k :: (putN l.length 2 ++ (l ++ List.replicate (505 - l.length) 0)) ++ le4 (sumW (k :: (putN l.length 2 ++ (l ++ List.replicate (505 - l.length) 0)))).toNat) =
      (k :: putN l.length 2) ++ ((l ++ List.replicate (505 - l.length) 0) ++ le4 (sumW (k :: (putN l.length 2 ++ (l ++ List.replicate (505 - l.length) 0)))).toNat) := by simp
  rw [h1, List.drop_append_of_le_length (by simp [putN_len]), List.drop_of_length_le (by simp [putN_len]), List.nil_append, List.take_append_of_le_length (by simp; omega), List.take_of_length_le (by simp; omega)]
theorem body_seal (k : UInt8) {l : List UInt8} (h : l.length ≤ 505) : bodyB (sealB k l) = l := by
  rw [bodyB, rest_seal k h, num_seal k h, List.take_append_of_le_length (Nat.le_refl _), List.take_of_length_le (Nat.le_refl _)]
theorem open_seal {k : UInt8} {l : List UInt8} (hk : k.toNat ≠ 0) (h : l.length ≤ 505) : openE (sealB k l) = 0 := by
  refine openE_0 ?_ ?_
  · rw [seal_len h, right_seal k h]; rfl
  · unfold openB
    rw [kind_seal, num_seal k h, rest_seal k h, List.drop_append_of_le_length (Nat.le_refl _), List.drop_of_length_le (Nat.le_refl _), List.nil_append, decide_eq_false hk, decide_eq_true h, (allZ_iff _).2 (by simp)]
    rfl

theorem root_len (gen : Nat) {body : Byt} (h : body.length ≤ 480) : (putN gen 8 ++ body).length ≤ 505 := by rw [List.length_append, putN_len]; omega
theorem rootB_len (gen : Nat) {body : Byt} (h : body.length ≤ 480) : (rootB gen body).length = 512 := seal_len (root_len gen h)
theorem gen_root {gen : Nat} {body : Byt} (h : body.length ≤ 480) (hg : gen ≤ 4611686018427387904) : genB (rootB gen body) = gen := by
  unfold genB rootB
  rw [body_seal 1 (root_len gen h), List.take_append_of_le_length (by rw [putN_len]; exact Nat.le_refl _), List.take_of_length_le (by rw [putN_len]; exact Nat.le_refl _), numN_putN, Nat.mod_eq_of_lt (by omega)]
theorem ok_root {gen : Nat} {body : Byt} (h : body.length ≤ 480) (h1 : 1 ≤ gen) (hg : gen ≤ 4611686018427387904) : rootOk (slot gen) (rootB gen body) = true := by
  unfold rootOk
  have hb : bodyB (rootB gen body) = putN gen 8 ++ body := body_seal 1 (root_len gen h)
  have hl : (putN gen 8 ++ body).length = 8 + body.length := by rw [List.length_append, putN_len]
  rw [gen_root h hg, hb, hl, show openE (rootB gen body) = 0 from open_seal (by decide) (root_len gen h), show kindB (rootB gen body) = 1 from kind_seal ..]
  simp [slot]
  omega
theorem rootG_root {gen : Nat} {body : Byt} (h : body.length ≤ 480) (h1 : 1 ≤ gen) (hg : gen ≤ 4611686018427387904) : rootG (slot gen) (rootB gen body) = gen := by
  rw [rootG, ok_root h h1 hg, cond_true, gen_root h hg]
theorem rootL_root {gen : Nat} {body : Byt} (h : body.length ≤ 480) (h1 : 1 ≤ gen) (hg : gen ≤ 4611686018427387904) : rootL (slot gen) (rootB gen body) = body := by
  rw [rootL, ok_root h h1 hg, cond_true, show bodyB (rootB gen body) = putN gen 8 ++ body from body_seal 1 (root_len gen h), List.drop_append_of_le_length (by rw [putN_len]; exact Nat.le_refl _), List.drop_of_length_le (by rw [putN_len]; exact Nat.le_refl _), List.nil_append]
theorem ok_not {k : Int} {b : Byt} (h : (kindB b).toNat ≠ 1) : rootOk k b = false := by
  unfold rootOk
  rw [decide_eq_false h, Bool.false_and, Bool.and_false]
theorem rootG_zeros (k : Int) : rootG k zeros = 0 := by
  rw [rootG, ok_not (b := zeros) (by decide)]; rfl
theorem rootG_spoilt {k : Int} {b : Byt} (h : rightW b = false) : rootG k b = 0 := by
  rw [rootG, rootOk, openE_9 (by rw [h, Bool.and_false]; rfl)]; rfl

/-- A device on which nothing is loose. -/
def calm (B : List Byt) (left : Int) : Dev := ⟨B.map fun b => (b, []), left, true⟩
theorem calm_len (B : List Byt) (left : Int) : (calm B left).B.length = B.length := by simp [calm]
theorem new_calm (n : Nat) : newD n = calm (List.replicate n zeros) (-1) := by simp [newD, calm]
theorem calm_at (B : List Byt) (left : Int) (k : Nat) : at' (calm B left) k = B.getD k zeros := by
  unfold at' calm
  simp only [List.getD_eq_getElem?_getD, List.getElem?_map]
  cases B[k]? <;> rfl
theorem calm_sure (B : List Byt) (left : Int) : sureD (calm B left) = calm B left := by
  unfold sureD calm
  simp only [List.map_map]
  congr 1
theorem calm_less (B : List Byt) {left : Int} (h : left ≠ 0) : (calm B left).less = calm B (if left = -1 then -1 else left - 1) := by
  unfold Dev.less calm
  simp only [if_neg h]
  split
  · rename_i h1; rw [h1]
  · rfl
theorem calm_goes (B : List Byt) (left : Int) : (calm B left).goes = decide (left = 0) := rfl
theorem slot_lt (gen : Nat) : slot gen = 0 ∨ slot gen = 1 := by unfold slot; omega
theorem slot_nat (gen : Nat) : (slot gen).toNat = gen % 2 := by unfold slot; omega
theorem calm_has {B : List Byt} {left : Int} (gen : Nat) (h : 2 ≤ B.length) : (calm B left).has (slot gen) = true := by
  unfold Dev.has
  rw [calm_len]
  have := slot_lt gen
  simp only [Bool.and_eq_true, decide_eq_true_eq]
  omega

/-- One block has something loose. -/
def loosed (B : List Byt) (k : Nat) (b : Byt) (left : Int) (on : Bool) : Dev := ⟨(B.map fun b => (b, ([] : List Byt))).modify k fun p => (p.1, p.2 ++ [b]), left, on⟩
theorem loosed_sure (B : List Byt) (k : Nat) (b : Byt) (left : Int) : sureD (loosed B k b left true) = calm (B.set k b) left := by
  unfold sureD loosed calm
  simp only [Dev.mk.injEq, and_true]
  apply List.ext_getElem?
  intro i
  simp only [List.getElem?_map, List.getElem?_modify, List.getElem?_set]
  by_cases hik : k = i
  · subst hik
    simp only [if_true]
    by_cases hk : k < B.length
    · rw [if_pos hk, List.getElem?_eq_getElem hk]; rfl
    · rw [if_neg hk, List.getElem?_eq_none (by omega)]; rfl
  · simp only [if_neg hik]
    cases B[i]? <;> rfl

theorem write_calm {B : List Byt} {left : Int} (gen : Nat) {b : Byt} (h : 2 ≤ B.length) (hb : b.length = 512) : writeE (calm B left) (slot gen) b = (if left = 0 then 8 else 0) ∧
    writeD (calm B left) (slot gen) b = if left = 0 then ⟨(calm B left).B, left, false⟩ else loosed B (gen % 2) b (if left = -1 then -1 else left - 1) true := by
  unfold writeE writeD
  rw [calm_has gen h, decide_eq_true hb, calm_goes]
  by_cases h0 : left = 0
  · subst h0
    exact ⟨rfl, rfl⟩
  · rw [decide_eq_false h0, if_neg h0, if_neg h0, calm_less B h0, slot_nat]
    exact ⟨rfl, rfl⟩
theorem flush_loosed (B : List Byt) (k : Nat) (b : Byt) (left : Int) : flushE (loosed B k b left true) = (if left = 0 then 8 else 0) ∧
    flushD (loosed B k b left true) = if left = 0 then loosed B k b left false else calm (B.set k b) (if left = -1 then -1 else left - 1) := by
  unfold flushE flushD
  show (bif true then bif decide (left = 0) then (8 : Int) else 0 else 8) = _ ∧ (bif true then bif decide (left = 0) then (loosed B k b left true).less else sureD (loosed B k b left true).less else loosed B k b left true) = _
  by_cases h0 : left = 0
  · subst h0
    exact ⟨rfl, rfl⟩
  · rw [decide_eq_false h0, if_neg h0, if_neg h0]
    refine ⟨rfl, ?_⟩
    show sureD (loosed B k b left true).less = _
    have : (loosed B k b left true).less = loosed B k b (if left = -1 then -1 else left - 1) true := by
      unfold Dev.less loosed
      simp only [if_neg h0]
      split
      · rename_i h1; rw [h1]
      · rfl
    rw [this, loosed_sure]

/-- A save on a calm device. -/
theorem save_calm {B : List Byt} {left : Int} {gen : Nat} {body : Byt} (h : 2 ≤ B.length) (h1 : 1 ≤ gen) (hg : gen ≤ 4611686018427387904) (hb : body.length ≤ 480) (hl : -1 ≤ left) :
    saveE (calm B left) gen body = (if left = 0 ∨ left = 1 then 8 else 0) ∧
    saveD (calm B left) gen body = if left = 0 then ⟨(calm B left).B, left, false⟩ else if left = 1 then loosed B (gen % 2) (rootB gen body) 0 false else calm (B.set (gen % 2) (rootB gen body)) (if left = -1 then -1 else left - 2) := by
  obtain ⟨hw1, hw2⟩ := write_calm (left := left) gen (b := rootB gen body) h (rootB_len gen hb)
  unfold saveE saveD
  rw [calm_len, decide_eq_false (show ¬ gen < 1 by omega), decide_eq_false (show ¬ 4611686018427387904 < gen by omega), decide_eq_false (show ¬ B.length < 2 by omega), decide_eq_false (show ¬ 480 < body.length by omega), hw1, hw2]
  by_cases h0 : left = 0
  · subst h0
    exact ⟨rfl, rfl⟩
  · simp only [if_neg h0, Bool.or_false, cond_false, decide_true, cond_true]
    obtain ⟨hf1, hf2⟩ := flush_loosed B (gen % 2) (rootB gen body) (if left = -1 then -1 else left - 1)
    rw [hf1, hf2]
    by_cases hm : left = -1
    · subst hm
      exact ⟨rfl, rfl⟩
    · simp only [if_neg hm]
      by_cases h1 : left = 1
      · subst h1; exact ⟨rfl, rfl⟩
      · rw [if_neg (show ¬ left - 1 = 0 by omega), if_neg (show ¬ left - 1 = 0 by omega), if_neg (show ¬ (left = 0 ∨ left = 1) by omega), if_neg h1, if_neg (show ¬ left - 1 = -1 by omega)]
        exact ⟨rfl, by congr 1; omega⟩

theorem load_calm {B : List Byt} {left : Int} (h : 2 ≤ B.length) : loadE (calm B left) = (bif decide (rootG 0 (B.getD 0 zeros) = 0) && decide (rootG 1 (B.getD 1 zeros) = 0) then 4 else 0) := by
  unfold loadE
  rw [calm_len, calm_at, calm_at, decide_eq_false (show ¬ B.length < 2 by omega)]
  rfl

end Go.Proofs.YtkmbcpgnafmnpaaDoor

/- Roots are saved and loaded. -/
namespace Go.Proofs.YtkmbcpgnafmnpaaDoor
open Go.GV
theorem ca_15_StW : callable Tryd.prog 15 = true := by kernel_rfl
theorem ca_46_StW : callable Tryd.prog 46 = true := by kernel_rfl
theorem ca_47_StW : callable Tryd.prog 47 = true := by kernel_rfl
theorem ca_49_StW : callable Tryd.prog 49 = true := by kernel_rfl
attribute [local irreducible] Wops W Wq Wt

theorem DevAt.hd {w : World} {bd : Nat} {A : Dev} {F : Nat → Prop} (h : DevAt w bd A F) : ∃ bs bm, w.heap[bd]? = some (Bl TD (DB A.B.length bs bm A.left A.on)) :=
  let ⟨_, bs, bm, _, _, _, D, _⟩ := h; ⟨bs, bm, D.hd⟩

set_option maxRecDepth 20000 in
set_option maxHeartbeats 1000000 in
theorem save_ok {w : World} {bd : Nat} {A : Dev} {F : Nat → Prop} (gen : Nat) (hgen : gen < 18446744073709551616) (a : Option Addr) (c n : Nat) (body : Byt) (R : Rd w a 1 B8 body) (hn : body.length = n) (hm : n ≤ 140737488351231) (hlt : ∀ x, F x → x < w.heap.size)
    {mx : Nat} (hfew : Few A mx) (hmx : mx < 1000000000000) (DA : DevAt w bd A F) :
    Ret Tryd.prog 13 #[ptr bd, .int .u64 (gen : Int), .slice a n c] w fun v w' => v = .int .i64 (saveE A gen body) ∧ DevAt w' bd (saveD A gen body) (grow F w w') ∧ Turn F w w' := by
  subst hn
  obtain ⟨w0, rfl⟩ : ∃ w0, w0 = w := ⟨_, rfl⟩
  obtain ⟨bs, bm, hhd⟩ := DA.hd
  refine ret_of_W (fn := Tryd.f13) Tryd.func13 rfl [.pointer (some ⟨bd, 0, none⟩), .int .u64 (gen : Int), .slice a body.length c] rfl (by kernel_rfl) ?_
  refine W_rseq ?_
  refine op_assign rfl (.int _ _) rfl ?_
  refine op_nil (at_then ?_)
  refine W_seq ?_
  refine W_rseq ?_
  refine op_move rfl (.pointer _) rfl ?_
  refine op_eqlptr rfl un_27 rfl ?_
  refine op_nil (at_then ?_)
  refine W_cond0 rfl ?_
  refine W_skip (at_then ?_)
  refine W_seq ?_
  refine W_rseq (Wops_join (α := Unit) 8384512 (fun _ => [(22, .bool (decide (gen < 1) || (decide (4611686018427387904 < gen) || decide (A.B.length < 2))))]) (fun _ w' => w0 = w') rfl ?_ ?_)
  · refine op_move rfl (.int _ _) rfl ?_
    refine op_lss rfl rfl rfl ?_
    refine op_move rfl (.bool _) rfl ?_
    refine Wops_split 14 rfl ?_ ?_
    · intro h1
      replace h1 := dec_t h1
      refine op_skip rfl ?_
      refine op_skip rfl ?_
      refine op_pick1 rfl rfl (.bool _) rfl ?_
      refine op_move rfl (.bool _) rfl ?_
      refine op_skip rfl ?_
      refine op_skip rfl ?_
      refine op_skip rfl ?_
      refine op_pick1 rfl rfl (.bool _) rfl ?_
      refine op_nil ?_
      exact ⟨rfl, (), rfl, ⟨congrArg Value.bool (by rw [Bool.eq_iff_iff]; simp_all; try omega), trivial⟩, rfl⟩
    · intro h2
      replace h2 := dec_f h2
      refine op_move rfl (.int _ _) rfl ?_
      refine op_gtr rfl rfl rfl ?_
      refine op_pick0 rfl rfl (.bool _) rfl ?_
      refine op_move rfl (.bool _) rfl ?_
      refine Wops_split 18 rfl ?_ ?_
      · intro h3
        replace h3 := dec_t h3
        refine op_skip rfl ?_
        refine op_skip rfl ?_
        refine op_skip rfl ?_
        refine op_pick1 rfl rfl (.bool _) rfl ?_
        refine op_nil ?_
        exact ⟨rfl, (), rfl, ⟨congrArg Value.bool (by rw [Bool.eq_iff_iff]; simp_all; try omega), trivial⟩, rfl⟩
      · intro h4
        replace h4 := dec_f h4
        refine op_move rfl (.pointer _) rfl ?_
        refine op_call rfl ca_46_StW (dsize_ok hhd) rfl ?_
        rintro v w ⟨rfl, rfl⟩
        refine op_lss rfl rfl rfl ?_
        refine op_pick0 rfl rfl (.bool _) rfl ?_
        refine op_nil ?_
        exact ⟨rfl, (), rfl, ⟨congrArg Value.bool (by rw [Bool.eq_iff_iff]; simp_all; try omega), trivial⟩, rfl⟩
  rintro - j22 w rfl
  refine W_cond _ rfl ?_ ?_
  · intro h1
    refine W_rseq ?_
    refine op_assign rfl (.int _ _) rfl ?_
    refine op_nil (at_then ?_)
    refine W_ret (ret_then (leave1 (v := (.int _ _)) rfl rfl rfl ?_))
    exact ⟨by rw [saveE, h1]; rfl, by rw [saveD, h1]; exact DA.mono fun x h => .inl h, .of0 (.refl _ _)⟩
  · intro h1
    refine W_skip (at_then ?_)
    refine W_seq ?_
    refine W_rseq ?_
    refine op_move rfl (.slice _ _ _) rfl ?_
    refine op_len rfl el_23 rfl ?_
    refine op_gtr rfl rfl rfl ?_
    refine op_nil (at_then ?_)
    refine W_cond _ rfl ?_ ?_
    · intro h2
      replace h2 := dec_t h2
      have h2' : decide (480 < body.length) = true := decide_eq_true (by omega)
      refine W_rseq ?_
      refine op_assign rfl (.int _ _) rfl ?_
      refine op_nil (at_then ?_)
      refine W_ret (ret_then (leave1 (v := (.int _ _)) rfl rfl rfl ?_))
      exact ⟨by rw [saveE, h1, h2']; rfl, by rw [saveD, h1, h2']; exact DA.mono fun x h => .inl h, .of0 (.refl _ _)⟩
    · intro h2
      replace h2 := dec_f h2
      have h2' : decide (480 < body.length) = false := decide_eq_false (by omega)
      have hlr : (putN gen 8 ++ body).length ≤ 505 := by rw [List.length_append, putN_len]; omega
      have hse : sealE 1 (putN gen 8 ++ body) = 0 := by
        rw [sealE, decide_eq_false (show ¬ (1 : UInt8).toNat = 0 by decide), decide_eq_false (by omega)]; rfl
      have hb5 : (rootB gen body).length = 512 := seal_len hlr
      have hB0 : putB [] gen 8 = putN gen 8 := by rw [putB, show sizeB 8 = true by decide]; rfl
      refine W_skip (at_then ?_)
      refine W_rseq ?_
      refine op_move rfl (.int _ _) rfl ?_
      refine op_call rfl ca_48 (put_ok none 0 0 [] gen 8 w0 Rd.nil rfl (by decide) hgen) rfl ?_
      rintro v w F28
      obtain ⟨a28, n28, c28, full28, rfl, O28, hb28⟩ := F28.ex
      have hx28 := F28.ext
      rw [hB0] at O28
      obtain rfl : n28 = 8 := by have h9 := O28.llen; rw [List.length_map, putN_len] at h9; omega
      have H := (Ctx.start w0 []).callEnt hx28 hb28 ent_nd
      refine op_move rfl (.slice _ _ _) rfl ?_
      refine op_append (L := []) rfl el_23 el_23 sz_5 by_5 zc_5 rfl (by decide) (body.map bv) rfl rfl H O28 (by simp) (bv_one body) (Rd.appB (R.ext0 H.ext)) (by omega) ?_
      rintro a30 c30 full30 w H O
      rw [← List.map_append] at O
      have R30 := OS.rdB O (fun x hx => H.blk x (by simpa using hx))
      have hx30 := H.ext
      refine op_call rfl ca_47_StW (seal_ok 1 a30 c30 _ _ _ R30 (by rw [List.length_append, putN_len]) (by omega)) rfl ?_
      rintro v w P31
      rw [SealPost, hse] at P31
      obtain ⟨s31, rfl, B31⟩ : ∃ s, v = .tuple #[s, .int .i64 0] ∧ Bytes _ w s (rootB gen body) := (P31.elim (fun h => absurd rfl h.1) fun h => h.2)
      obtain ⟨a31, c31, rfl, R31, hc31, hn31⟩ := B31.ex
      have hx := hx30.trans B31.ext
      have hn31' : w0.heap.size ≤ (adr a31).block := Nat.le_trans hx30.size hn31
      have DA1 := DA.keep0 hx
      rw [hb5]
      refine op_move rfl (.tuple _) rfl ?_
      refine op_extract rfl rfl rfl ?_
      refine op_extract rfl rfl rfl ?_
      refine op_assign rfl (.slice _ _ _) rfl ?_
      refine op_assign rfl (.int _ _) rfl ?_
      refine op_nil (at_then ?_)
      refine W_seq ?_
      refine W_rseq ?_
      refine op_move rfl (.int _ _) rfl ?_
      refine op_neq rfl rfl rfl ?_
      refine op_nil (at_then ?_)
      refine W_cond0 rfl ?_
      refine W_skip (at_then ?_)
      refine W_seq ?_
      refine W_rseq ?_
      refine op_move rfl (.pointer _) rfl ?_
      refine op_move rfl (.int _ _) rfl ?_
      refine op_rem rfl rfl rfl (by omega) (by omega) ?_
      rw [show (gen : Int) % 2 = slot gen from by unfold slot; omega]
      refine op_conv_i64 rfl rfl un_22 un_3 (by unfold slot; omega) (by unfold slot; omega) ?_
      refine op_move rfl (.slice _ _ _) rfl ?_
      refine op_call rfl ca_15_StW (dwrite_ok (slot gen) a31 c31 512 (rootB gen body) R31 hb5 (by decide) (.inr fun h => by have := hlt _ h; omega) hfew (by omega) DA1) rfl ?_
      rintro v w9 ⟨rfl, DA2, hT⟩
      refine op_assign rfl (.int _ _) rfl ?_
      refine op_nil (at_then ?_)
      refine W_rseq ?_
      refine op_move rfl (.int _ _) rfl ?_
      refine op_neq rfl rfl rfl ?_
      refine op_nil (at_then ?_)
      refine W_cond _ rfl ?_ ?_
      · intro h3
        replace h3 := ndec_t h3
        have h3' : decide (writeE A (slot gen) (rootB gen body) = 0) = false := decide_eq_false h3
        refine W_rseq ?_
        refine op_move rfl (.int _ _) rfl ?_
        refine op_assign rfl (.int _ _) rfl ?_
        refine op_nil (at_then ?_)
        refine W_ret (ret_then (leave1 (v := (.int _ _)) rfl rfl rfl ?_))
        exact ⟨by rw [saveE, h1, h2', h3']; rfl, by rw [saveD, h1, h2', h3']; exact DA2.mono (grow_old hx.size), Turn.trans (.of0 hx) hT (fun x h => .inl h)⟩
      · intro h3
        replace h3 := ndec_f h3
        have h3' : decide (writeE A (slot gen) (rootB gen body) = 0) = true := decide_eq_true h3
        refine W_skip (at_then ?_)
        refine W_rseq ?_
        refine op_move rfl (.pointer _) rfl ?_
        refine op_call rfl ca_49_StW (dflush_ok (write_few hfew _ _) (by omega) DA2) rfl ?_
        rintro v w10 ⟨rfl, DA3, hT3⟩
        refine op_assign rfl (.int _ _) rfl ?_
        refine op_nil (at_then ?_)
        refine W_ret (leave1 (v := (.int _ _)) rfl rfl rfl ?_)
        have hs1 := hx.size; have hs2 := hT.size; have hs3 := hT3.size
        have hg : ∀ x, grow F w w9 x → grow F w0 w10 x := fun x h => h.elim .inl fun h => .inr ⟨by omega, by omega⟩
        refine ⟨by rw [saveE, h1, h2', h3']; rfl, by rw [saveD, h1, h2', h3']; exact DA3.mono hg, Turn.trans (Turn.trans (.of0 hx) hT fun x h => .inl h) hT3 fun x h => ?_⟩
        · rcases h with h | h
          · exact .inl h
          · exact .inr (by omega)

theorem save_nil {w : World} (gen : Nat) (v : Value) : Ret Tryd.prog 13 #[.pointer none, .int .u64 (gen : Int), v] w fun v w' => v = .int .i64 2 ∧ w' = w := by
  refine ret_of_W (fn := Tryd.f13) Tryd.func13 rfl [.pointer none, .int .u64 (gen : Int), v] rfl (by kernel_rfl) ?_
  refine W_rseq ?_
  refine op_assign rfl (.int _ _) rfl ?_
  refine op_nil (at_then ?_)
  refine W_seq ?_
  refine W_rseq ?_
  refine op_move rfl (.pointer _) rfl ?_
  refine op_eqlptr rfl un_27 rfl ?_
  refine op_nil (at_then ?_)
  refine W_cond1 rfl ?_
  refine W_rseq ?_
  refine op_assign rfl (.int _ _) rfl ?_
  refine op_nil (at_then ?_)
  refine W_ret (ret_then (leave1 (v := (.int _ _)) rfl rfl rfl ?_))
  exact ⟨rfl, rfl⟩

end Go.Proofs.YtkmbcpgnafmnpaaDoor

/- A root is loaded. -/
namespace Go.Proofs.YtkmbcpgnafmnpaaDoor
open Go.GV
theorem ca_14_StLoad : callable Tryd.prog 14 = true := by kernel_rfl
theorem ca_46_StLoad : callable Tryd.prog 46 = true := by kernel_rfl
theorem ca_54_StLoad : callable Tryd.prog 54 = true := by kernel_rfl
theorem ca_55_StLoad : callable Tryd.prog 55 = true := by kernel_rfl
theorem fo_92_1_StLoad : fieldO Tryd.prog 92 1 = some 1 := by kernel_rfl
attribute [local irreducible] Wops W Wq Wt

/-- The best of the first ones. -/
def bestK (A : Dev) : Nat → Nat × Byt
  | 0 => (0, [])
  | k + 1 => if (bestK A k).1 < rootG k (at' A k) then (rootG k (at' A k), rootL k (at' A k)) else bestK A k
theorem rootG_par {k : Int} {b : Byt} (h : rootG k b ≠ 0) : ((rootG k b % 2 : Nat) : Int) = k := by
  unfold rootG at h ⊢
  cases hr : rootOk k b with
  | false => rw [hr] at h; exact absurd rfl h
  | true =>
    rw [cond_true]
    unfold rootOk at hr
    simp only [Bool.and_eq_true, decide_eq_true_eq] at hr
    exact hr.2.2.2.2.2.2
theorem rootL_none {k : Int} {b : Byt} (h : rootG k b = 0) : rootL k b = [] := by
  unfold rootG at h
  unfold rootL
  cases hr : rootOk k b with
  | false => rfl
  | true =>
    rw [hr, cond_true] at h
    unfold rootOk at hr
    simp only [Bool.and_eq_true, decide_eq_true_eq] at hr
    omega
theorem rootG_le (k : Int) (b : Byt) : rootG k b ≤ 4611686018427387904 := by
  unfold rootG
  cases hr : rootOk k b with
  | false => exact Nat.zero_le _
  | true =>
    unfold rootOk at hr
    simp only [Bool.and_eq_true, decide_eq_true_eq] at hr
    exact hr.2.2.2.2.2.1
theorem bestK_le (A : Dev) (k : Nat) : (bestK A k).1 ≤ 4611686018427387904 := by
  induction k with
  | zero => exact Nat.zero_le _
  | succ k ih =>
    unfold bestK
    split
    · exact rootG_le _ _
    · exact ih
/-- The best of both is what is loaded. -/
theorem bestK_two {A : Dev} (ho : A.on = true) (hl : 2 ≤ A.B.length) : (if (bestK A 2).1 = 0 then loadE A = 4 else loadE A = 0) ∧ loadG A = (bestK A 2).1 ∧ loadL A = (bestK A 2).2 := by
  have he : loadE A = bif decide (rootG 0 (at' A 0) = 0) && decide (rootG 1 (at' A 1) = 0) then 4 else 0 := by
    unfold loadE
    rw [ho, decide_eq_false (show ¬ A.B.length < 2 by omega)]; rfl
  have h2 : bestK A 2 = if (bestK A 1).1 < rootG 1 (at' A 1) then (rootG 1 (at' A 1), rootL 1 (at' A 1)) else bestK A 1 := rfl
  have h1 : bestK A 1 = if 0 < rootG 0 (at' A 0) then (rootG 0 (at' A 0), rootL 0 (at' A 0)) else (0, []) := rfl
  have p0 := rootG_par (k := 0) (b := at' A 0)
  have p1 := rootG_par (k := 1) (b := at' A 1)
  have n0 := rootL_none (k := 0) (b := at' A 0)
  have n1 := rootL_none (k := 1) (b := at' A 1)
  unfold loadG loadL
  rw [h2, h1, he]
  generalize rootG 0 (at' A 0) = g0 at *
  generalize rootG 1 (at' A 1) = g1 at *
  generalize rootL 0 (at' A 0) = l0 at *
  generalize rootL 1 (at' A 1) = l1 at *
  by_cases z0 : g0 = 0
  · subst z0
    by_cases z1 : g1 = 0
    · subst z1; exact ⟨rfl, rfl, rfl⟩
    · have hp : 0 < g1 := by omega
      simp [z1, hp]
  · have hp0 : 0 < g0 := by omega
    by_cases z1 : g1 = 0
    · subst z1; simp [z0, hp0]
    · have hne : g0 ≠ g1 := by have := p0 z0; have := p1 z1; omega
      simp only [if_pos hp0, decide_eq_false z0, Bool.false_and, cond_false]
      by_cases hlt : g0 < g1
      · simp only [if_pos hlt, decide_eq_false (show ¬ g1 < g0 by omega), cond_false, if_neg z1]
        exact ⟨trivial, rfl, rfl⟩
      · simp only [if_neg hlt, decide_eq_true (show g1 < g0 by omega), cond_true, if_neg z0]
        exact ⟨trivial, rfl, rfl⟩

/-- Bytes do not lie where a root does. -/
theorem Rd.rootX {w w' : World} {a a2 : Option Addr} {l : Byt} {b t n c : Nat} {g : Int} (R : Rd w a 1 B8 l) (hb : w.heap[b]? = some (Bl t [.int .u64 g, .slice a2 n c])) (he : Ext [b] w w') : Rd w' a 1 B8 l := by
  cases l with
  | nil => exact Rd.nil
  | cons x l =>
    refine R.ext he fun h => ?_
    have h1 := R.cell 0 x rfl 0 (bv x) rfl (by decide)
    rw [List.mem_singleton.1 h, cell_bl hb] at h1
    have h2 := List.mem_of_getElem? h1
    simp [bv] at h2

set_option maxRecDepth 20000 in
set_option maxHeartbeats 1000000 in
theorem load_ok {w : World} {bd : Nat} {A : Dev} {F : Nat → Prop} {mx : Nat} (hfew : Few A mx) (hmx : mx < 1000000000000) (DA : DevAt w bd A F) :
    Ret Tryd.prog 16 #[ptr bd] w fun v w' => ∃ a c, v = .tuple #[.int .u64 (loadG A : Int), .slice a (loadL A).length c, .int .i64 (loadE A)] ∧ Rd w' a 1 B8 (loadL A) ∧ (loadL A = [] ∨ w.heap.size ≤ (adr a).block) ∧ Ext [] w w' := by
  obtain ⟨w0, rfl⟩ : ∃ w0, w0 = w := ⟨_, rfl⟩
  obtain ⟨bs, bm, hhd⟩ := DA.hd
  have H := Ctx.start w0 []
  refine ret_of_W (fn := Tryd.f16) Tryd.func16 rfl [.pointer (some ⟨bd, 0, none⟩)] rfl (by kernel_rfl) ?_
  refine W_rseq ?_
  refine op_assign rfl (.int _ _) rfl ?_
  refine op_assign rfl (.slice _ _ _) rfl ?_
  refine op_assign rfl (.int _ _) rfl ?_
  refine op_nil (at_then ?_)
  refine W_seq ?_
  refine W_block ?_
  refine W_rseq ?_
  refine op_move rfl (.pointer _) rfl ?_
  refine op_eqlptr rfl un_27 rfl ?_
  refine op_assign rfl (.bool _) rfl ?_
  refine op_nil (at_then ?_)
  refine W_cond0 rfl ?_
  refine W_rseq ?_
  refine op_move rfl (.pointer _) rfl ?_
  refine op_call rfl ca_54_StLoad (dpower_ok hhd) rfl ?_
  rintro v w ⟨rfl, rfl⟩
  refine op_not rfl rfl ?_
  refine op_assign rfl (.bool _) rfl ?_
  refine op_nil (at_then ?_)
  refine W_cond _ rfl ?_ ?_
  · intro h1
    replace h1 := nvar_t h1
    have ho : A.on = false := by simpa using h1
    have he : loadE A = 8 := by rw [loadE, ho]; rfl
    refine W_rseq ?_
    refine op_assign rfl (.int _ _) rfl ?_
    refine op_assign rfl (.slice _ _ _) rfl ?_
    refine op_assign rfl (.int _ _) rfl ?_
    refine op_nil (at_then ?_)
    refine W_ret (ret_block (ret_then (leave3 (v1 := (.int _ _)) (v2 := (.slice _ _ _)) (v3 := (.int _ _)) rfl rfl rfl rfl rfl ?_)))
    exact ⟨none, 0, by rw [loadG, loadL, he]; rfl, by rw [loadL, he]; exact Rd.nil, .inl (by rw [loadL, he]; rfl), H.ext⟩
  · intro h1
    replace h1 := nvar_f h1
    have ho : A.on = true := by simpa using h1
    refine W_rseq ?_
    refine op_move rfl (.pointer _) rfl ?_
    refine op_call rfl ca_46_StLoad (dsize_ok hhd) rfl ?_
    rintro v w ⟨rfl, rfl⟩
    refine op_lss rfl rfl rfl ?_
    refine op_assign rfl (.bool _) rfl ?_
    refine op_nil (at_then ?_)
    refine W_cond _ rfl ?_ ?_
    · intro h2
      replace h2 := dec_t h2
      have he : loadE A = 1 := by rw [loadE, ho, decide_eq_true (show A.B.length < 2 by omega)]; rfl
      refine W_rseq ?_
      refine op_assign rfl (.int _ _) rfl ?_
      refine op_assign rfl (.slice _ _ _) rfl ?_
      refine op_assign rfl (.int _ _) rfl ?_
      refine op_nil (at_then ?_)
      refine W_ret (ret_block (ret_then (leave3 (v1 := (.int _ _)) (v2 := (.slice _ _ _)) (v3 := (.int _ _)) rfl rfl rfl rfl rfl ?_)))
      exact ⟨none, 0, by rw [loadG, loadL, he]; rfl, by rw [loadL, he]; exact Rd.nil, .inl (by rw [loadL, he]; rfl), H.ext⟩
    · intro h2
      replace h2 := dec_f h2
      refine W_skip (at_block (at_then ?_))
      refine W_rseq ?_
      refine op_alloc rfl zc_92 H ?_
      rintro b5 w - H
      refine op_nil (at_then ?_)
      refine W_seq ?_
      refine W_rseq ?_
      refine op_move rfl (.int _ _) rfl ?_
      refine op_nil (at_then ?_)
      refine W_block ?_
      obtain ⟨hE2, hG2, hL2⟩ := bestK_two ho (by omega)
      refine W_loop 8796090926044 (α := Nat × Option Addr × Nat) (fun x => [(21, .int .i64 x.1)]) (fun x w' => x.1 ≤ 2 ∧ Ctx w0 [] w' [(b5, Bl 92 [.int .u64 ((bestK A x.1).1 : Int), .slice x.2.1 (bestK A x.1).2.length x.2.2])] ∧ Rd w' x.2.1 1 B8 (bestK A x.1).2 ∧ ((bestK A x.1).2 = [] ∨ w0.heap.size ≤ (adr x.2.1).block)) (fun x => 2 - x.1) (0, none, 0) rfl ?_ ?_ ?_
      · exact ⟨rfl, trivial⟩
      · exact ⟨Nat.zero_le _, H, Rd.nil, .inl rfl⟩
      · rintro ⟨i, a, c⟩ j w ⟨hi, H, R, hnw⟩; dsimp only at hi H R hnw; dsimp only
        refine W_rseq ?_
        refine op_lss rfl rfl rfl ?_
        refine op_nil (at_then ?_)
        refine W_seq ?_
        refine W_cond _ rfl ?_ ?_
        · intro h3
          replace h3 := dec_t h3
          have hrE : readE A (i : Int) = 0 := by
            unfold readE Dev.has
            rw [ho, decide_eq_true (show (0 : Int) ≤ i by omega), decide_eq_true (show (i : Int) < A.B.length by omega)]; rfl
          have hrB : readB A (i : Int) = at' A i := by
            unfold readB at'
            rw [hrE]; rfl
          have hlen : (at' A i).length = 512 := stands_len DA.wf (getD_mem (by omega))
          have hb1 : bestK A (i + 1) = if (bestK A i).1 < rootG i (at' A i) then (rootG i (at' A i), rootL i (at' A i)) else bestK A i := rfl
          refine W_skip (at_then ?_)
          refine W_seq ?_
          refine W_block ?_
          refine W_rseq ?_
          refine op_move rfl (.int _ _) rfl ?_
          refine op_assign rfl (.int _ _) rfl ?_
          refine op_nil (at_then ?_)
          refine W_rseq ?_
          refine op_move rfl (.pointer _) rfl ?_
          refine op_move rfl (.int _ _) rfl ?_
          refine op_call rfl ca_14_StLoad (dread_ok (i : Int) hfew (by omega) (DA.keep0 H.ext)) rfl ?_
          rintro v w ⟨s27, rfl, F27⟩
          rw [hrB] at F27
          obtain ⟨a27, c27, rfl, R27, hc27⟩ := Fresh.rdB F27
          replace H := H.call F27.ext
          replace R := R.ext0 F27.ext
          rw [hrE, hlen]
          refine op_move rfl (.tuple _) rfl ?_
          refine op_extract rfl rfl rfl ?_
          refine op_extract rfl rfl rfl ?_
          refine op_assign rfl (.slice _ _ _) rfl ?_
          refine op_assign rfl (.int _ _) rfl ?_
          refine op_nil (at_then ?_)
          refine W_seq ?_
          refine W_rseq ?_
          refine op_move rfl (.int _ _) rfl ?_
          refine op_neq rfl rfl rfl ?_
          refine op_nil (at_then ?_)
          refine W_cond0 rfl ?_
          refine W_skip (at_then ?_)
          refine W_rseq ?_
          refine op_move rfl (.int _ _) rfl ?_
          refine op_move rfl (.slice _ _ _) rfl ?_
          refine op_call rfl ca_55_StLoad (read_ok (i : Int) a27 c27 512 (at' A i) _ R27 hlen (by omega) (by omega)) rfl ?_
          have hsz0 := H.size
          rintro v w ⟨a35, c35, rfl, R35, hc35, hnw35, hx35⟩
          replace H := H.call hx35
          replace R := R.ext0 hx35
          have H0 := H
          have hb5 := H.get at0
          have hn5 : w0.heap.size ≤ b5 := (H.own _ (List.mem_cons_self ..)).elim (fun h => by cases h) id
          replace H := Ctx.start1 (H.get at0)
          refine op_alloc rfl zc_92 H ?_
          rintro b9 w - H
          refine op_stb0 rfl sz_92 rfl rfl rfl (by simp [oneCell]) H (by first | exact at0 | exact at1 | exact at2 | exact at3 | exact at4 | exact at5 | exact at6 | exact at7 | exact at8 | exact at9) rfl ?_
          rintro w H
          refine op_nil (at_then ?_)
          refine W_rseq ?_
          refine op_fieldAddr rfl fo_92_0 rfl ?_
          refine op_ldb rfl ag_22 rfl H (by first | exact at0 | exact at1 | exact at2 | exact at3 | exact at4 | exact at5 | exact at6 | exact at7 | exact at8 | exact at9) rfl ?_
          refine op_fieldAddr rfl fo_92_0 rfl ?_
          refine op_ldb rfl ag_22 rfl H (by first | exact at0 | exact at1 | exact at2 | exact at3 | exact at4 | exact at5 | exact at6 | exact at7 | exact at8 | exact at9) rfl ?_
          refine op_gtr rfl rfl rfl ?_
          refine op_nil (at_then ?_)
          refine W_cond _ rfl ?_ ?_
          · intro h4
            replace h4 := dec_t h4
            rw [if_pos (by omega)] at hb1
            refine W_region ?_
            refine op_ldbN rfl ag_92 sz_92 rfl H (by first | exact at0 | exact at1 | exact at2 | exact at3 | exact at4 | exact at5 | exact at6 | exact at7 | exact at8 | exact at9) rfl ?_
            refine op_stb0 rfl sz_92 rfl rfl rfl (by simp [oneCell]) H (by first | exact at0 | exact at1 | exact at2 | exact at3 | exact at4 | exact at5 | exact at6 | exact at7 | exact at8 | exact at9) rfl ?_
            rintro w H
            refine op_nil (at_block (at_then ?_))
            refine W_region ?_
            refine op_add_i64 rfl rfl rfl (by omega) (by omega) ?_
            refine op_move rfl (.int _ _) rfl ?_
            refine op_nil (at_then ?_)
            have hx9 : Ext [] w0 w := H0.ext.then H.ext fun x h => .inr (by rw [List.mem_singleton.1 h]; exact hn5)
            replace H0 := ((Ctx.start w0 []).call hx9).add (H.get at1) (.inr hn5) (by simp)
            exact ⟨(i + 1, a35, c35), rfl, ⟨rfl, trivial⟩, ⟨by dsimp only; omega, by dsimp only; rw [hb1]; exact H0, by dsimp only; rw [hb1]; exact Rd.rootX R35 hb5 H.ext, by dsimp only; rw [hb1]; exact hnw35.imp id fun h => by omega⟩, by dsimp only; omega⟩
          · intro h4
            replace h4 := dec_f h4
            rw [if_neg (by omega)] at hb1
            refine W_skip (at_block (at_then ?_))
            refine W_region ?_
            refine op_add_i64 rfl rfl rfl (by omega) (by omega) ?_
            refine op_move rfl (.int _ _) rfl ?_
            refine op_nil (at_then ?_)
            have hx9 : Ext [] w0 w := H0.ext.then H.ext fun x h => .inr (by rw [List.mem_singleton.1 h]; exact hn5)
            replace H0 := ((Ctx.start w0 []).call hx9).add (H.get at1) (.inr hn5) (by simp)
            exact ⟨(i + 1, a, c), rfl, ⟨rfl, trivial⟩, ⟨by dsimp only; omega, by dsimp only; rw [hb1]; exact H0, by dsimp only; rw [hb1]; exact Rd.rootX R hb5 H.ext, by dsimp only; rw [hb1]; exact hnw⟩, by dsimp only; omega⟩
        · intro h3
          replace h3 := dec_f h3
          have hi2 : i = 2 := by omega
          subst hi2
          refine W_exit (exit_then (exit_then (exit_here (at_then ?_))))
          refine W_seq ?_
          refine W_rseq ?_
          refine op_fieldAddr rfl fo_92_0 rfl ?_
          refine op_ldb rfl ag_22 rfl H (by first | exact at0 | exact at1 | exact at2 | exact at3 | exact at4 | exact at5 | exact at6 | exact at7 | exact at8 | exact at9) rfl ?_
          refine op_eql rfl rfl rfl ?_
          refine op_nil (at_then ?_)
          refine W_cond _ rfl ?_ ?_
          · intro h4
            replace h4 := dec_t h4
            rw [if_pos (by omega)] at hE2
            refine W_rseq ?_
            refine op_assign rfl (.int _ _) rfl ?_
            refine op_assign rfl (.slice _ _ _) rfl ?_
            refine op_assign rfl (.int _ _) rfl ?_
            refine op_nil (at_then ?_)
            refine W_ret (ret_then (leave3 (v1 := (.int _ _)) (v2 := (.slice _ _ _)) (v3 := (.int _ _)) rfl rfl rfl rfl rfl ?_))
            exact ⟨none, 0, by rw [loadG, loadL, hE2]; rfl, by rw [loadL, hE2]; exact Rd.nil, .inl (by rw [loadL, hE2]; rfl), H.ext⟩
          · intro h4
            replace h4 := dec_f h4
            rw [if_neg (by omega)] at hE2
            refine W_skip (at_then ?_)
            refine W_qseq (fun x => x = _) mixed (by kernel_rfl) rfl ?_
            refine q_fieldAddr rfl fo_92_0 rfl ?_
            refine q_ldb rfl ag_22 rfl (by rintro _ rfl; exact H.drew) (by first | exact at0 | exact at1 | exact at2 | exact at3 | exact at4 | exact at5 | exact at6 | exact at7 | exact at8 | exact at9) rfl ?_
            refine q_fieldAddr rfl fo_92_1_StLoad rfl ?_
            refine q_ldb rfl ag_23 rfl (by rintro _ rfl; exact H.drew) (by first | exact at0 | exact at1 | exact at2 | exact at3 | exact at4 | exact at5 | exact at6 | exact at7 | exact at8 | exact at9) rfl ?_
            refine q_assign rfl (.int _ _) rfl ?_
            refine q_assign rfl (.slice _ _ _) rfl ?_
            refine q_assign rfl (.int _ _) rfl ?_
            refine q_nil ?_
            rintro _ rfl
            replace H := H.drew
            refine W_ret (leave3 (v1 := (.int _ _)) (v2 := (.slice _ _ _)) (v3 := (.int _ _)) rfl rfl rfl rfl rfl ?_)
            exact ⟨a, c, by rw [hE2, hG2, hL2], by rw [hL2]; exact R.ext0 (Ext.drew _ _), by rw [hL2]; exact hnw, H.ext⟩

end Go.Proofs.YtkmbcpgnafmnpaaDoor

/- A device of one's own; the chapter's examples. -/
namespace Go.Proofs.YtkmbcpgnafmnpaaDoor
open Go.GV
attribute [local irreducible] Wops W Wq Wt

/-- A device that was made since the world w0. -/
structure Own (w0 w : World) (bd : Nat) (A : Dev) (F : Nat → Prop) : Prop where
  ext : Ext [] w0 w
  dev : DevAt w bd A F
  own : ∀ x, F x → w0.heap.size ≤ x ∧ x < w.heap.size

/-- What may be turned behind. -/
def Grown (F F' : Nat → Prop) (w w' : World) : Prop := Turn F w w' ∧ ∀ x, F' x → F x ∨ w.heap.size ≤ x

theorem Turn.new {F : Nat → Prop} {w0 w w' : World} (h : Turn F w w') (hx : Ext [] w0 w) (hF : ∀ x, F x → w0.heap.size ≤ x) : Ext [] w0 w' :=
  let ⟨_, hS, h⟩ := h; hx.then h fun x hx => .inr (hF x (hS x hx))
theorem Own.grow {w0 w w' : World} {bd : Nat} {A A' : Dev} {F : Nat → Prop} (O : Own w0 w bd A F) (h : DevAt w' bd A' (grow F w w')) (t : Turn F w w') : Own w0 w' bd A' (grow F w w') ∧ Grown F (grow F w w') w w' :=
  ⟨⟨t.new O.ext fun x h => (O.own x h).1, h, fun x hx => by
    have h1 := t.size; have h2 := O.ext.size
    rcases hx with hx | hx
    · have := O.own x hx; omega
    · omega⟩, t, fun x hx => hx.elim .inl fun h => .inr h.1⟩
theorem Own.same {w0 w w' : World} {bd : Nat} {A A' : Dev} {F : Nat → Prop} (O : Own w0 w bd A F) (h : DevAt w' bd A' F) (t : Turn F w w') : Own w0 w' bd A' F ∧ Grown F F w w' :=
  ⟨⟨t.new O.ext fun x h => (O.own x h).1, h, fun x hx => by have h1 := t.size; have := O.own x hx; omega⟩, t, fun x hx => .inl hx⟩
theorem Own.call {w0 w w' : World} {bd : Nat} {A : Dev} {F : Nat → Prop} (O : Own w0 w bd A F) (hx : Ext [] w w') : Own w0 w' bd A F :=
  ⟨O.ext.trans hx, O.dev.keep0 hx, fun x h => by have := O.own x h; have := hx.size; omega⟩

/-- Bytes that lie elsewhere. -/
def Rdx (w : World) (F : Nat → Prop) (a : Option Addr) (l : Byt) : Prop := Rd w a 1 B8 l ∧ (l = [] ∨ ¬ F (adr a).block)
theorem Rd.lt8 {w : World} {a : Option Addr} {l : Byt} (R : Rd w a 1 B8 l) : l = [] ∨ (adr a).block < w.heap.size := by
  cases l with
  | nil => exact .inl rfl
  | cons x l =>
    have h9 := World.block_lt_of_cell? w ⟨(adr a).block, _, none⟩ (R.cell 0 x rfl 0 _ rfl (by decide))
    exact .inr h9
theorem Rdx.turn {w w' : World} {F F' : Nat → Prop} {a : Option Addr} {l : Byt} (h : Rdx w F a l) (t : Grown F F' w w') : Rdx w' F' a l := by
  obtain ⟨R, hn⟩ := h
  rcases hn with rfl | hn
  · exact ⟨Rd.nil, .inl rfl⟩
  · obtain ⟨⟨S, hS, hx⟩, hF⟩ := t
    refine ⟨R.ext hx fun h => hn (hS _ h), ?_⟩
    rcases Rd.lt8 R with h1 | h1
    · exact .inl h1
    · exact .inr fun h => (hF _ h).elim hn fun h => by omega
theorem Rdx.call {w w' : World} {F : Nat → Prop} {a : Option Addr} {l : Byt} (h : Rdx w F a l) (hx : Ext [] w w') : Rdx w' F a l := ⟨h.1.ext0 hx, h.2⟩
theorem Own.loaded {w0 w w' : World} {bd : Nat} {A : Dev} {F : Nat → Prop} {a : Option Addr} {l : Byt} (O : Own w0 w bd A F) (R : Rd w' a 1 B8 l) (hn : l = [] ∨ w.heap.size ≤ (adr a).block) : Rdx w' F a l :=
  ⟨R, hn.imp id fun h hF => by have := O.own _ hF; omega⟩
theorem Own.old {w0 w : World} {bd : Nat} {A : Dev} {F : Nat → Prop} {a : Option Addr} {l : Byt} (O : Own w0 w bd A F) (R : Rd w0 a 1 B8 l) : Rdx w F a l :=
  ⟨R.ext0 O.ext, (Rd.lt8 R).imp id fun h hF => by have := O.own _ hF; omega⟩

/-! ### What is done to it -/
theorem own_save {w0 w : World} {bd : Nat} {A : Dev} {F : Nat → Prop} (O : Own w0 w bd A F) (gen : Nat) (hgen : gen < 18446744073709551616) (a : Option Addr) (c n : Nat) (body : Byt) (R : Rd w a 1 B8 body) (hn : body.length = n) (hm : n ≤ 140737488351231) {mx : Nat} (hfew : Few A mx) (hmx : mx < 1000000000000) :
    Ret Tryd.prog 13 #[ptr bd, .int .u64 (gen : Int), .slice a n c] w fun v w' => v = .int .i64 (saveE A gen body) ∧ ∃ F', Own w0 w' bd (saveD A gen body) F' ∧ Grown F F' w w' :=
  (save_ok gen hgen a c n body R hn hm (fun x h => (O.own x h).2) hfew hmx O.dev).mono fun _ _ ⟨hv, hd, ht⟩ => ⟨hv, _, O.grow hd ht⟩
theorem own_load {w0 w : World} {bd : Nat} {A : Dev} {F : Nat → Prop} (O : Own w0 w bd A F) {mx : Nat} (hfew : Few A mx) (hmx : mx < 1000000000000) :
    Ret Tryd.prog 16 #[ptr bd] w fun v w' => ∃ a c, v = .tuple #[.int .u64 (loadG A : Int), .slice a (loadL A).length c, .int .i64 (loadE A)] ∧ Rdx w' F a (loadL A) ∧ Own w0 w' bd A F ∧ Grown F F w w' :=
  (load_ok hfew hmx O.dev).mono fun _ _ ⟨a, c, hv, R, hn, hx⟩ => ⟨a, c, hv, O.loaded R hn, O.call hx, .of0 hx, fun _ h => .inl h⟩
theorem own_arm {w0 w : World} {bd : Nat} {A : Dev} {F : Nat → Prop} (O : Own w0 w bd A F) (n : Int) (hn : n ≤ 9223372036854775807) :
    Ret Tryd.prog 20 #[ptr bd, .int .i64 n] w fun v w' => v = .int .i64 (armE A) ∧ Own w0 w' bd (armD A n) F ∧ Grown F F w w' :=
  (darm_ok n hn O.dev).mono fun _ _ ⟨hv, hd, ht⟩ => ⟨hv, O.same hd ht⟩
theorem own_on {w0 w : World} {bd : Nat} {A : Dev} {F : Nat → Prop} (O : Own w0 w bd A F) (a : Option Addr) (c n : Nat) (picks : List Int) (R : Rd w a 1 (fun x : Int => [.int .i64 x]) picks) (hn : picks.length = n) (hm : n ≤ 9223372036854775000) (hc : n ≤ c) (hFa : picks = [] ∨ ¬ F (adr a).block) (hi64 : ∀ x ∈ picks, -9223372036854775808 ≤ x ∧ x ≤ 9223372036854775807) {mx : Nat} (hfew : Few A mx) (hmx : mx ≤ 1000000000000) :
    Ret Tryd.prog 24 #[ptr bd, .slice a n c] w fun v w' => v = .int .i64 (onE A) ∧ Own w0 w' bd (onD A picks) F ∧ Grown F F w w' :=
  (donp_ok a c n picks R hn hm hc hFa hi64 hfew hmx O.dev).mono fun _ _ ⟨hv, hd, ht⟩ => ⟨hv, O.same hd ht⟩
theorem own_off {w0 w : World} {bd : Nat} {A : Dev} {F : Nat → Prop} (O : Own w0 w bd A F) :
    Ret Tryd.prog 22 #[ptr bd] w fun v w' => v = .int .i64 (bif A.on then 0 else 8) ∧ Own w0 w' bd (offD A) F ∧ Grown F F w w' :=
  (doff_ok O.dev).mono fun _ _ ⟨hv, hd, ht⟩ => ⟨hv, O.same hd ht⟩
theorem own_new {n : Int} (h1 : 1 ≤ n) (h2 : n ≤ 4096) (w : World) : Ret Tryd.prog 12 #[.int .i64 n] w fun v w' => ∃ bd F, v = .tuple #[ptr bd, .int .i64 0] ∧ Own w w' bd (newD n.toNat) F :=
  (dnew_ok n w).mono fun _ _ ⟨hx, h⟩ => by
    rcases h with ⟨he, _⟩ | ⟨_, _, _, bd, rfl, hd⟩
    · rw [newE, decide_eq_false (show ¬ n < 1 by omega), decide_eq_false (show ¬ 4096 < n by omega)] at he
      cases he
    · exact ⟨bd, _, rfl, hx, hd, fun x h => h⟩

theorem calm_few (B : List Byt) (left : Int) : Few (calm B left) 0 := fun p hp => by
  obtain ⟨b, _, rfl⟩ := List.mem_map.1 hp
  exact Nat.le_refl _

/-- Which root two blocks tell. -/
theorem load_two {B : List Byt} {left : Int} {g0 g1 : Nat} {l0 l1 : Byt} (hl : 2 ≤ B.length) (h0 : rootG 0 (B.getD 0 zeros) = g0) (h1 : rootG 1 (B.getD 1 zeros) = g1) (hl0 : g1 < g0 → rootL 0 (B.getD 0 zeros) = l0) (hl1 : g0 ≤ g1 → 0 < g1 → rootL 1 (B.getD 1 zeros) = l1) :
    loadE (calm B left) = (if g0 = 0 ∧ g1 = 0 then 4 else 0) ∧ loadG (calm B left) = (if g1 < g0 then g0 else g1) ∧ loadL (calm B left) = (if g1 < g0 then l0 else if g1 = 0 then [] else l1) := by
  have he : loadE (calm B left) = (if g0 = 0 ∧ g1 = 0 then 4 else 0) := by
    rw [load_calm hl, h0, h1]
    by_cases z0 : g0 = 0 <;> by_cases z1 : g1 = 0 <;> simp [z0, z1]
  refine ⟨he, ?_, ?_⟩
  · rw [loadG, he, calm_at, calm_at, h0, h1]
    by_cases hlt : g1 < g0
    · simp [hlt, show ¬ g0 = 0 by omega]
    · by_cases z1 : g1 = 0
      · have : g0 = 0 := by omega
        subst z1; subst this; rfl
      · simp [hlt, z1]
  · rw [loadL, he, calm_at, calm_at, h0, h1]
    by_cases hlt : g1 < g0
    · simpa [hlt, show ¬ g0 = 0 by omega] using hl0 hlt
    · by_cases z1 : g1 = 0
      · have : g0 = 0 := by omega
        subst z1; subst this; rfl
      · simpa [hlt, z1] using hl1 (by omega) (by omega)

end Go.Proofs.YtkmbcpgnafmnpaaDoor

/- The chapter's examples. -/
namespace Go.Proofs.YtkmbcpgnafmnpaaDoor
open Go.GV
theorem ca_12_StWk : callable Tryd.prog 12 = true := by kernel_rfl
theorem ca_13_StWk : callable Tryd.prog 13 = true := by kernel_rfl
theorem ca_16_StWk : callable Tryd.prog 16 = true := by kernel_rfl
theorem ca_20_StWk : callable Tryd.prog 20 = true := by kernel_rfl
theorem ca_24_StWk : callable Tryd.prog 24 = true := by kernel_rfl
attribute [local irreducible] Wops W Wq Wt

theorem new2 : newD 2 = calm [zeros, zeros] (-1) := new_calm 2
theorem ex_load0 : loadE (calm [zeros, zeros] (-1)) = 4 ∧ loadG (calm [zeros, zeros] (-1)) = 0 ∧ loadL (calm [zeros, zeros] (-1)) = [] :=
  load_two (g0 := 0) (g1 := 0) (l0 := []) (l1 := []) (by decide) (rootG_zeros 0) (rootG_zeros 1) (fun h => by omega) (fun _ h => by omega)
theorem ex_save1 : saveE (calm [zeros, zeros] (-1)) 1 [97] = 0 ∧ saveD (calm [zeros, zeros] (-1)) 1 [97] = calm [zeros, rootB 1 [97]] (-1) :=
  save_calm (by decide) (by decide) (by decide) (by decide) (by decide)
theorem ex_save2 : saveE (calm [zeros, rootB 1 [97]] (-1)) 2 [98] = 0 ∧ saveD (calm [zeros, rootB 1 [97]] (-1)) 2 [98] = calm [rootB 2 [98], rootB 1 [97]] (-1) :=
  save_calm (by decide) (by decide) (by decide) (by decide) (by decide)
theorem ex_load2 : loadE (calm [rootB 2 [98], rootB 1 [97]] (-1)) = 0 ∧ loadG (calm [rootB 2 [98], rootB 1 [97]] (-1)) = 2 ∧ loadL (calm [rootB 2 [98], rootB 1 [97]] (-1)) = [98] :=
  load_two (g0 := 2) (g1 := 1) (l0 := [98]) (l1 := []) (by decide) (rootG_root (gen := 2) (by decide) (by decide) (by decide)) (rootG_root (gen := 1) (by decide) (by decide) (by decide))
    (fun _ => rootL_root (gen := 2) (by decide) (by decide) (by decide)) (fun h => by omega)
theorem ex_save3 : saveE (calm [rootB 2 [98], rootB 1 [97]] 1) 3 [99] = 8 ∧ saveD (calm [rootB 2 [98], rootB 1 [97]] 1) 3 [99] = loosed [rootB 2 [98], rootB 1 [97]] 1 (rootB 3 [99]) 0 false :=
  save_calm (by decide) (by decide) (by decide) (by decide) (by decide)
theorem loosed_few (B : List Byt) (k : Nat) (b : Byt) (left : Int) (on : Bool) : Few (loosed B k b left on) 1 := fun p hp => by
  rcases mem_modify' hp with hp | ⟨y, hy, rfl⟩
  · obtain ⟨b, _, rfl⟩ := List.mem_map.1 hp
    exact Nat.zero_le _
  · obtain ⟨b, _, rfl⟩ := List.mem_map.1 hy
    exact Nat.le_refl _
theorem ex_on : onD (loosed [rootB 2 [98], rootB 1 [97]] 1 (rootB 3 [99]) 0 false) [] = calm [rootB 2 [98], rootB 1 [97]] (-1) := by
  simp [onD, loosed, calm, keepB, kept, pickN]
theorem ex_save0 : saveE (calm [rootB 2 [98], rootB 1 [97]] (-1)) 0 [] = 1 ∧ saveD (calm [rootB 2 [98], rootB 1 [97]] (-1)) 0 [] = calm [rootB 2 [98], rootB 1 [97]] (-1) := ⟨rfl, rfl⟩
theorem ex_many : saveE (calm [rootB 2 [98], rootB 1 [97]] (-1)) 3 (List.replicate 481 0) = 6 := by
  unfold saveE
  rw [calm_len, List.length_replicate]; rfl

set_option maxRecDepth 20000 in
set_option maxHeartbeats 2000000 in
theorem works_ok (w : World) : Ret Tryd.prog 11 #[] w fun v w' => v = .bool true ∧ Ext [] w w' := by
  obtain ⟨w0, rfl⟩ : ∃ w0, w0 = w := ⟨_, rfl⟩
  refine ret_of_W (fn := Tryd.f11) Tryd.func11 rfl [] rfl (by kernel_rfl) ?_
  refine W_rseq ?_
  refine op_assign rfl (.bool _) rfl ?_
  refine op_nil (at_then ?_)
  refine W_rseq ?_
  refine op_call rfl ca_12_StWk (own_new (by decide) (by decide) _) rfl ?_
  rintro v w ⟨bd, F, rfl, O⟩
  replace O : Own w0 w bd (calm [zeros, zeros] (-1)) F := O
  refine op_move rfl (.tuple _) rfl ?_
  refine op_extract rfl rfl rfl ?_
  refine op_extract rfl rfl rfl ?_
  refine op_assign rfl (.pointer _) rfl ?_
  refine op_assign rfl (.int _ _) rfl ?_
  refine op_nil (at_then ?_)
  refine W_seq ?_
  refine W_rseq ?_
  refine op_move rfl (.int _ _) rfl ?_
  refine op_neq rfl rfl rfl ?_
  refine op_move rfl (.bool _) rfl ?_
  refine op_move rfl (.pointer _) rfl ?_
  refine op_eqlptr rfl un_27 rfl ?_
  refine op_pick0 rfl rfl (.bool _) rfl ?_
  refine op_nil (at_then ?_)
  refine W_cond0 rfl ?_
  refine W_skip (at_then ?_)
  refine W_rseq ?_
  refine op_move rfl (.pointer _) rfl ?_
  refine op_call rfl ca_16_StWk (own_load O (calm_few _ _) (by decide)) rfl ?_
  rintro v w ⟨a27, c27, rfl, X27, O, G⟩
  rw [ex_load0.1, ex_load0.2.1, ex_load0.2.2] at *
  refine op_move rfl (.tuple _) rfl ?_
  refine op_extract rfl rfl rfl ?_
  refine op_extract rfl rfl rfl ?_
  refine op_extract rfl rfl rfl ?_
  refine op_assign rfl (.int _ _) rfl ?_
  refine op_assign rfl (.slice _ _ _) rfl ?_
  refine op_assign rfl (.int _ _) rfl ?_
  refine op_nil (at_then ?_)
  refine W_rseq ?_
  refine op_move rfl (.pointer _) rfl ?_
  have H := Ctx.start w []
  refine op_buildL ([97].map bv) rfl el_23 sz_5 zc_5 (by decide) (by decide) (by kernel_rfl) H ?_
  rintro b32 w - H
  refine op_convLit (l := [97]) rfl el_23 un_5 rfl H at0 ?_
  rintro w H R
  replace O := O.call H.ext
  refine op_call rfl ca_13_StWk (own_save O 1 (by decide) _ 1 1 [97] R rfl (by decide) (calm_few _ _) (by decide)) rfl ?_
  rintro v w ⟨rfl, F, O, G⟩
  rw [ex_save1.1]
  rw [ex_save1.2] at O
  refine op_assign rfl (.int _ _) rfl ?_
  refine op_nil (at_then ?_)
  refine W_rseq ?_
  refine op_move rfl (.pointer _) rfl ?_
  have H := Ctx.start w []
  refine op_buildL ([98].map bv) rfl el_23 sz_5 zc_5 (by decide) (by decide) (by kernel_rfl) H ?_
  rintro b36 w - H
  refine op_convLit (l := [98]) rfl el_23 un_5 rfl H at0 ?_
  rintro w H R
  replace O := O.call H.ext
  refine op_call rfl ca_13_StWk (own_save O 2 (by decide) _ 1 1 [98] R rfl (by decide) (calm_few _ _) (by decide)) rfl ?_
  rintro v w ⟨rfl, F, O, G⟩
  rw [ex_save2.1]
  rw [ex_save2.2] at O
  refine op_assign rfl (.int _ _) rfl ?_
  refine op_nil (at_then ?_)
  refine W_rseq ?_
  refine op_move rfl (.pointer _) rfl ?_
  refine op_call rfl ca_16_StWk (own_load O (calm_few _ _) (by decide)) rfl ?_
  rintro v w ⟨a41, c41, rfl, X, O, G⟩
  rw [ex_load2.1, ex_load2.2.1, ex_load2.2.2]
  rw [ex_load2.2.2] at X
  refine op_move rfl (.tuple _) rfl ?_
  refine op_extract rfl rfl rfl ?_
  refine op_extract rfl rfl rfl ?_
  refine op_extract rfl rfl rfl ?_
  refine op_assign rfl (.int _ _) rfl ?_
  refine op_assign rfl (.slice _ _ _) rfl ?_
  refine op_assign rfl (.int _ _) rfl ?_
  refine op_nil (at_then ?_)
  refine W_rseq ?_
  refine op_move rfl (.pointer _) rfl ?_
  refine op_call rfl ca_20_StWk (own_arm O 1 (by decide)) rfl ?_
  rintro v w ⟨rfl, O, G⟩
  replace X := X.turn G
  replace O : Own w0 w bd (calm [rootB 2 [98], rootB 1 [97]] 1) _ := O
  refine op_nil (at_then ?_)
  refine W_rseq ?_
  refine op_move rfl (.pointer _) rfl ?_
  have H := Ctx.start w []
  refine op_buildL ([99].map bv) rfl el_23 sz_5 zc_5 (by decide) (by decide) (by kernel_rfl) H ?_
  rintro b48 w - H
  refine op_convLit (l := [99]) rfl el_23 un_5 rfl H at0 ?_
  rintro w H R
  replace O := O.call H.ext
  replace X := X.call H.ext
  refine op_call rfl ca_13_StWk (own_save O 3 (by decide) _ 1 1 [99] R rfl (by decide) (calm_few _ _) (by decide)) rfl ?_
  rintro v w ⟨rfl, F, O, G⟩
  rw [ex_save3.1]
  rw [ex_save3.2] at O
  replace X := X.turn G
  refine op_assign rfl (.int _ _) rfl ?_
  refine op_nil (at_then ?_)
  refine W_rseq ?_
  refine op_move rfl (.pointer _) rfl ?_
  refine op_call rfl ca_24_StWk (own_on O none 0 0 [] Rd.nil rfl (by decide) (by decide) (.inl rfl) (by simp) (loosed_few _ _ _ _ _) (by decide)) rfl ?_
  rintro v w ⟨rfl, O, G⟩
  rw [ex_on] at O
  replace X := X.turn G
  refine op_nil (at_then ?_)
  refine W_rseq ?_
  refine op_move rfl (.pointer _) rfl ?_
  refine op_call rfl ca_16_StWk (own_load O (calm_few _ _) (by decide)) rfl ?_
  rintro v w ⟨a55, c55, rfl, Y, O, G⟩
  rw [ex_load2.1, ex_load2.2.1, ex_load2.2.2]
  rw [ex_load2.2.2] at Y
  replace X := X.turn G
  refine op_move rfl (.tuple _) rfl ?_
  refine op_extract rfl rfl rfl ?_
  refine op_extract rfl rfl rfl ?_
  refine op_extract rfl rfl rfl ?_
  refine op_assign rfl (.int _ _) rfl ?_
  refine op_assign rfl (.slice _ _ _) rfl ?_
  refine op_assign rfl (.int _ _) rfl ?_
  refine op_nil (at_then ?_)
  refine W_rseq ?_
  refine op_move rfl (.int _ _) rfl ?_
  refine op_eql rfl rfl rfl ?_
  refine op_move rfl (.bool _) rfl ?_
  refine op_move rfl (.int _ _) rfl ?_
  refine op_eql rfl rfl rfl ?_
  refine op_pick1 rfl rfl (.bool _) rfl ?_
  refine op_move rfl (.bool _) rfl ?_
  refine op_move rfl (.int _ _) rfl ?_
  refine op_eql rfl rfl rfl ?_
  refine op_pick1 rfl rfl (.bool _) rfl ?_
  refine op_move rfl (.bool _) rfl ?_
  refine op_move rfl (.int _ _) rfl ?_
  refine op_eql rfl rfl rfl ?_
  refine op_pick1 rfl rfl (.bool _) rfl ?_
  refine op_move rfl (.bool _) rfl ?_
  refine op_move rfl (.slice _ _ _) rfl ?_
  refine op_back (l := [98]) rfl el_23 un_5 un_9 rfl X.1 ?_
  refine op_streq (l := [98]) (m := [98]) rfl rfl rfl ?_
  refine op_pick1 rfl rfl (.bool _) rfl ?_
  refine op_move rfl (.bool _) rfl ?_
  refine op_move rfl (.int _ _) rfl ?_
  refine op_eql rfl rfl rfl ?_
  refine op_pick1 rfl rfl (.bool _) rfl ?_
  refine op_move rfl (.bool _) rfl ?_
  refine op_move rfl (.int _ _) rfl ?_
  refine op_eql rfl rfl rfl ?_
  refine op_pick1 rfl rfl (.bool _) rfl ?_
  refine op_move rfl (.bool _) rfl ?_
  refine op_move rfl (.int _ _) rfl ?_
  refine op_eql rfl rfl rfl ?_
  refine op_pick1 rfl rfl (.bool _) rfl ?_
  refine op_move rfl (.bool _) rfl ?_
  refine op_move rfl (.slice _ _ _) rfl ?_
  refine op_back (l := [98]) rfl el_23 un_5 un_9 rfl Y.1 ?_
  refine op_streq (l := [98]) (m := [98]) rfl rfl rfl ?_
  refine op_pick1 rfl rfl (.bool _) rfl ?_
  refine op_move rfl (.bool _) rfl ?_
  refine op_move rfl (.int _ _) rfl ?_
  refine op_eql rfl rfl rfl ?_
  refine op_pick1 rfl rfl (.bool _) rfl ?_
  refine op_move rfl (.bool _) rfl ?_
  refine op_move rfl (.pointer _) rfl ?_
  refine op_call rfl ca_13_StWk (own_save O 0 (by decide) none 0 0 [] Rd.nil rfl (by decide) (calm_few _ _) (by decide)) rfl ?_
  rintro v w ⟨rfl, F, O, G⟩
  rw [ex_save0.1]
  rw [ex_save0.2] at O
  refine op_eql rfl rfl rfl ?_
  refine op_pick1 rfl rfl (.bool _) rfl ?_
  refine op_move rfl (.bool _) rfl ?_
  refine op_move rfl (.pointer _) rfl ?_
  have H := Ctx.start w []
  refine op_make rfl el_23 sz_5 by_5 zc_5 rfl rfl (by omega) (by omega) (by omega) (by omega) H ?_
  rintro b106 w - H
  replace O := O.call H.ext
  refine op_call rfl ca_13_StWk (own_save O 3 (by decide) _ 481 481 (List.replicate 481 0) (rd_blB (by have h9 := H.get at0; exact h9)) (by rw [List.length_replicate]) (by decide) (calm_few _ _) (by decide)) rfl ?_
  rintro v w ⟨rfl, F, O, G⟩
  rw [ex_many]
  refine op_eql rfl rfl rfl ?_
  refine op_pick1 rfl rfl (.bool _) rfl ?_
  refine op_assign rfl (.bool _) rfl ?_
  refine op_nil (at_then ?_)
  refine W_ret (leave1 (v := (.bool _)) rfl rfl rfl ?_)
  exact ⟨rfl, O.ext⟩

end Go.Proofs.YtkmbcpgnafmnpaaDoor
