/- Part 5 of the proof. -/
import Derived.Test.YtbkadlngijkmmaaGreatDoorPart4
import Derived.Test.YtbkadlngijkmmaaGreatDoorPart3
import Derived.Lib.Bytealg
import Derived.Laws.Externs
import Derived.Lib.AppendZerosOnto
/- A device's flush: the rounds. -/
namespace Go.Proofs.YtbkadlngijkmmaaGreatDoor
open Go.GV
attribute [local irreducible] Wops W Wq Wt

/-- The last of what is loose, by blocks. -/
theorem DevR.last {w : World} {bd : Nat} {A : Dev} {role : Nat → Nat} {bs bm : Nat} {sv : List Value} {m : List (Int × Value)} {o : Obj} (D : DevR w bd A role bs bm sv m o) :
    ∃ f : Nat → Value, ∀ i p, A.B[i]? = some p → p.2 ≠ [] → BytesAt w role (f i) (stands p) ∧ ∃ al n c fl vs, mget m (i : Int) = some (.slice al n c) ∧ OS al n c 1 fl vs ∧ n = p.2.length ∧ (∀ x ∈ ent al 23 fl, w.heap[x.1]? = some x.2 ∧ role x.1 = 5 + i) ∧ vs[n - 1]? = some (f i) := by
  have h : ∀ i : Nat, ∃ v, ∀ p, A.B[i]? = some p → p.2 ≠ [] → BytesAt w role v (stands p) ∧ ∃ al n c fl vs, mget m (i : Int) = some (.slice al n c) ∧ OS al n c 1 fl vs ∧ n = p.2.length ∧ (∀ x ∈ ent al 23 fl, w.heap[x.1]? = some x.2 ∧ role x.1 = 5 + i) ∧ vs[n - 1]? = some v := fun i => by
    by_cases hp : ∃ p, A.B[i]? = some p ∧ p.2 ≠ []
    · obtain ⟨p, hp, hne⟩ := hp
      obtain ⟨_, ⟨al, n, c, fl, vs, hv, O, hent, hvs⟩, hiff⟩ := D.part i p hp
      have hn : n = vs.length := by have := O.llen; omega
      have hpos : 0 < p.2.length := List.length_pos_iff.2 hne
      have hvl := hvs.1
      obtain ⟨b, hb⟩ := get_some (l := p.2) (i := n - 1) (by omega)
      obtain ⟨v, hvv⟩ := get_some (l := vs) (i := n - 1) (by omega)
      have hst : stands p = b := by
        rw [stands, List.getLast?_eq_getElem?, show p.2.length - 1 = n - 1 by omega, hb]; rfl
      refine ⟨v, fun p' hp' _ => ?_⟩
      rw [hp] at hp'
      cases hp'
      refine ⟨by rw [hst]; exact hvs.2 _ _ _ hvv hb, al, n, c, fl, vs, ?_, O, by omega, hent, hvv⟩
      obtain ⟨u, hu⟩ := Option.isSome_iff_exists.1 (hiff.2 hne)
      rw [hu] at hv ⊢
      rw [← hv]; rfl
    · exact ⟨.nilFunc, fun p h1 h2 => absurd ⟨p, h1, h2⟩ hp⟩
  exact ⟨fun i => Classical.choose (h i), fun i => Classical.choose_spec (h i)⟩

theorem DevR.keep {w w' : World} {bd : Nat} {A : Dev} {role : Nat → Nat} {bs bm : Nat} {sv : List Value} {m : List (Int × Value)} {o : Obj} (D : DevR w bd A role bs bm sv m o) {S : List Nat} (hx : Ext S w w') (hS' : ∀ x ∈ S, role x = 0) : DevR w' bd A role bs bm sv m o := by
  have hb : ∀ {b : Nat} {o : Obj}, w.heap[b]? = some o → role b ≠ 0 → w'.heap[b]? = some o := fun {b o} h1 h2 => by
    rw [hx.block b (heap_lt h1) fun h => h2 (hS' b h)]; exact h1
  refine ⟨fun x h => Nat.lt_of_lt_of_le (D.lt x h) hx.size, D.rd, D.rs, D.rm, hb D.hd (by rw [D.rd]; decide), hb D.hs (by rw [D.rs]; decide), hb D.hm (by rw [D.rm]; decide), D.hM, D.nd, D.keys, D.len, fun i p hp => ?_, D.wf⟩
  obtain ⟨⟨v, h1, h2⟩, h3, h4⟩ := D.part i p hp
  exact ⟨⟨v, h1, h2.keep hx (fun x h => by rw [hS' x h]; decide) fun _ h => h⟩, h3.keep hx (fun x h => by rw [hS' x h]; omega) (fun _ h => h) (fun _ h => h), h4⟩
theorem DevR.keep0 {w w' : World} {bd : Nat} {A : Dev} {role : Nat → Nat} {bs bm : Nat} {sv : List Value} {m : List (Int × Value)} {o : Obj} (D : DevR w bd A role bs bm sv m o) (hx : Ext [] w w') : DevR w' bd A role bs bm sv m o := D.keep hx (by simp)

/-- Nothing is loose any more: the array anew, the map empty. -/
theorem DevR.swept {w w' : World} {bd : Nat} {A : Dev} {role : Nat → Nat} {bs bm : Nat} {sv : List Value} {m : List (Int × Value)} {o o' : Obj} (D : DevR w bd A role bs bm sv m o) {A' : Dev} {sv' : List Value} (hx : Ext [bd, bs, bm] w w')
    (hlen : A'.B.length = A.B.length) (hd : w'.heap[bd]? = some (Bl TD (DB A'.B.length bs bm A'.left A'.on))) (hs : w'.heap[bs]? = some (Bl 23 sv')) (hm : w'.heap[bm]? = some o') (hM : MapO .i64 [] o') (hl : sv'.length = A.B.length)
    (hp : ∀ (i : Nat) (p : Byt × List Byt), A'.B[i]? = some p → p.2 = [] ∧ ∃ v, sv'[i]? = some v ∧ SureAt w' role v p.1) (wf : Wf A') : DevR w' bd A' role bs bm sv' [] o' := by
  refine ⟨fun x h => Nat.lt_of_lt_of_le (D.lt x h) hx.size, D.rd, D.rs, D.rm, hd, hs, hm, hM, List.nodup_nil, fun k v h => (by cases h), by rw [hl, hlen], fun i p h => ?_, wf⟩
  obtain ⟨h1, h2⟩ := hp i p h
  refine ⟨h2, ?_, by simp [mget_nil, h1]⟩
  rw [h1]
  exact ⟨none, 0, 0, [], [], rfl, OS.nil, by simp [ent], rfl, fun j x y h => by cases h⟩

theorem pigeon : ∀ (n : Nat) (l : List Nat), l.Nodup → (∀ x ∈ l, x < n) → l.length ≤ n
  | 0, l, _, h => by
    cases l with
    | nil => exact Nat.le_refl _
    | cons x l => exact absurd (h x (by simp)) (Nat.not_lt_zero _)
  | n + 1, l, hd, h => by
    have h1 := pigeon n (l.filter (· != n)) (hd.filter _) (fun x hx => by
      have := h x (List.mem_filter.1 hx).1
      have h2 := (List.mem_filter.1 hx).2
      simp at h2; omega)
    have h2 : l.length = (l.filter (· != n)).length + l.count n := by
      clear hd h h1
      induction l with
      | nil => rfl
      | cons x l ih =>
        rw [List.count_cons, List.filter_cons]
        by_cases hx : x = n
        · subst hx; simp; omega
        · simp [hx]; omega
    have h3 : l.count n ≤ 1 := List.nodup_iff_count.1 hd n
    omega

theorem DevR.bound {w : World} {bd : Nat} {A : Dev} {role : Nat → Nat} {bs bm : Nat} {sv : List Value} {m : List (Int × Value)} {o : Obj} (D : DevR w bd A role bs bm sv m o) : ∀ p ∈ m, 0 ≤ p.1 ∧ p.1 < A.B.length := by
  intro p hp
  have h : ∃ v, mget m p.1 = some v := by
    have hm : p.1 ∈ keysOf m := (List.mergeSort_perm _ _).mem_iff.2 (List.mem_map.2 ⟨p, hp, rfl⟩)
    exact keysOf_mem hm
  obtain ⟨v, hv⟩ := h
  obtain ⟨i, h1, h2⟩ := D.keys _ v hv
  omega
theorem DevR.few {w : World} {bd : Nat} {A : Dev} {role : Nat → Nat} {bs bm : Nat} {sv : List Value} {m : List (Int × Value)} {o : Obj} (D : DevR w bd A role bs bm sv m o) : m.length ≤ A.B.length := by
  have h := pigeon A.B.length (m.map fun p => p.1.toNat) (by
    have nd := D.nd
    rw [List.nodup_iff_pairwise_ne, List.pairwise_map] at nd ⊢
    refine nd.imp_of_mem fun {a b} ha hb hab he => hab ?_
    have := D.bound a ha; have := D.bound b hb
    omega) (fun x hx => by
    obtain ⟨p, hp, rfl⟩ := List.mem_map.1 hx
    have := D.bound p hp
    omega)
  simpa using h

end Go.Proofs.YtbkadlngijkmmaaGreatDoor

/- A device's flush. -/
namespace Go.Proofs.YtbkadlngijkmmaaGreatDoor
open Go.GV
attribute [local irreducible] Wops W Wq Wt

theorem sim_two {n a b : Nat} {tmps : Array Value} {g : Nat → Value} {x y : Value} (hts : tmps.size = n) (htm : ∀ i, tmps.getD i undef = g i) (ha : a < n) (hb : b < n) :
    Sim n (put (put ⟨g, []⟩ (some a) x) (some b) y) { tmps := ((#[a, b] : Array Tmp).zip [x, y].toArray).foldl (fun tmps (t, v) => tmps.setIfInBounds t v) tmps, defers := [] } := by
  have h1 : Sim n ⟨g, []⟩ { tmps := tmps, defers := [] } := ⟨rfl, hts, htm⟩
  have h2 := Sim.put (Sim.put h1 (some a) x (by rintro _ ⟨⟩; exact ha)) (some b) y (by rintro _ ⟨⟩; exact hb)
  simpa [Act.put] using h2

theorem begin_of {P : Program} {l n : Nat} {body : Code} {R : Value → World → Prop} {e : Env} {w : World} {lo : Loop} (h1 : w.heap[l]? = some (.loop lo)) (hst : lo.state = .ready)
    (h : ∀ wR lo2, Ext [l] w wR → wR.heap[l]? = some (.loop lo2) → lo2 = { lo with state := .busy } → W P (some l) n body (Qround l R) e wR) : Qbegin P l n body R .normal e w :=
  ⟨lo, h1, hst, h _ _ (Ext.setB w l _) (setB_same h1) rfl⟩
theorem round_end {l : Nat} {R : Value → World → Prop} {e : Env} {w : World} {lo lo2 : Loop} (h1 : w.heap[l]? = some (.loop lo2)) (h2 : lo2 = { lo with state := .busy }) (hst : lo.state = .ready) (hp : lo.pending = none)
    (h : ∀ wF, Ext [l] w wF → wF.heap[l]? = some (.loop lo) → R (.bool true) wF) : Qround l R .normal e w := by
  refine ⟨lo2, h1, h _ (Ext.setB w l _) ?_⟩
  have : ({ lo2 with state := .ready, pending := none } : Loop) = lo := by
    subst h2
    cases lo
    simp_all
  rw [setB_same h1, this]

theorem jumped_none {Q : Exit → Env → World → Prop} {e : Env} {w : World} {j : Option Code} (hj : j = none) (h : Q .normal e w) : jumped Q e w j := by subst hj; exact h
theorem mem_keysOf {m : List (Int × Value)} {k : Int} {v : Value} (h : mget m k = some v) : k ∈ keysOf m := by
  refine (List.mergeSort_perm _ _).mem_iff.2 ?_
  induction m with
  | nil => cases h
  | cons p m ih =>
    by_cases hp : p.1 = k
    · rw [← hp]; exact List.mem_cons_self ..
    · exact List.mem_cons_of_mem _ (ih (by simpa [mget, hp] using h))

set_option maxRecDepth 20000 in
set_option maxHeartbeats 1000000 in
theorem dflush_ok {w : World} {bd : Nat} {A : Dev} {F : Nat → Prop} {mx : Nat} (hfew : Few A mx) (hmx : mx ≤ 1000000000000) (DA : DevAt w bd A F) :
    Ret Tryz.prog 36 #[ptr bd] w fun v w' => v = .int .i64 (flushE A) ∧ DevAt w' bd (flushD A) F ∧ Turn F w w' := by
  obtain ⟨w0, rfl⟩ : ∃ w0, w0 = w := ⟨_, rfl⟩
  obtain ⟨role, bs, bm, sv, m, o, D, hF⟩ := DA
  have H := Ctx.start w0 []
  refine ret_of_WM (fn := Tryz.f36) Tryz.func36 rfl [.pointer (some ⟨bd, 0, none⟩)] rfl (by kernel_rfl) ?_
  refine W_rseq ?_
  refine op_box rfl _ (.pointer _) rfl rfl H ?_
  rintro b1 w - H
  refine op_assign rfl (.int _ _) rfl ?_
  refine op_nil (at_then ?_)
  refine W_seq ?_
  refine W_rseq ?_
  refine op_ldb rfl ag_32 rfl H (by first | exact at0 | exact at1 | exact at2 | exact at3 | exact at4 | exact at5 | exact at6 | exact at7 | exact at8 | exact at9) rfl ?_
  refine op_call rfl ca_82 (don_ok (Ctx.oldb H D.hd)) rfl ?_
  rintro v w ⟨rfl, rfl⟩
  refine op_assign rfl (.int _ _) rfl ?_
  refine op_nil (at_then ?_)
  refine W_rseq ?_
  refine op_move rfl (.int _ _) rfl ?_
  refine op_neq rfl rfl rfl ?_
  refine op_nil (at_then ?_)
  refine W_cond _ rfl ?_ ?_
  · intro h1
    replace h1 := ndec_t h1
    have ho : A.on = false := by cases h : A.on <;> simp_all
    refine W_rseq ?_
    refine op_move rfl (.int _ _) rfl ?_
    refine op_assign rfl (.int _ _) rfl ?_
    refine op_nil (at_then ?_)
    refine W_ret (ret_then (leaveM1 (v := (.int _ _)) rfl rfl ?_))
    exact ⟨by rw [flushE, ho]; rfl, by rw [flushD, ho]; exact ⟨role, bs, bm, sv, m, o, D.keep0 H.ext, hF⟩, .of0 H.ext⟩
  · intro h1
    replace h1 := ndec_f h1
    have ho : A.on = true := by cases h : A.on <;> simp_all
    refine W_skip (at_then ?_)
    refine W_rseq ?_
    refine op_ldb rfl ag_32 rfl H (by first | exact at0 | exact at1 | exact at2 | exact at3 | exact at4 | exact at5 | exact at6 | exact at7 | exact at8 | exact at9) rfl ?_
    refine op_call rfl ca_83 (dcounts_ok (D.keep0 H.ext)) rfl ?_
    rintro v w ⟨rfl, D1, hx1⟩
    refine op_assign rfl (.int _ _) rfl ?_
    refine op_nil (at_then ?_)
    refine W_seq ?_
    refine W_rseq ?_
    refine op_move rfl (.int _ _) rfl ?_
    refine op_eql rfl rfl rfl ?_
    refine op_nil (at_then ?_)
    refine W_cond _ rfl ?_ ?_
    · intro h3
      replace h3 := dec_t h3
      have hg : A.goes = false := by cases h : A.goes <;> simp_all
      have hbd0 := heap_lt D.hd
      have ho1 : w0.heap.size ≤ b1 := (H.own _ (List.mem_cons_self ..)).elim (fun h => by cases h) id
      have hb1 : w.heap[b1]? = some (Bl 32 [ptr bd]) := by
        rw [hx1.block b1 (H.lt at0) (by simp; omega)]; exact H.get at0
      refine W_seq ?_
      refine W_rseq ?_
      first | refine op_ldb rfl ag_32 rfl H (by first | exact at0 | exact at1 | exact at2 | exact at3 | exact at4 | exact at5 | exact at6 | exact at7 | exact at8 | exact at9) rfl ?_ | refine op_ld rfl ag_32 rfl (cell_bl hb1 _) ?_
      refine op_call rfl ca_84 (rising_ok bd _) rfl ?_
      rintro v w ⟨bx, rfl, hbx, hbxn, hx17⟩
      refine op_nil (at_then ?_)
      refine W_block ?_
      have D2 := D1.keep0 hx17
      have hb1L : w.heap[b1]? = some (Bl 32 [ptr bd]) := by rw [hx17.block b1 (heap_lt hb1) (by simp)]; exact hb1
      obtain ⟨f, hf⟩ := D2.last
      refine W_rangeFunc rfl ca_142 ?_
      intro fn tmps hts htm Db l w2 hDb hl hx2 hD hrec
      have D3 := D2.keep0 hx2
      have up2 : ∀ {b : Nat} {o : Obj}, w.heap[b]? = some o → w2.heap[b]? = some o := fun {b o} g => by rw [hx2.block b (heap_lt g) (by simp)]; exact g
      obtain ⟨lo, hlo, hrec'⟩ : ∃ lo, lo = _ ∧ w2.heap[l]? = some (.loop lo) := ⟨_, rfl, hrec⟩
      have hhi := D3.wf.hi
      have hlen : m.length ≤ 4096 := Nat.le_trans D3.few hhi
      have hbs0 := D2.lt bs (by rw [D2.rs]; decide)
      have hbd1 := D2.lt bd (by rw [D2.rd]; decide)
      have hbm1 := D2.lt bm (by rw [D2.rm]; decide)
      have hbxL := heap_lt hbx
      have hbsl : bs ≠ l := by omega
      have hb1s : b1 ≠ bs := by have := D.lt bs (by rw [D.rs]; decide); omega
      have hbxs : bx ≠ bs := by have := D1.lt bs (by rw [D1.rs]; decide); omega
      have hbds : bd ≠ bs := fun h => by have h1 := D3.rd; rw [h, D3.rs] at h1; omega
      have hbms : bm ≠ bs := fun h => by have h1 := D3.rm; rw [h, D3.rs] at h1; omega
      refine Ret.mono (rising1_ok (l := l) (up2 hbx) D3.hd D3.hm D3.hM D3.nd hlen (fun p hp => by have := D3.bound p hp; omega)
        (fun wK i w' => w'.heap[l]? = some (.loop lo) ∧ Ext [bs, l] wK w' ∧ w'.heap[bs]? = some (Bl 23 (laid f sv ((keysOf m).take i)))) ?_ ?_ ?_) ?_
      · intro wK hx
        refine ⟨by rw [hx.block l (heap_lt hrec') (by simp)]; exact hrec', .refl _ _, ?_⟩
        rw [hx.block bs (heap_lt D3.hs) (by simp)]; exact D3.hs
      · rintro wK i w' hx ⟨h1, h2, h3⟩
        have e1 : ∀ {b : Nat} {o : Obj}, w.heap[b]? = some o → b ≠ bs → w'.heap[b]? = some o := fun {b o} g1 g2 => by
          have g3 : b ≠ l := by have := heap_lt g1; omega
          rw [h2.block b (Nat.lt_of_lt_of_le (heap_lt (up2 g1)) hx.size) (by simp [g2, g3]), hx.block b (heap_lt (up2 g1)) (by simp)]; exact up2 g1
        refine ⟨e1 hbx hbxs, ⟨bs, _, _, e1 D2.hd hbds⟩, e1 D2.hm hbms, _, h2, fun x h => ?_⟩
        simp only [List.mem_cons, List.not_mem_nil, or_false] at h
        rcases h with rfl | rfl
        · exact heap_lt D3.hs
        · exact heap_lt hrec'
      · rintro wK i k v w' hxK hk hv ⟨h1, h2, h3⟩
        obtain ⟨q, rfl, hq⟩ := D3.keys _ v hv
        obtain ⟨p, hp⟩ : ∃ p, A.less.B[q]? = some p := ⟨_, List.getElem?_eq_getElem hq⟩
        have hne : p.2 ≠ [] := (D3.part q p hp).2.2.1 (by rw [hv]; rfl)
        obtain ⟨hby, al, nl, cl, fl, vs, hv', O, hnl, hent, hlast⟩ := hf q p hp hne
        rw [hv] at hv'
        cases hv'
        have hpl := less_few hfew p (List.mem_of_getElem? hp)
        have hpos : 0 < nl := by rw [hnl]; exact List.length_pos_iff.2 hne
        subst hlo
        refine yield_of h1 rfl (round_of_W _ (sim_two hts htm (by decide) (by decide)) (by kernel_rfl) ?_)
        refine W_rseq ?_
        refine op_assign rfl (.int _ _) rfl ?_
        refine op_nil (at_then ?_)
        refine W_region ?_
        refine op_assign rfl (.slice _ _ _) rfl ?_
        refine op_nil ?_
        refine begin_of h1 rfl ?_
        intro wR lo2 hxR hlR hlo2
        have eR : ∀ {b : Nat} {o : Obj}, w.heap[b]? = some o → b ≠ bs → wR.heap[b]? = some o := fun {b o} g1 g2 => by
          have g3 : b ≠ l := by have := heap_lt g1; omega
          have g4 : w'.heap[b]? = some o := by
            rw [h2.block b (Nat.lt_of_lt_of_le (heap_lt (up2 g1)) hxK.size) (by simp [g2, g3]), hxK.block b (heap_lt (up2 g1)) (by simp)]; exact up2 g1
          rw [hxR.block b (heap_lt g4) (by simpa using g3)]; exact g4
        have hbs2 := D3.rs
        have hbdR := eR D2.hd hbds
        have hb1R := eR hb1L hb1s
        have hbsR : wR.heap[bs]? = some (Bl 23 (laid f sv ((keysOf m).take i))) := by rw [hxR.block bs (heap_lt h3) (by simpa using hbsl)]; exact h3
        have Rl : Rd wR al 1 (fun v : Value => [v]) vs := OS.rdV O fun x hx => eR (hent x hx).1 (fun h => by have := (hent x hx).2; rw [h] at this; omega)
        have hlv : (laid f sv ((keysOf m).take i)).length = sv.length := laid_len ..
        have hsvl := D3.len
        have hvn : nl = vs.length := by have := O.llen; omega
        obtain ⟨a9, c9, hfq, _⟩ := hby
        rw [hfq] at hlast
        have HT : ∀ x, Ext [] wR x → Ctx wR [] x [] := fun x hx => (Ctx.start wR []).call hx
        refine W_block ?_
        refine W_segz [([0, 1, 2, 3, 4, 5, 6, 7, 8, 9, 10, 11], 12)] (fun x => Ext [] wR x) [12] mixed (by kernel_rfl) (Ext.drew _ wR) ?_
        refine seg_cons rfl rfl ?_
        first | refine t_ldb rfl ag_32 rfl HT (by first | exact at0 | exact at1 | exact at2 | exact at3 | exact at4 | exact at5 | exact at6 | exact at7 | exact at8 | exact at9) rfl ?_ | refine t_ld rfl ag_32 rfl (fun _ hx => hx.cell (cell_bl hb1R 0) (by simp)) ?_ | refine t_ld rfl ag_32 rfl (fun _ hx => hx.cell (cell_bl hbdR (0 + 0)) (by simp)) ?_ | refine t_ld rfl ag_32 rfl (fun _ hx => (Rl.ext0 hx).one (f := fun v => v) hlast) ?_
        refine t_nilCheck rfl rfl ?_
        refine t_fieldAddr rfl fo_144_0 rfl ?_
        first | refine t_ldb rfl ag_141 rfl HT (by first | exact at0 | exact at1 | exact at2 | exact at3 | exact at4 | exact at5 | exact at6 | exact at7 | exact at8 | exact at9) rfl ?_ | refine t_ld rfl ag_141 rfl (fun _ hx => hx.cell (cell_bl hb1R 0) (by simp)) ?_ | refine t_ld rfl ag_141 rfl (fun _ hx => hx.cell (cell_bl hbdR (0 + 0)) (by simp)) ?_ | refine t_ld rfl ag_141 rfl (fun _ hx => (Rl.ext0 hx).one (f := fun v => v) hlast) ?_
        refine t_move rfl (.int _ _) rfl ?_
        refine t_move rfl (.slice _ _ _) rfl ?_
        refine t_move rfl (.slice _ _ _) rfl ?_
        refine t_len rfl el_141 rfl ?_
        refine t_sub_i64 rfl rfl rfl (by omega) (by omega) ?_
        rw [show ((nl : Int) - 1) = ((nl - 1 : Nat) : Int) by omega]
        first | refine t_indexRd Rl rfl el_141 sz_23 rfl rfl (by omega) (by omega) (by first | rfl | omega) ?_ | refine t_indexAddr rfl el_141 sz_23 rfl rfl (by omega) (by omega) ?_
        first | refine t_ldb rfl ag_23 rfl HT (by first | exact at0 | exact at1 | exact at2 | exact at3 | exact at4 | exact at5 | exact at6 | exact at7 | exact at8 | exact at9) rfl ?_ | refine t_ld rfl ag_23 rfl (fun _ hx => hx.cell (cell_bl hb1R 0) (by simp)) ?_ | refine t_ld rfl ag_23 rfl (fun _ hx => hx.cell (cell_bl hbdR (0 + 0)) (by simp)) ?_ | refine t_ld rfl ag_23 rfl (fun _ hx => (Rl.ext0 hx).one (f := fun v => v) hlast) ?_
        first | refine t_indexRd Rl rfl el_141 sz_23 rfl rfl (by omega) (by omega) (by first | rfl | omega) ?_ | refine t_indexAddr rfl el_141 sz_23 rfl rfl (by omega) (by omega) ?_
        refine t_nil ?_
        skip
        refine op_stb (.slice _ _ _) rfl sz_23 rfl rfl rfl (Ctx.start1 (show (World.drew wR).heap[bs]? = _ from hbsR)) at0 (by omega) ?_
        rintro wE HE
        refine op_nil (at_segz rfl ?_)
        refine seg_nil ?_
        refine at_block ?_
        have hlE : wE.heap[l]? = some (.loop lo2) := by rw [HE.ext.block l (heap_lt hlR) (by simp; omega)]; exact hlR
        refine round_end hlE hlo2 rfl rfl ?_
        intro wF hxF hlF
        refine ⟨rfl, hlF, (h2.trans (hxR.mono (by simp))).trans ((Ext.drew _ _).trans ((HE.ext.mono (by simp)).trans (hxF.mono (by simp)))), ?_⟩
        rw [hxF.block bs (heap_lt (HE.get at0)) (by simpa using hbsl), HE.get at0, take_snoc hk, laid_snoc]
        simp only [Int.toNat_natCast, Nat.zero_add, Nat.mul_one, hfq]
      · rintro v w3 ⟨wK, hxK, hl3, hx3, hs3⟩
        rw [← keysOf_len m, List.take_length] at hs3
        refine ⟨_, hl3, by subst hlo; exact (fun h => by cases h), jumped_none (by rw [hlo]) ?_⟩
        have hx4 := Ext.setB w3 l (.loop { lo with state := .exhausted })
        generalize w3.putObj l (.loop { lo with state := .exhausted }) = w4 at hx4 ⊢
        refine at_block (at_then ?_)
        have hz : Ext [bd, bs, bm] w w4 := (((hx2.trans hxK).mono (by simp)).then hx3 (by intro x h; simp only [List.mem_cons, List.not_mem_nil, or_false] at h ⊢; omega)).then hx4 (by intro x h; simp only [List.mem_cons, List.not_mem_nil, or_false] at h ⊢; omega)
        have up4 : ∀ {b : Nat} {o : Obj}, w.heap[b]? = some o → b ≠ bs → w4.heap[b]? = some o := fun {b o} g1 g2 => by
          have g3 : b ≠ l := by have := heap_lt g1; omega
          rw [hx4.block b (Nat.lt_of_lt_of_le (heap_lt (up2 g1)) (Nat.le_trans hxK.size hx3.size)) (by simpa using g3), hx3.block b (Nat.lt_of_lt_of_le (heap_lt (up2 g1)) hxK.size) (by simp [g2, g3]), hxK.block b (heap_lt (up2 g1)) (by simp)]; exact up2 g1
        have hD4 : w4.heap[Db]? = some (.deferred (some [])) := by
          have g3 : Db ≠ l := by omega
          have g2 : Db ≠ bs := by omega
          rw [hx4.block Db (Nat.lt_of_lt_of_le (heap_lt hD) (Nat.le_trans hxK.size hx3.size)) (by simpa using g3), hx3.block Db (Nat.lt_of_lt_of_le (heap_lt hD) hxK.size) (by simp [g2, g3]), hxK.block Db (heap_lt hD) (by simp)]; exact hD
        have hs4 : w4.heap[bs]? = some (Bl 23 (laid f sv (keysOf m))) := by
          rw [hx4.block bs (heap_lt hs3) (by simpa using hbsl)]; exact hs3
        have hb14 := up4 hb1L hb1s
        have hd4 := up4 D2.hd hbds
        have H4 := Ctx.start1 (up4 D2.hm hbms)
        refine W_region ?_
        first | refine op_ldb rfl ag_32 rfl H (by first | exact at0 | exact at1 | exact at2 | exact at3 | exact at4 | exact at5 | exact at6 | exact at7 | exact at8 | exact at9) rfl ?_ | refine op_ld rfl ag_32 rfl (cell_bl hb14 _) ?_ | refine op_ld rfl ag_32 rfl (cell_bl hd4 _) ?_
        refine op_nilCheck rfl rfl ?_
        refine op_fieldAddr rfl fo_144_1 rfl ?_
        first | refine op_ldb rfl ag_142 rfl H (by first | exact at0 | exact at1 | exact at2 | exact at3 | exact at4 | exact at5 | exact at6 | exact at7 | exact at8 | exact at9) rfl ?_ | refine op_ld rfl ag_142 rfl (cell_bl hb14 _) ?_ | refine op_ld rfl ag_142 rfl (cell_bl hd4 _) ?_
        refine op_clear rfl mt_142 rfl H4 at0 D2.hM ?_
        rintro o' w5 hM' H5
        refine op_nil (at_then ?_)
        refine W_rseq ?_
        refine op_move rfl (.int _ _) rfl ?_
        refine op_assign rfl (.int _ _) rfl ?_
        refine op_nil (at_then ?_)
        refine W_ret (leaveM1 (v := (.int _ _)) rfl rfl ?_)
        refine ⟨Db, rfl, by rw [H5.ext.block Db (heap_lt hD4) (by simp; omega)]; exact hD4, ?_⟩
        have hxD := Ext.setB w5 Db (.deferred none)
        obtain ⟨w6, hw6⟩ : ∃ x, x = w5.putObj Db (.deferred none) := ⟨_, rfl⟩
        rw [← hw6] at hxD ⊢
        have hz6 : Ext [bd, bs, bm] w w6 := (hz.then H5.ext (by intro x h; simp only [List.mem_cons, List.not_mem_nil, or_false] at h ⊢; omega)).then hxD (by intro x h; simp only [List.mem_cons, List.not_mem_nil, or_false] at h ⊢; omega)
        have up6 : ∀ {b : Nat} {o : Obj}, w4.heap[b]? = some o → b ≠ bm → b ≠ Db → w6.heap[b]? = some o := fun {b o} g1 g2 g3 => by
          rw [hxD.block b (Nat.lt_of_lt_of_le (heap_lt g1) H5.ext.size) (by simpa using g3), H5.ext.block b (heap_lt g1) (by simpa using g2)]; exact g1
        have hbdm : bd ≠ bm := fun h => by have h1 := D3.rd; rw [h, D3.rm] at h1; omega
        refine ⟨by rw [flushE, ho, hg]; rfl, ?_, ?_⟩
        · rw [flushD, ho, hg]
          refine ⟨role, bs, bm, laid f sv (keysOf m), [], o', D2.swept (A' := sureD A.less) hz6 (by simp [sureD]) ?_ (up6 hs4 (Ne.symm hbms) (by omega)) ?_ hM' (by rw [laid_len, D2.len]) ?_ (sureD_wf D2.wf), hF⟩
          · rw [show (sureD A.less).B.length = A.less.B.length by simp [sureD]]
            exact up6 hd4 hbdm (by omega)
          · rw [hxD.block bm (heap_lt (H5.get at0)) (by simp; omega)]; exact H5.get at0
          · intro i p hp
            obtain ⟨p0, hp0, rfl⟩ : ∃ p0, A.less.B[i]? = some p0 ∧ p = (stands p0, []) := by
              simp only [sureD, List.getElem?_map, Option.map_eq_some_iff] at hp
              obtain ⟨p0, h1, h2⟩ := hp
              exact ⟨p0, h1, h2.symm⟩
            have hi : i < A.less.B.length := (List.getElem?_eq_some_iff.1 hp0).1
            refine ⟨rfl, ?_⟩
            have hr4 : ∀ x ∈ [bd, bs, bm], role x ≠ 4 := by
              intro x h
              simp only [List.mem_cons, List.not_mem_nil, or_false] at h
              rcases h with rfl | rfl | rfl
              · rw [D2.rd]; decide
              · rw [D2.rs]; decide
              · rw [D2.rm]; decide
            rw [laid_get f sv _ (fun k hk => by obtain ⟨v, hv⟩ := keysOf_mem hk; obtain ⟨j, rfl, _⟩ := D2.keys k v hv; omega) (by rw [D2.len]; exact hi)]
            have hpart := D2.part i p0 hp0
            split
            · rename_i hin
              obtain ⟨v, hv⟩ := keysOf_mem hin
              have hne : p0.2 ≠ [] := hpart.2.2.1 (by rw [hv]; rfl)
              exact ⟨_, rfl, .inr ((hf i p0 hp0 hne).1.keep hz6 hr4 fun _ h => h)⟩
            · rename_i hin
              have he : p0.2 = [] := Classical.byContradiction fun hne => by
                obtain ⟨v, hv⟩ := Option.isSome_iff_exists.1 (hpart.2.2.2 hne)
                exact hin (mem_keysOf hv)
              obtain ⟨v, h1, h2⟩ := hpart.1
              refine ⟨v, h1, ?_⟩
              rw [show stands p0 = p0.1 by rw [stands, he]; rfl]
              exact h2.keep hz6 hr4 fun _ h => h
        · refine Turn.trans (.of0 H.ext) (Turn.trans (.of hx1 fun x h => hF x (by rw [List.mem_singleton.1 h, D.rd]; decide)) (.of ((hx17.mono (by simp)).trans hz6) fun x h => ?_) fun x h => .inl h) fun x h => .inl h
          refine hF x ?_
          simp only [List.mem_cons, List.not_mem_nil, or_false] at h
          rcases h with rfl | rfl | rfl
          · rw [D2.rd]; decide
          · rw [D2.rs]; decide
          · rw [D2.rm]; decide
    · intro h3
      replace h3 := dec_f h3
      have hg : A.goes = true := by cases h : A.goes <;> simp_all
      refine W_skip (at_then ?_)
      refine W_rseq ?_
      refine op_move rfl (.int _ _) rfl ?_
      refine op_assign rfl (.int _ _) rfl ?_
      refine op_nil (at_then ?_)
      refine W_ret (leaveM1 (v := (.int _ _)) rfl rfl ?_)
      exact ⟨by rw [flushE, ho, hg]; rfl, by rw [flushD, ho, hg]; exact ⟨role, bs, bm, sv, m, o, D1, hF⟩, Turn.trans (.of0 H.ext) (.of hx1 fun x h => hF x (by rw [List.mem_singleton.1 h, D.rd]; decide)) fun x h => .inl h⟩

end Go.Proofs.YtbkadlngijkmmaaGreatDoor

/- What is kept of what was loose, block by block. -/
namespace Go.Proofs.YtbkadlngijkmmaaGreatDoor
open Go.GV

theorem drop_cons {α : Type} {l : List α} {i : Nat} {p : α} (h : l[i]? = some p) : l.drop i = p :: l.drop (i + 1) := by
  obtain ⟨hi, rfl⟩ := List.getElem?_eq_some_iff.1 h
  exact List.drop_eq_getElem_cons hi
def cntL (B : List (Byt × List Byt)) : Nat := B.countP fun p => !p.2.isEmpty
theorem cntL_snoc (l : List (Byt × List Byt)) (p : Byt × List Byt) : cntL (l ++ [p]) = if p.2 = [] then cntL l else cntL l + 1 := by
  unfold cntL
  rw [List.countP_append]
  by_cases hp : p.2 = [] <;> simp [hp]
def keepI (B : List (Byt × List Byt)) (picks : List Int) (i : Nat) : List (Byt × List Byt) := keepB (B.take i) picks ++ B.drop i
theorem pick_num (p : Byt × List Byt) (x : Int) (l : List Int) : (max x 0) % ((p.2.length : Int) + 1) = ((pickN p (x :: l) : Nat) : Int) := by
  unfold pickN
  dsimp only
  rw [Int.natCast_emod, Int.toNat_of_nonneg (by omega)]
  rfl

end Go.Proofs.YtbkadlngijkmmaaGreatDoor

/- A device comes on again. -/
namespace Go.Proofs.YtbkadlngijkmmaaGreatDoor
open Go.GV
attribute [local irreducible] Wops W Wq Wt

/-! ### Which pick is whose -/
theorem sorted_eq {xs ys : List Int} (hx : xs.Pairwise (· < ·)) (hy : ys.Pairwise (· < ·)) (h : ∀ k, k ∈ xs ↔ k ∈ ys) : xs = ys := by
  induction xs generalizing ys with
  | nil =>
    cases ys with
    | nil => rfl
    | cons y ys => exact absurd ((h y).2 (List.mem_cons_self ..)) (by simp)
  | cons x xs ih =>
    cases ys with
    | nil => exact absurd ((h x).1 (List.mem_cons_self ..)) (by simp)
    | cons y ys =>
      rw [List.pairwise_cons] at hx hy
      have hxy : x = y := by
        have h1 := (h x).1 (List.mem_cons_self ..)
        have h2 := (h y).2 (List.mem_cons_self ..)
        rw [List.mem_cons] at h1 h2
        rcases h1 with h1 | h1
        · exact h1
        · rcases h2 with h2 | h2
          · exact h2.symm
          · have := hy.1 x h1; have := hx.1 y h2; omega
      subst hxy
      congr 1
      refine ih hx.2 hy.2 fun k => ?_
      have h1 := h k
      rw [List.mem_cons, List.mem_cons] at h1
      constructor
      · intro hk
        rcases h1.1 (.inr hk) with h2 | h2
        · have := hx.1 k hk; omega
        · exact h2
      · intro hk
        rcases h1.2 (.inr hk) with h2 | h2
        · have := hy.1 k hk; omega
        · exact h2

/-- The blocks that have something loose, rising. -/
def looseL (B : List (Byt × List Byt)) : List Nat := (List.range B.length).filter fun i => !(B.getD i ([], [])).2.isEmpty
theorem keysOf_sorted {m : List (Int × Value)} (nd : (m.map (·.1)).Nodup) : (keysOf m).Pairwise (· < ·) := by
  have h1 : (keysOf m).Pairwise fun x y => decide (x ≤ y) = true := List.pairwise_mergeSort (by intro a b c; simp; omega) (by intro a b; simp; omega) _
  have h2 : (keysOf m).Nodup := (List.mergeSort_perm _ _).nodup_iff.2 nd
  rw [List.nodup_iff_pairwise_ne] at h2
  exact (h1.and h2).imp fun ⟨h3, h4⟩ => by rw [decide_eq_true_eq] at h3; omega
theorem DevR.keys_eq {w : World} {bd : Nat} {A : Dev} {role : Nat → Nat} {bs bm : Nat} {sv : List Value} {m : List (Int × Value)} {o : Obj} (D : DevR w bd A role bs bm sv m o) : keysOf m = (looseL A.B).map Int.ofNat := by
  refine sorted_eq (keysOf_sorted D.nd) ?_ fun k => ?_
  · rw [List.pairwise_map]
    exact (List.pairwise_lt_range.filter _).imp fun h => by simpa using h
  · constructor
    · intro hk
      obtain ⟨v, hv⟩ := keysOf_mem hk
      obtain ⟨i, rfl, hi⟩ := D.keys k v hv
      obtain ⟨p, hp⟩ : ∃ p, A.B[i]? = some p := ⟨_, List.getElem?_eq_getElem hi⟩
      have hne := (D.part i p hp).2.2.1 (by rw [hv]; rfl)
      refine List.mem_map.2 ⟨i, List.mem_filter.2 ⟨List.mem_range.2 hi, ?_⟩, rfl⟩
      rw [List.getD_eq_getElem?_getD, hp]
      simpa using hne
    · intro hk
      obtain ⟨i, hi, rfl⟩ := List.mem_map.1 hk
      rw [looseL, List.mem_filter, List.mem_range] at hi
      obtain ⟨p, hp⟩ : ∃ p, A.B[i]? = some p := ⟨_, List.getElem?_eq_getElem hi.1⟩
      rw [List.getD_eq_getElem?_getD, hp] at hi
      obtain ⟨v, hv⟩ := Option.isSome_iff_exists.1 ((D.part i p hp).2.2.2 (by simpa using hi.2))
      exact mem_keysOf hv
theorem cntL_range (B : List (Byt × List Byt)) (q : Nat) (hq : q ≤ B.length) : cntL (B.take q) = ((List.range q).filter fun i => !(B.getD i ([], [])).2.isEmpty).length := by
  induction q with
  | zero => rfl
  | succ q ih =>
    obtain ⟨p, hp⟩ : ∃ p, B[q]? = some p := ⟨_, List.getElem?_eq_getElem (by omega)⟩
    rw [take_snoc hp, cntL_snoc, ih (by omega), List.range_succ, List.filter_append, List.length_append, List.filter_cons, List.getD_eq_getElem?_getD, hp]
    by_cases h : p.2 = []
    · simp [h]
    · simp [h]
theorem looseL_at {B : List (Byt × List Byt)} {i q : Nat} (h : (looseL B)[i]? = some q) : i = cntL (B.take q) := by
  have hm := List.mem_of_getElem? h
  rw [looseL, List.mem_filter, List.mem_range] at hm
  obtain ⟨hq, hne⟩ := hm
  rw [cntL_range B q (by omega)]
  have hsp : looseL B = ((List.range q).filter fun i => !(B.getD i ([], [])).2.isEmpty) ++ q :: ((List.range' (q + 1) (B.length - q - 1)).filter fun i => !(B.getD i ([], [])).2.isEmpty) := by
    have hr : List.range B.length = List.range q ++ q :: List.range' (q + 1) (B.length - q - 1) := by
      have h1 : List.range B.length = List.range' 0 q ++ List.range' (0 + 1 * q) (B.length - q) := by
        rw [List.range'_append, List.range_eq_range']; congr 1; omega
      rw [h1, List.range_eq_range']
      congr 1
      obtain ⟨n, hn⟩ : ∃ n, B.length - q = n + 1 := ⟨B.length - q - 1, by omega⟩
      rw [hn, List.range'_succ]
      simp
    rw [looseL, hr, List.filter_append, List.filter_cons, if_pos hne]
  have hnd : (looseL B).Pairwise (· < ·) := List.pairwise_lt_range.filter _
  have h2 : (looseL B)[((List.range q).filter fun i => !(B.getD i ([], [])).2.isEmpty).length]? = some q := by rw [hsp]; simp
  obtain ⟨hi, h3⟩ := List.getElem?_eq_some_iff.1 h
  obtain ⟨hj, h4⟩ := List.getElem?_eq_some_iff.1 h2
  rw [List.pairwise_iff_getElem] at hnd
  rcases Nat.lt_trichotomy i ((List.range q).filter fun i => !(B.getD i ([], [])).2.isEmpty).length with h5 | h5 | h5
  · have := hnd i _ hi hj h5; omega
  · exact h5
  · have := hnd _ i hj hi h5; omega
theorem DevR.key_at {w : World} {bd : Nat} {A : Dev} {role : Nat → Nat} {bs bm : Nat} {sv : List Value} {m : List (Int × Value)} {o : Obj} (D : DevR w bd A role bs bm sv m o) {i q : Nat} (h : (keysOf m)[i]? = some (q : Int)) : i = cntL (A.B.take q) := by
  rw [D.keys_eq, List.getElem?_map, Option.map_eq_some_iff] at h
  obtain ⟨q', h1, h2⟩ := h
  have : q' = q := Int.ofNat.inj h2
  subst this
  exact looseL_at h1
/-- What is kept of each, by its place. -/
theorem keepB_at : ∀ (B : List (Byt × List Byt)) (picks : List Int) {i : Nat} {p : Byt × List Byt}, B[i]? = some p → (keepB B picks)[i]? = some (if p.2 = [] then (p.1, []) else (kept p (pickN p (picks.drop (cntL (B.take i)))), []))
  | [], _, i, p, h => by simp at h
  | b :: B, picks, 0, p, h => by
    simp only [List.getElem?_cons_zero, Option.some.injEq] at h
    subst h
    unfold keepB
    by_cases hb : b.2 = []
    · rw [if_pos hb, if_pos hb]; rfl
    · rw [if_neg hb, if_neg hb]; rfl
  | b :: B, picks, i + 1, p, h => by
    have ih := keepB_at B
    unfold keepB
    rw [List.take_succ_cons]
    by_cases hb : b.2 = []
    · rw [if_pos hb, List.getElem?_cons_succ, ih picks (by simpa using h)]
      congr 6
      simp [cntL, hb]
    · rw [if_neg hb, List.getElem?_cons_succ, ih picks.tail (by simpa using h)]
      congr 4
      rw [show cntL (b :: B.take i) = cntL (B.take i) + 1 by simp [cntL, hb]]
      cases picks <;> simp

theorem set_same {α : Type} {l : List α} {i : Nat} {x : α} (h : l[i]? = some x) : l.set i x = l := by
  apply List.ext_getElem?
  intro j
  rw [List.getElem?_set]
  by_cases hj : i = j
  · subst hj; rw [if_pos rfl, if_pos (List.getElem?_eq_some_iff.1 h).1, h]
  · rw [if_neg hj]
/-- What is laid of each. -/
theorem DevR.picked {w : World} {bd : Nat} {A : Dev} {role : Nat → Nat} {bs bm : Nat} {sv : List Value} {m : List (Int × Value)} {o : Obj} (D : DevR w bd A role bs bm sv m o) (x : Nat → Nat) :
    ∃ f : Nat → Value, ∀ i p, A.B[i]? = some p → p.2 ≠ [] → x i ≤ p.2.length → SureAt w role (f i) (kept p (x i)) ∧ (x i = 0 → sv[i]? = some (f i)) ∧ (0 < x i → BytesAt w role (f i) (kept p (x i)) ∧ ∃ al n c fl vs, mget m (i : Int) = some (.slice al n c) ∧ OS al n c 1 fl vs ∧ n = p.2.length ∧ (∀ y ∈ ent al 23 fl, w.heap[y.1]? = some y.2 ∧ role y.1 = 5 + i) ∧ vs[x i - 1]? = some (f i)) := by
  have h : ∀ i : Nat, ∃ v, ∀ p, A.B[i]? = some p → p.2 ≠ [] → x i ≤ p.2.length → SureAt w role v (kept p (x i)) ∧ (x i = 0 → sv[i]? = some v) ∧ (0 < x i → BytesAt w role v (kept p (x i)) ∧ ∃ al n c fl vs, mget m (i : Int) = some (.slice al n c) ∧ OS al n c 1 fl vs ∧ n = p.2.length ∧ (∀ y ∈ ent al 23 fl, w.heap[y.1]? = some y.2 ∧ role y.1 = 5 + i) ∧ vs[x i - 1]? = some v) := fun i => by
    by_cases hp : ∃ p, A.B[i]? = some p ∧ p.2 ≠ [] ∧ x i ≤ p.2.length
    · obtain ⟨p, hp, hne, hx⟩ := hp
      obtain ⟨⟨sv0, hs0, hs1⟩, ⟨al, n, c, fl, vs, hv, O, hent, hvs⟩, hiff⟩ := D.part i p hp
      by_cases h0 : x i = 0
      · refine ⟨sv0, fun p' hp' _ _ => ?_⟩
        rw [hp] at hp'
        cases hp'
        exact ⟨by rw [h0]; exact hs1, fun _ => hs0, fun h => absurd h (by omega)⟩
      · have hn : n = vs.length := by have := O.llen; omega
        have hvl := hvs.1
        obtain ⟨b, hb⟩ := get_some (l := p.2) (i := x i - 1) (by omega)
        obtain ⟨v, hvv⟩ := get_some (l := vs) (i := x i - 1) (by omega)
        have hst : kept p (x i) = b := by
          rw [kept, if_neg h0, List.getD_eq_getElem?_getD, hb]; rfl
        refine ⟨v, fun p' hp' _ _ => ?_⟩
        rw [hp] at hp'
        cases hp'
        have hB : BytesAt w role v (kept p (x i)) := by rw [hst]; exact hvs.2 _ _ _ hvv hb
        refine ⟨.inr hB, fun h => absurd h h0, fun _ => ⟨hB, al, n, c, fl, vs, ?_, O, by omega, hent, hvv⟩⟩
        obtain ⟨u, hu⟩ := Option.isSome_iff_exists.1 (hiff.2 hne)
        rw [hu] at hv ⊢
        rw [← hv]; rfl
    · exact ⟨.nilFunc, fun p h1 h2 h3 => absurd ⟨p, h1, h2, h3⟩ hp⟩
  exact ⟨fun i => Classical.choose (h i), fun i => Classical.choose_spec (h i)⟩


set_option maxRecDepth 20000 in
set_option maxHeartbeats 2000000 in
theorem donp_ok {w : World} {bd : Nat} {A : Dev} {F : Nat → Prop} (a : Option Addr) (c n : Nat) (picks : List Int) (R : Rd w a 1 (fun x : Int => [.int .i64 x]) picks) (hn : picks.length = n) (hm : n ≤ 9223372036854775000) (hc : n ≤ c) (hFa : picks = [] ∨ ¬ F (adr a).block) (hi64 : ∀ x ∈ picks, -9223372036854775808 ≤ x ∧ x ≤ 9223372036854775807) {mx : Nat} (hfew : Few A mx) (hmx : mx ≤ 1000000000000) (DA : DevAt w bd A F) :
    Ret Tryz.prog 42 #[ptr bd, .slice a n c] w fun v w' => v = .int .i64 (onE A) ∧ DevAt w' bd (onD A picks) F ∧ Turn F w w' := by
  subst hn
  obtain ⟨w0, rfl⟩ : ∃ w0, w0 = w := ⟨_, rfl⟩
  obtain ⟨role, bs, bm, sv, m, o, D, hF⟩ := DA
  have H := Ctx.start w0 []
  refine ret_of_WM (fn := Tryz.f42) Tryz.func42 rfl [.pointer (some ⟨bd, 0, none⟩), .slice a picks.length c] rfl (by kernel_rfl) ?_
  refine W_rseq ?_
  refine op_box rfl _ (.pointer _) rfl rfl H ?_
  rintro b2 w - H
  refine op_box rfl _ (.slice _ _ _) rfl rfl H ?_
  rintro b3 w - H
  refine op_assign rfl (.int _ _) rfl ?_
  refine op_nil (at_then ?_)
  refine W_seq ?_
  refine W_block ?_
  refine W_rseq ?_
  first | refine op_ldb rfl ag_32 rfl H (by first | exact at0 | exact at1 | exact at2 | exact at3 | exact at4 | exact at5 | exact at6 | exact at7 | exact at8 | exact at9) rfl ?_ | refine op_ld rfl ag_32 rfl (Ctx.old0 H (cell_bl D.hd _)) ?_
  refine op_eqlptr rfl un_32 rfl ?_
  refine op_assign rfl (.bool _) rfl ?_
  refine op_nil (at_then ?_)
  refine W_cond0 rfl ?_
  refine W_rseq ?_
  first | refine op_ldb rfl ag_32 rfl H (by first | exact at0 | exact at1 | exact at2 | exact at3 | exact at4 | exact at5 | exact at6 | exact at7 | exact at8 | exact at9) rfl ?_ | refine op_ld rfl ag_32 rfl (Ctx.old0 H (cell_bl D.hd _)) ?_
  refine op_nilCheck rfl rfl ?_
  refine op_fieldAddr rfl fo_144_3 rfl ?_
  first | refine op_ldb rfl ag_4 rfl H (by first | exact at0 | exact at1 | exact at2 | exact at3 | exact at4 | exact at5 | exact at6 | exact at7 | exact at8 | exact at9) rfl ?_ | refine op_ld rfl ag_4 rfl (Ctx.old0 H (cell_bl D.hd _)) ?_
  refine op_not rfl rfl ?_
  refine op_assign rfl (.bool _) rfl ?_
  refine op_nil (at_then ?_)
  refine W_cond _ rfl ?_ ?_
  · intro h1
    replace h1 := nvar_t h1
    have ho : A.on = true := by cases h : A.on <;> simp_all
    refine W_rseq ?_
    refine op_assign rfl (.int _ _) rfl ?_
    refine op_nil (at_then ?_)
    refine W_ret (ret_block (ret_then (leaveM1 (v := (.int _ _)) rfl rfl ?_)))
    exact ⟨by rw [onE, ho]; rfl, by rw [onD, ho]; exact ⟨role, bs, bm, sv, m, o, D.keep0 H.ext, hF⟩, .of0 H.ext⟩
  · intro h1
    replace h1 := nvar_f h1
    have ho : A.on = false := by cases h : A.on <;> simp_all
    have hb2 := H.get at1
    have hb3 := H.get at0
    have ho2 : w0.heap.size ≤ b2 := (H.own _ (List.mem_cons_of_mem _ (List.mem_cons_self ..))).elim (fun h => by cases h) id
    have ho3 : w0.heap.size ≤ b3 := (H.own _ (List.mem_cons_self ..)).elim (fun h => by cases h) id
    have hb23 : b3 ≠ b2 := H.ne at0 at1 (by decide)
    have hx00 := H.ext
    have D1 := D.keep0 H.ext
    refine W_skip (at_block (at_then ?_))
    refine W_seq ?_
    refine W_rseq ?_
    first | refine op_ldb rfl ag_32 rfl H (by first | exact at0 | exact at1 | exact at2 | exact at3 | exact at4 | exact at5 | exact at6 | exact at7 | exact at8 | exact at9) rfl ?_ | refine op_ld rfl ag_32 rfl (cell_bl hb2 _) ?_
    refine op_call rfl ca_84 (rising_ok bd _) rfl ?_
    rintro v w ⟨bx, rfl, hbx, hbxn, hx17⟩
    refine op_nil (at_then ?_)
    refine W_block ?_
    have D2 := D1.keep0 hx17
    have hb2L : w.heap[b2]? = some (Bl 32 [ptr bd]) := by rw [hx17.block b2 (heap_lt hb2) (by simp)]; exact hb2
    have hb3L : w.heap[b3]? = some (Bl 57 [.slice a picks.length c]) := by rw [hx17.block b3 (heap_lt hb3) (by simp)]; exact hb3
    obtain ⟨xq, hxq⟩ : ∃ x : Nat → Nat, x = fun q => pickN (A.B.getD q ([], [])) (picks.drop (cntL (A.B.take q))) := ⟨_, rfl⟩
    obtain ⟨f, hf⟩ := D2.picked xq
    refine W_rangeFunc rfl ca_142 ?_
    intro fn tmps hts htm Db l w2 hDb hl hx2 hD hrec
    have D3 := D2.keep0 hx2
    have up2 : ∀ {b : Nat} {o : Obj}, w.heap[b]? = some o → w2.heap[b]? = some o := fun {b o} g => by rw [hx2.block b (heap_lt g) (by simp)]; exact g
    obtain ⟨lo, hlo, hrec'⟩ : ∃ lo, lo = _ ∧ w2.heap[l]? = some (.loop lo) := ⟨_, rfl, hrec⟩
    have hhi := D3.wf.hi
    have hlen : m.length ≤ 4096 := Nat.le_trans D3.few hhi
    have hbs0 := D.lt bs (by rw [D.rs]; decide)
    have hbs2 := D2.lt bs (by rw [D2.rs]; decide)
    have hbd1 := D2.lt bd (by rw [D2.rd]; decide)
    have hbm1 := D2.lt bm (by rw [D2.rm]; decide)
    have hbdo := D.lt bd (by rw [D.rd]; decide)
    have hbmo := D.lt bm (by rw [D.rm]; decide)
    have hbxL := heap_lt hbx
    have hb3s := heap_lt hb3L
    have hw1 := heap_lt hb3
    have hbsl : bs ≠ l := by omega
    have hbxs : bx ≠ bs := by omega
    have hbx3 : bx ≠ b3 := by omega
    have hbds : bd ≠ bs := fun h => by have h1 := D3.rd; rw [h, D3.rs] at h1; omega
    have hbms : bm ≠ bs := fun h => by have h1 := D3.rm; rw [h, D3.rs] at h1; omega
    have hx02 : Ext [] w0 w2 := (H.ext.trans hx17).trans hx2
    refine Ret.mono (rising1_ok (l := l) (up2 hbx) D3.hd D3.hm D3.hM D3.nd hlen (fun p hp => by have := D3.bound p hp; omega)
      (fun wK i w' => w'.heap[l]? = some (.loop lo) ∧ Ext [bs, b3, l] wK w' ∧ w'.heap[bs]? = some (Bl 23 (laid f sv ((keysOf m).take i))) ∧
        ∃ a' c', w'.heap[b3]? = some (Bl 57 [.slice a' (picks.drop i).length c']) ∧ Rd w0 a' 1 (fun x : Int => [.int .i64 x]) (picks.drop i) ∧ (picks.drop i).length ≤ c' ∧ (adr a').block = (adr a).block) ?_ ?_ ?_) ?_
    · intro wK hx
      refine ⟨by rw [hx.block l (heap_lt hrec') (by simp)]; exact hrec', .refl _ _, ?_, a, c, ?_, R, hc, rfl⟩
      · rw [hx.block bs (heap_lt D3.hs) (by simp)]; exact D3.hs
      · rw [hx.block b3 (heap_lt (up2 hb3L)) (by simp)]; exact up2 hb3L
    · rintro wK i w' hx ⟨h1, h2, h3, h4⟩
      have e1 : ∀ {b : Nat} {o : Obj}, w.heap[b]? = some o → b ≠ bs → b ≠ b3 → w'.heap[b]? = some o := fun {b o} g1 g2 g4 => by
        have g3 : b ≠ l := by have := heap_lt g1; omega
        rw [h2.block b (Nat.lt_of_lt_of_le (heap_lt (up2 g1)) hx.size) (by simp [g2, g3, g4]), hx.block b (heap_lt (up2 g1)) (by simp)]; exact up2 g1
      refine ⟨e1 hbx hbxs hbx3, ⟨bs, _, _, e1 D2.hd hbds (by omega)⟩, e1 D2.hm hbms (by omega), _, h2, fun x h => ?_⟩
      simp only [List.mem_cons, List.not_mem_nil, or_false] at h
      rcases h with rfl | rfl | rfl
      · exact heap_lt D3.hs
      · exact heap_lt (up2 hb3L)
      · exact heap_lt hrec'
    · rintro wK i k v w' hxK hk hv ⟨h1, h2, h3, a', c', h4, R', hc', ha'⟩
      obtain ⟨q, rfl, hq⟩ := D3.keys _ v hv
      obtain ⟨p, hp⟩ : ∃ p, A.B[q]? = some p := ⟨_, List.getElem?_eq_getElem hq⟩
      have hne : p.2 ≠ [] := (D3.part q p hp).2.2.1 (by rw [hv]; rfl)
      have hiq := D3.key_at hk
      have hxv : xq q = pickN p (picks.drop i) := by rw [hxq, hiq]; dsimp only; rw [List.getD_eq_getElem?_getD, hp]; rfl
      have hxle : xq q ≤ p.2.length := by
        rw [hxv]; unfold pickN
        split
        · exact Nat.zero_le _
        · exact Nat.le_of_lt_succ (Nat.mod_lt _ (Nat.succ_pos _))
      obtain ⟨hsu, hz0, hby⟩ := hf q p hp hne hxle
      obtain ⟨_, ⟨al0, nl, cl0, fl0, vs0, hv0, O0, _, hvs0⟩, _⟩ := D2.part q p hp
      rw [hv] at hv0
      have hv0 : v = .slice al0 nl cl0 := hv0
      have hnl : nl = p.2.length := by have := O0.llen; have := hvs0.1; omega
      subst hv0
      have hpl := hfew p (List.mem_of_getElem? hp)
      subst hlo
      refine yield_of h1 rfl (round_of_W _ (sim_two hts htm (by decide) (by decide)) (by kernel_rfl) ?_)
      refine W_rseq ?_
      refine op_assign rfl (.int _ _) rfl ?_
      refine op_nil (at_then ?_)
      refine W_region ?_
      refine op_assign rfl (.slice _ _ _) rfl ?_
      refine op_nil ?_
      refine begin_of h1 rfl ?_
      intro wR lo2 hxR hlR hlo2
      have hb3l : b3 ≠ l := by omega
      have eR : ∀ {b : Nat} {o : Obj}, w.heap[b]? = some o → b ≠ bs → b ≠ b3 → wR.heap[b]? = some o := fun {b o} g1 g2 g4 => by
        have g3 : b ≠ l := by have := heap_lt g1; omega
        have g4 : w'.heap[b]? = some o := by
          rw [h2.block b (Nat.lt_of_lt_of_le (heap_lt (up2 g1)) hxK.size) (by simp [g2, g3, g4]), hxK.block b (heap_lt (up2 g1)) (by simp)]; exact up2 g1
        rw [hxR.block b (heap_lt g4) (by simpa using g3)]; exact g4
      have hx0R : Ext [bs, b3, l] w0 wR := ((hx02.trans hxK).mono (by simp)).trans (h2.trans (hxR.mono (by simp)))
      have hRok : picks.drop i ≠ [] → (adr a').block ∉ [bs, b3, l] := fun hne => by
        have hne' : picks ≠ [] := fun h => hne (by rw [h]; simp)
        have hlt : (adr a').block < w0.heap.size := by
          cases hd : picks.drop i with
          | nil => exact absurd hd hne
          | cons x xs =>
            have h9 := World.block_lt_of_cell? w0 ⟨(adr a').block, _, none⟩ (R'.cell 0 x (by rw [hd]; rfl) 0 _ rfl (by decide))
            exact h9
        have hnF := hFa.resolve_left hne'
        have : (adr a').block ≠ bs := fun h => hnF (by rw [← ha', h]; exact hF bs (by rw [D.rs]; decide))
        simp only [List.mem_cons, List.not_mem_nil, or_false]
        omega
      have RR : Rd wR a' 1 (fun x : Int => [.int .i64 x]) (picks.drop i) := by
        by_cases hne : picks.drop i = []
        · rw [hne]; exact Rd.nil
        · exact R'.ext hx0R (hRok hne)
      have hbdR := eR D2.hd hbds (by omega)
      have hb2R := eR hb2L (by omega) (Ne.symm hb23)
      have hb3R : wR.heap[b3]? = some (Bl 57 [.slice a' (picks.drop i).length c']) := by rw [hxR.block b3 (heap_lt h4) (by simpa using hb3l)]; exact h4
      have hbsR : wR.heap[bs]? = some (Bl 23 (laid f sv ((keysOf m).take i))) := by rw [hxR.block bs (heap_lt h3) (by simpa using hbsl)]; exact h3
      have hlv : (laid f sv ((keysOf m).take i)).length = sv.length := laid_len ..
      have hsvl := D3.len
      refine W_block ?_
      refine W_rseq ?_
      refine op_assign rfl (.int _ _) rfl ?_
      refine op_nil (at_then ?_)
      refine W_seq ?_
      refine W_rseq ?_
      first | refine op_ldb rfl ag_57 rfl H (by first | exact at0 | exact at1 | exact at2 | exact at3 | exact at4 | exact at5 | exact at6 | exact at7 | exact at8 | exact at9) rfl ?_ | refine op_ld rfl ag_57 rfl (cell_bl hb3R 0) ?_
      refine op_len rfl el_57 rfl ?_
      refine op_gtr rfl rfl rfl ?_
      refine op_nil (at_then ?_)
      refine W_joinK 17163092096 (α := Unit) (fun _ => [(7, .int .i64 (xq q : Int))]) (fun _ w5 => Ext [bs, b3, l] wR w5 ∧ (∀ x o, wR.heap[x]? = some o → x ≠ b3 → w5.heap[x]? = some o) ∧ ∃ a' c', w5.heap[b3]? = some (Bl 57 [.slice a' (picks.drop (i + 1)).length c']) ∧ Rd w0 a' 1 (fun x : Int => [.int .i64 x]) (picks.drop (i + 1)) ∧ (picks.drop (i + 1)).length ≤ c' ∧ (adr a').block = (adr a).block) rfl ?_ ?_
      · skip
        refine W_cond _ rfl ?_ ?_
        · intro g1
          replace g1 := dec_t g1
          obtain ⟨x, hx0⟩ := get_some (l := picks.drop i) (i := 0) (by omega)
          have hxx : picks.drop i = x :: picks.drop (i + 1) := by
            cases hd : picks.drop i with
            | nil => rw [hd] at hx0; cases hx0
            | cons y ys =>
              rw [hd] at hx0; cases hx0
              rw [← List.drop_drop, hd]; rfl
          have hxi := hi64 x (List.mem_of_mem_drop (by rw [hxx]; exact List.mem_cons_self ..))
          have HT : ∀ x, Ext [] wR x → Ctx wR [] x [] := fun x hx => (Ctx.start wR []).call hx
          have hdl : (picks.drop i).length = (picks.drop (i + 1)).length + 1 := by rw [hxx]; rfl
          refine W_segz [([0, 1, 2, 3, 4, 5, 6, 7, 8, 9, 10], 11)] (fun x => Ext [] wR x) [11] mixed (by kernel_rfl) (Ext.drew _ wR) ?_
          refine seg_cons rfl rfl ?_
          first | refine t_ldb rfl ag_57 rfl HT (by first | exact at0 | exact at1 | exact at2 | exact at3 | exact at4 | exact at5 | exact at6 | exact at7 | exact at8 | exact at9) rfl ?_ | refine t_ld rfl ag_57 rfl (fun _ hx => hx.cell (cell_bl hb3R 0) (by simp)) ?_ | refine t_ld rfl ag_57 rfl (fun _ hx => (RR.ext0 hx).one (f := fun x => .int .i64 x) hx0) ?_
          first | refine t_indexRd RR rfl el_57 sz_3 rfl rfl (by omega) (by omega) (by first | rfl | omega) ?_ | refine t_indexAddr rfl el_57 sz_3 rfl rfl (by omega) (by omega) ?_
          first | refine t_ldb rfl ag_3 rfl HT (by first | exact at0 | exact at1 | exact at2 | exact at3 | exact at4 | exact at5 | exact at6 | exact at7 | exact at8 | exact at9) rfl ?_ | refine t_ld rfl ag_3 rfl (fun _ hx => hx.cell (cell_bl hb3R 0) (by simp)) ?_ | refine t_ld rfl ag_3 rfl (fun _ hx => (RR.ext0 hx).one (f := fun x => .int .i64 x) hx0) ?_
          refine t_max2 rfl rfl rfl ?_
          refine t_move rfl (.slice _ _ _) rfl ?_
          refine t_len rfl el_141 rfl ?_
          refine t_add_i64 rfl rfl rfl (by omega) (by omega) ?_
          refine t_rem rfl rfl rfl (by omega) (by omega) ?_
          first | refine t_ldb rfl ag_57 rfl HT (by first | exact at0 | exact at1 | exact at2 | exact at3 | exact at4 | exact at5 | exact at6 | exact at7 | exact at8 | exact at9) rfl ?_ | refine t_ld rfl ag_57 rfl (fun _ hx => hx.cell (cell_bl hb3R 0) (by simp)) ?_ | refine t_ld rfl ag_57 rfl (fun _ hx => (RR.ext0 hx).one (f := fun x => .int .i64 x) hx0) ?_
          refine t_slice_lo rfl el_57 sz_3 rfl rfl (by omega) (by omega) ?_
          refine t_assign rfl (.int _ _) rfl ?_
          refine t_nil ?_
          skip
          refine op_stb (.slice _ _ _) rfl sz_57 rfl rfl rfl (Ctx.start1 (show (World.drew wR).heap[b3]? = _ from hb3R)) at0 (Nat.succ_pos _) ?_
          rintro wE HE
          refine op_nil (at_segz rfl ?_)
          refine seg_nil ?_
          refine at_then ?_
          refine ⟨(), rfl, ⟨?_, trivial⟩, (Ext.drew _ _).trans (HE.ext.mono (by simp)), fun y o h hy => by rw [HE.ext.block y (heap_lt h) (by simpa using hy)]; exact h, cutA a' c' 1 1, c' - 1, ?_, ?_, ?_, ?_⟩
          · show Value.int .i64 _ = _
            rw [hxv, hxx, ← pick_num, hnl]
          · rw [HE.get at0, hdl]; rfl
          · have h9 := R'.cut 1 c' hc'
            rwa [List.drop_drop] at h9
          · omega
          · rw [← ha']; unfold cutA; split
            · rfl
            · cases a' <;> rfl
        · intro g1
          replace g1 := dec_f g1
          have hd0 : picks.drop i = [] := List.length_eq_zero_iff.1 (by omega)
          refine W_skip (at_then ?_)
          have hd1 : picks.drop (i + 1) = [] := by rw [← List.drop_drop, hd0]; rfl
          refine ⟨(), rfl, ⟨?_, trivial⟩, .refl _ _, fun _ _ h _ => h, a', c', ?_, ?_, ?_, ha'⟩
          · show Value.int .i64 0 = _
            rw [hxv, hd0]; rfl
          · rw [hd1, ← hd0]; exact hb3R
          · rw [hd1]; exact Rd.nil
          · rw [hd1]; exact Nat.zero_le _
      · rintro - j7 w5 ⟨hx5, hs5, a6, c6, h6, R6, hc6, ha6⟩
        have e5 : ∀ {b : Nat} {o : Obj}, w.heap[b]? = some o → b ≠ bs → b ≠ b3 → w5.heap[b]? = some o := fun {b o} g1 g2 g3 => hs5 _ _ (eR g1 g2 g3) g3
        have hb25 := e5 hb2L (by omega) (Ne.symm hb23)
        have hbd5 := e5 D2.hd hbds (by omega)
        have hbs5 := hs5 _ _ hbsR (by omega)
        have hl5 := hs5 _ _ hlR (Ne.symm hb3l)
        refine W_rseq ?_
        refine op_move rfl (.int _ _) rfl ?_
        refine op_gtr rfl rfl rfl ?_
        refine op_nil (at_then ?_)
        refine W_cond _ rfl ?_ ?_
        · intro g1
          replace g1 := dec_t g1
          have hgt : 0 < xq q := by omega
          obtain ⟨hB, al, n9, c9, fl, vs, hv9, O, hnn, hent, hlast⟩ := hby hgt
          rw [hv] at hv9
          cases hv9
          have Rl : Rd w5 al0 1 (fun v : Value => [v]) vs := OS.rdV O fun x hx => by
            have hlt := heap_lt (hent x hx).1
            refine e5 (hent x hx).1 (fun h => by have := (hent x hx).2; rw [h, D3.rs] at this; omega) fun h => ?_
            have h7 := (hent x hx).2
            have := D.lt x.1 (by omega)
            omega
          have hvn : nl = vs.length := by have := O.llen; omega
          obtain ⟨a8, c8, hfq, _⟩ := hB
          rw [hfq] at hlast
          have HT : ∀ x, Ext [] w5 x → Ctx w5 [] x [] := fun x hx => (Ctx.start w5 []).call hx
          refine W_segz [([0, 1, 2, 3, 4, 5, 6, 7, 8, 9, 10], 11)] (fun x => Ext [] w5 x) [11] mixed (by kernel_rfl) (Ext.drew _ w5) ?_
          refine seg_cons rfl rfl ?_
          first | refine t_ldb rfl ag_32 rfl HT (by first | exact at0 | exact at1 | exact at2 | exact at3 | exact at4 | exact at5 | exact at6 | exact at7 | exact at8 | exact at9) rfl ?_ | refine t_ld rfl ag_32 rfl (fun _ hx => hx.cell (cell_bl hb25 0) (by simp)) ?_ | refine t_ld rfl ag_32 rfl (fun _ hx => hx.cell (cell_bl hbd5 (0 + 0)) (by simp)) ?_ | refine t_ld rfl ag_32 rfl (fun _ hx => (Rl.ext0 hx).one (f := fun v => v) hlast) ?_
          refine t_nilCheck rfl rfl ?_
          refine t_fieldAddr rfl fo_144_0 rfl ?_
          first | refine t_ldb rfl ag_141 rfl HT (by first | exact at0 | exact at1 | exact at2 | exact at3 | exact at4 | exact at5 | exact at6 | exact at7 | exact at8 | exact at9) rfl ?_ | refine t_ld rfl ag_141 rfl (fun _ hx => hx.cell (cell_bl hb25 0) (by simp)) ?_ | refine t_ld rfl ag_141 rfl (fun _ hx => hx.cell (cell_bl hbd5 (0 + 0)) (by simp)) ?_ | refine t_ld rfl ag_141 rfl (fun _ hx => (Rl.ext0 hx).one (f := fun v => v) hlast) ?_
          refine t_move rfl (.int _ _) rfl ?_
          refine t_move rfl (.slice _ _ _) rfl ?_
          refine t_move rfl (.int _ _) rfl ?_
          refine t_sub_i64 rfl rfl rfl (by omega) (by omega) ?_
          rw [show ((xq q : Int) - 1) = ((xq q - 1 : Nat) : Int) by omega]
          first | refine t_indexRd Rl rfl el_141 sz_23 rfl rfl (by omega) (by omega) (by first | rfl | omega) ?_ | refine t_indexAddr rfl el_141 sz_23 rfl rfl (by omega) (by omega) ?_
          first | refine t_ldb rfl ag_23 rfl HT (by first | exact at0 | exact at1 | exact at2 | exact at3 | exact at4 | exact at5 | exact at6 | exact at7 | exact at8 | exact at9) rfl ?_ | refine t_ld rfl ag_23 rfl (fun _ hx => hx.cell (cell_bl hb25 0) (by simp)) ?_ | refine t_ld rfl ag_23 rfl (fun _ hx => hx.cell (cell_bl hbd5 (0 + 0)) (by simp)) ?_ | refine t_ld rfl ag_23 rfl (fun _ hx => (Rl.ext0 hx).one (f := fun v => v) hlast) ?_
          first | refine t_indexRd Rl rfl el_141 sz_23 rfl rfl (by omega) (by omega) (by first | rfl | omega) ?_ | refine t_indexAddr rfl el_141 sz_23 rfl rfl (by omega) (by omega) ?_
          refine t_nil ?_
          skip
          refine op_stb (.slice _ _ _) rfl sz_23 rfl rfl rfl (Ctx.start1 (show (World.drew w5).heap[bs]? = _ from hbs5)) at0 (by omega) ?_
          rintro wE HE
          refine op_nil (at_segz rfl ?_)
          refine seg_nil ?_
          refine at_block ?_
          have hlE : wE.heap[l]? = some (.loop lo2) := by rw [HE.ext.block l (heap_lt hl5) (by simp; omega)]; exact hl5
          refine round_end hlE hlo2 rfl rfl ?_
          intro wF hxF hlF
          refine ⟨rfl, hlF, (h2.trans (hxR.mono (by simp))).trans (hx5.trans ((Ext.drew _ _).trans ((HE.ext.mono (by simp)).trans (hxF.mono (by simp))))), ?_, a6, c6, ?_, R6, hc6, ha6⟩
          · rw [hxF.block bs (heap_lt (HE.get at0)) (by simpa using hbsl), HE.get at0, take_snoc hk, laid_snoc]
            simp only [Int.toNat_natCast, Nat.zero_add, Nat.mul_one, hfq]
          · have h7 : wE.heap[b3]? = some (Bl 57 [.slice a6 (picks.drop (i + 1)).length c6]) := by rw [HE.ext.block b3 (heap_lt h6) (by simp; omega)]; exact h6
            rw [hxF.block b3 (heap_lt h7) (by simpa using hb3l)]; exact h7
        · intro g1
          replace g1 := dec_f g1
          have hz9 : xq q = 0 := by omega
          refine W_skip (at_block ?_)
          refine round_end hl5 hlo2 rfl rfl ?_
          intro wF hxF hlF
          refine ⟨rfl, hlF, (h2.trans (hxR.mono (by simp))).trans (hx5.trans (hxF.mono (by simp))), ?_, a6, c6, ?_, R6, hc6, ha6⟩
          · rw [hxF.block bs (heap_lt hbs5) (by simpa using hbsl), hbs5, take_snoc hk, laid_snoc, Int.toNat_natCast, set_same]
            rw [laid_get f sv _ (fun k hk => by obtain ⟨v, hv⟩ := keysOf_mem (List.mem_of_mem_take hk); obtain ⟨j, rfl, _⟩ := D2.keys k v hv; omega) (by rw [D2.len]; exact hq), hz0 hz9]
            split <;> rfl
          · rw [hxF.block b3 (heap_lt h6) (by simpa using hb3l)]; exact h6
    · rintro v w3 ⟨wK, hxK, hl3, hx3, hs3, _⟩
      rw [← keysOf_len m, List.take_length] at hs3
      refine ⟨_, hl3, by subst hlo; exact (fun h => by cases h), jumped_none (by rw [hlo]) ?_⟩
      have hx4 := Ext.setB w3 l (.loop { lo with state := .exhausted })
      generalize w3.putObj l (.loop { lo with state := .exhausted }) = w4 at hx4 ⊢
      refine at_block (at_then ?_)
      have hz : Ext [bd, bs, bm, b3] w w4 := (((hx2.trans hxK).mono (by simp)).then hx3 (by intro x h; simp only [List.mem_cons, List.not_mem_nil, or_false] at h ⊢; omega)).then hx4 (by intro x h; simp only [List.mem_cons, List.not_mem_nil, or_false] at h ⊢; omega)
      have up4 : ∀ {b : Nat} {o : Obj}, w.heap[b]? = some o → b ≠ bs → b ≠ b3 → w4.heap[b]? = some o := fun {b o} g1 g2 g4 => by
        have g3 : b ≠ l := by have := heap_lt g1; omega
        rw [hx4.block b (Nat.lt_of_lt_of_le (heap_lt (up2 g1)) (Nat.le_trans hxK.size hx3.size)) (by simpa using g3), hx3.block b (Nat.lt_of_lt_of_le (heap_lt (up2 g1)) hxK.size) (by simp [g2, g3, g4]), hxK.block b (heap_lt (up2 g1)) (by simp)]; exact up2 g1
      have hD4 : w4.heap[Db]? = some (.deferred (some [])) := by
        have g3 : Db ≠ l := by omega
        have g2 : Db ≠ bs := by omega
        have g4 : Db ≠ b3 := by omega
        rw [hx4.block Db (Nat.lt_of_lt_of_le (heap_lt hD) (Nat.le_trans hxK.size hx3.size)) (by simpa using g3), hx3.block Db (Nat.lt_of_lt_of_le (heap_lt hD) hxK.size) (by simp [g2, g3, g4]), hxK.block Db (heap_lt hD) (by simp)]; exact hD
      have hs4 : w4.heap[bs]? = some (Bl 23 (laid f sv (keysOf m))) := by
        rw [hx4.block bs (heap_lt hs3) (by simpa using hbsl)]; exact hs3
      have hb24 := up4 hb2L (by omega) (Ne.symm hb23)
      have hd4 := up4 D2.hd hbds (by omega)
      have H4 := Ctx.start1 (up4 D2.hm hbms (by omega))
      refine W_rseq ?_
      first | refine op_ldb rfl ag_32 rfl H (by first | exact at0 | exact at1 | exact at2 | exact at3 | exact at4 | exact at5 | exact at6 | exact at7 | exact at8 | exact at9) rfl ?_ | refine op_ld rfl ag_32 rfl (cell_bl hb24 _) ?_ | refine op_ld rfl ag_32 rfl (cell_bl hd4 _) ?_
      refine op_nilCheck rfl rfl ?_
      refine op_fieldAddr rfl fo_144_1 rfl ?_
      first | refine op_ldb rfl ag_142 rfl H (by first | exact at0 | exact at1 | exact at2 | exact at3 | exact at4 | exact at5 | exact at6 | exact at7 | exact at8 | exact at9) rfl ?_ | refine op_ld rfl ag_142 rfl (cell_bl hb24 _) ?_ | refine op_ld rfl ag_142 rfl (cell_bl hd4 _) ?_
      refine op_clear rfl mt_142 rfl H4 at0 D2.hM ?_
      rintro o' w5 hM' H5
      refine op_nil (at_then ?_)
      have hbdm : bd ≠ bm := fun h => by have h1 := D3.rd; rw [h, D3.rm] at h1; omega
      have hb25 : w5.heap[b2]? = some (Bl 32 [ptr bd]) := by rw [H5.ext.block b2 (heap_lt hb24) (by simp; omega)]; exact hb24
      have hd5 : w5.heap[bd]? = some (Bl TD (DB A.B.length bs bm A.left A.on)) := by rw [H5.ext.block bd (heap_lt hd4) (by simpa using hbdm)]; exact hd4
      replace H := Ctx.start1 hd5
      have HT : ∀ x, Ext [bd] w5 x → Ctx w5 [bd] x [] := fun x hx => ⟨hx, by simp, List.Pairwise.nil, by simp⟩
      refine W_sseqz [([0, 1, 2, 3], 4), ([5, 6], 7)] (fun x => Ext [bd] w5 x) [] mixed (by kernel_rfl) (Ext.drew _ w5) ?_
      refine seg_cons rfl rfl ?_
      first | refine t_ldb rfl ag_32 rfl HT (by first | exact at0 | exact at1 | exact at2 | exact at3 | exact at4 | exact at5 | exact at6 | exact at7 | exact at8 | exact at9) rfl ?_ | refine t_ld rfl ag_32 rfl (fun _ hx => hx.cell (cell_bl hb25 0) (by simp; omega)) ?_
      first | refine t_ldb rfl ag_32 rfl HT (by first | exact at0 | exact at1 | exact at2 | exact at3 | exact at4 | exact at5 | exact at6 | exact at7 | exact at8 | exact at9) rfl ?_ | refine t_ld rfl ag_32 rfl (fun _ hx => hx.cell (cell_bl hb25 0) (by simp; omega)) ?_
      refine t_nilCheck rfl rfl ?_
      refine t_fieldAddr rfl fo_144_3 rfl ?_
      refine t_nil ?_
      replace H := H.drew
      refine op_stb (.bool _) rfl sz_4 rfl rfl rfl H (by first | exact at0 | exact at1 | exact at2 | exact at3 | exact at4 | exact at5 | exact at6 | exact at7 | exact at8 | exact at9) (by first | decide | (simp; done) | (simp; omega)) ?_
      rintro w H
      refine op_nil (at_seg (H.ext) ?_)
      refine seg_cons rfl rfl ?_
      refine t_nilCheck rfl rfl ?_
      refine t_fieldAddr rfl fo_144_2 rfl ?_
      refine t_nil ?_
      refine op_stb (.int _ _) rfl sz_3 rfl rfl rfl H (by first | exact at0 | exact at1 | exact at2 | exact at3 | exact at4 | exact at5 | exact at6 | exact at7 | exact at8 | exact at9) (by first | decide | (simp; done) | (simp; omega)) ?_
      rintro w H
      refine op_nil (at_seg (H.ext) ?_)
      refine seg_nil ?_
      refine W_rseq ?_
      refine op_assign rfl (.int _ _) rfl ?_
      refine op_nil (at_then ?_)
      refine W_ret (leaveM1 (v := (.int _ _)) rfl rfl ?_)
      refine ⟨Db, rfl, by rw [H.ext.block Db (Nat.lt_of_lt_of_le (heap_lt hD4) H5.ext.size) (by simp; omega), H5.ext.block Db (heap_lt hD4) (by simp; omega)]; exact hD4, ?_⟩
      have hxD := Ext.setB w Db (.deferred none)
      generalize w.putObj Db (.deferred none) = w6 at hxD ⊢
      have hz5 := hz.then H5.ext (fun x h => .inl (by rw [List.mem_singleton.1 h]; simp))
      have hz5' := hz5.then H.ext (fun x h => .inl (by rw [List.mem_singleton.1 h]; simp))
      have hz6 := hz5'.then hxD (fun x h => by have h9 : x = Db := List.mem_singleton.1 h; right; omega)
      have hz06 : Ext [bd, bs, bm] w0 w6 := ((hx00.trans hx17).mono (by simp)).then hz6 (by intro x h; simp only [List.mem_cons, List.not_mem_nil, or_false] at h ⊢; omega)
      have up6 : ∀ {b : Nat} {o : Obj}, w5.heap[b]? = some o → b ≠ bd → b ≠ Db → w6.heap[b]? = some o := fun {b o} g1 g2 g3 => by
        rw [hxD.block b (Nat.lt_of_lt_of_le (heap_lt g1) H.ext.size) (by simpa using g3), H.ext.block b (heap_lt g1) (by simpa using g2)]; exact g1
      refine ⟨by rw [onE, ho]; rfl, ?_, ?_⟩
      · rw [onD, ho]
        refine ⟨role, bs, bm, laid f sv (keysOf m), [], o', D.swept (A' := ⟨keepB A.B picks, -1, true⟩) hz06 (keepB_len ..) ?_ (up6 (by rw [H5.ext.block bs (heap_lt hs4) (by simp; omega)]; exact hs4) (Ne.symm hbds) (by omega)) (up6 (H5.get at0) (Ne.symm hbdm) (by omega)) hM' (by rw [laid_len, D2.len]) ?_ (by have h9 := on_wf D.wf picks; rwa [onD, ho] at h9), hF⟩
        · rw [show (Dev.B ⟨keepB A.B picks, -1, true⟩).length = A.B.length from keepB_len .., hxD.block bd (heap_lt (H.get at0)) (by simp; omega)]
          exact H.get at0
        · intro i p hp
          have hi : i < A.B.length := by have := (List.getElem?_eq_some_iff.1 hp).1; rwa [keepB_len] at this
          obtain ⟨p0, hp0⟩ : ∃ p0, A.B[i]? = some p0 := ⟨_, List.getElem?_eq_getElem hi⟩
          have hp : (keepB A.B picks)[i]? = some p := hp
          rw [keepB_at A.B picks hp0] at hp
          cases hp
          have hr4 : ∀ x ∈ [bd, bs, bm, b3], role x ≠ 4 := by
            intro x h
            simp only [List.mem_cons, List.not_mem_nil, or_false] at h
            rcases h with rfl | rfl | rfl | rfl
            · rw [D2.rd]; decide
            · rw [D2.rs]; decide
            · rw [D2.rm]; decide
            · intro h9
              have := D.lt x (by omega)
              omega
          rw [laid_get f sv _ (fun k hk => by obtain ⟨v, hv⟩ := keysOf_mem hk; obtain ⟨j, rfl, _⟩ := D2.keys k v hv; omega) (by rw [D2.len]; exact hi)]
          have hpart := D2.part i p0 hp0
          by_cases hne : p0.2 = []
          · rw [if_pos hne, if_neg (fun hin => by obtain ⟨v, hv⟩ := keysOf_mem hin; exact hpart.2.2.1 (by rw [hv]; rfl) hne)]
            obtain ⟨v, h1, h2⟩ := hpart.1
            exact ⟨rfl, v, h1, h2.keep hz6 hr4 fun _ h => h⟩
          · obtain ⟨v, hv⟩ := Option.isSome_iff_exists.1 (hpart.2.2.2 hne)
            rw [if_neg hne, if_pos (mem_keysOf hv)]
            have hxv : xq i = pickN p0 (picks.drop (cntL (A.B.take i))) := by rw [hxq]; dsimp only; rw [List.getD_eq_getElem?_getD, hp0]; rfl
            have hxle : xq i ≤ p0.2.length := by
              rw [hxv]; unfold pickN
              split
              · exact Nat.zero_le _
              · exact Nat.le_of_lt_succ (Nat.mod_lt _ (Nat.succ_pos _))
            refine ⟨rfl, _, rfl, ?_⟩
            have h9 := (hf i p0 hp0 hne hxle).1
            rw [hxv] at h9
            exact h9.keep hz6 hr4 fun _ h => h
      · refine .of hz06 fun x h => hF x ?_
        simp only [List.mem_cons, List.not_mem_nil, or_false] at h
        rcases h with rfl | rfl | rfl
        · rw [D2.rd]; decide
        · rw [D2.rs]; decide
        · rw [D2.rm]; decide

end Go.Proofs.YtbkadlngijkmmaaGreatDoor

/- A device of one's own. -/
namespace Go.Proofs.YtbkadlngijkmmaaGreatDoor
open Go.GV
attribute [local irreducible] Wops W Wq Wt

/-- A device that was made since the world w0. -/
structure Own (w0 w : World) (bd : Nat) (A : Dev) (F : Nat → Prop) : Prop where
  ext : Ext [] w0 w
  dev : DevAt w bd A F
  own : ∀ x, F x → w0.heap.size ≤ x ∧ x < w.heap.size

/-- What may be turned behind. -/
def Grown (F F' : Nat → Prop) (w w' : World) : Prop := Turn F w w' ∧ ∀ x, F' x → F x ∨ w.heap.size ≤ x

theorem Turn.new {F : Nat → Prop} {w0 w w' : World} (h : Turn F w w') (hx : Ext [] w0 w) (hF : ∀ x, F x → w0.heap.size ≤ x) : Ext [] w0 w' :=
  let ⟨_, hS, h⟩ := h; hx.then h fun x hx => .inr (hF x (hS x hx))
theorem Own.grow {w0 w w' : World} {bd : Nat} {A A' : Dev} {F : Nat → Prop} (O : Own w0 w bd A F) (h : DevAt w' bd A' (grow F w w')) (t : Turn F w w') : Own w0 w' bd A' (grow F w w') ∧ Grown F (grow F w w') w w' :=
  ⟨⟨t.new O.ext fun x h => (O.own x h).1, h, fun x hx => by
    have h1 := t.size; have h2 := O.ext.size
    rcases hx with hx | hx
    · have := O.own x hx; omega
    · omega⟩, t, fun x hx => hx.elim .inl fun h => .inr h.1⟩
theorem Own.same {w0 w w' : World} {bd : Nat} {A A' : Dev} {F : Nat → Prop} (O : Own w0 w bd A F) (h : DevAt w' bd A' F) (t : Turn F w w') : Own w0 w' bd A' F ∧ Grown F F w w' :=
  ⟨⟨t.new O.ext fun x h => (O.own x h).1, h, fun x hx => by have h1 := t.size; have := O.own x hx; omega⟩, t, fun x hx => .inl hx⟩
theorem Own.call {w0 w w' : World} {bd : Nat} {A : Dev} {F : Nat → Prop} (O : Own w0 w bd A F) (hx : Ext [] w w') : Own w0 w' bd A F :=
  ⟨O.ext.trans hx, O.dev.keep0 hx, fun x h => by have := O.own x h; have := hx.size; omega⟩

/-- Bytes that lie elsewhere. -/
def Rdx (w : World) (F : Nat → Prop) (a : Option Addr) (l : Byt) : Prop := Rd w a 1 B8 l ∧ (l = [] ∨ ¬ F (adr a).block)
theorem Rd.lt8 {w : World} {a : Option Addr} {l : Byt} (R : Rd w a 1 B8 l) : l = [] ∨ (adr a).block < w.heap.size := by
  cases l with
  | nil => exact .inl rfl
  | cons x l =>
    have h9 := World.block_lt_of_cell? w ⟨(adr a).block, _, none⟩ (R.cell 0 x rfl 0 _ rfl (by decide))
    exact .inr h9
theorem Rdx.turn {w w' : World} {F F' : Nat → Prop} {a : Option Addr} {l : Byt} (h : Rdx w F a l) (t : Grown F F' w w') : Rdx w' F' a l := by
  obtain ⟨R, hn⟩ := h
  rcases hn with rfl | hn
  · exact ⟨Rd.nil, .inl rfl⟩
  · obtain ⟨⟨S, hS, hx⟩, hF⟩ := t
    refine ⟨R.ext hx fun h => hn (hS _ h), ?_⟩
    rcases Rd.lt8 R with h1 | h1
    · exact .inl h1
    · exact .inr fun h => (hF _ h).elim hn fun h => by omega
theorem Rdx.call {w w' : World} {F : Nat → Prop} {a : Option Addr} {l : Byt} (h : Rdx w F a l) (hx : Ext [] w w') : Rdx w' F a l := ⟨h.1.ext0 hx, h.2⟩
theorem Own.old {w0 w : World} {bd : Nat} {A : Dev} {F : Nat → Prop} {a : Option Addr} {l : Byt} (O : Own w0 w bd A F) (R : Rd w0 a 1 B8 l) : Rdx w F a l :=
  ⟨R.ext0 O.ext, (Rd.lt8 R).imp id fun h hF => by have := O.own _ hF; omega⟩

/-! ### What is done to it -/
end Go.Proofs.YtbkadlngijkmmaaGreatDoor

/- Bytes in order: internal/bytealg.Compare, and strings that are compared. It holds for every program. -/
namespace Go.GV
open Go

theorem less_cmp : ∀ a b : List UInt8, Op.bytesLess a b = decide (Lib.compareBytes a b = -1)
  | [], [] => rfl
  | [], _ :: _ => rfl
  | _ :: _, [] => rfl
  | x :: a, y :: b => by
    have ih := less_cmp a b
    unfold Op.bytesLess Lib.compareBytes
    by_cases h : x < y
    · simp [h]
    · by_cases h2 : y < x
      · have hne : ¬ x = y := fun e => by subst e; exact UInt8.lt_irrefl x h2
        simp [h, h2, hne]
      · have he : x = y := UInt8.le_antisymm (UInt8.not_lt.1 h2) (UInt8.not_lt.1 h)
        subst he
        simp [ih]

section
variable {P : Program} {r : Option Nat} {ops rest : List Oper} {Q : Exit → Env → World → Prop} {e : Env} {w w0 : World} {S : List Nat} {L : List (Nat × Obj)}
  {dst : Option Tmp} {ty : TypeId} {pos : String} {af : Array Edge} {g : Option (Nat × Bool)} {C : World → Prop} {K : Env → Prop}

theorem run_loadBytes {w : World} {b : Nat} {l : List UInt8} : ∀ (o : Nat) (acc : List UInt8), (∀ j x, l[j]? = some x → w.cell? ⟨b, o + j, none⟩ = some (bv x)) →
    (Extern.Bytes.loadBytes ⟨b, o, none⟩ l.length ⟨acc.toArray⟩).run P w = .ok ⟨(acc ++ l).toArray⟩ w := by
  induction l with
  | nil => intro o acc _; simp [Extern.Bytes.loadBytes]
  | cons x l ih =>
    intro o acc h
    have h0 := h 0 x rfl
    have hl : (load ⟨b, o, none⟩ : Sem Value).run P w = .ok (bv x) w := by
      rw [run_load]
      rw [Nat.add_zero] at h0
      rw [h0]
    rw [List.length_cons]
    unfold Extern.Bytes.loadBytes
    rw [Sem.run_bind, hl, Result.andThen_ok]
    simp only [bv]
    have hx : ((x.toNat : Int).toNat).toUInt8 = x := by simp
    have hp : (ByteArray.push ⟨acc.toArray⟩ x) = ⟨(acc ++ [x]).toArray⟩ := by simp [ByteArray.push]
    rw [hx, hp]
    have h2 := ih (o + 1) (acc ++ [x]) (fun j y hj => by
      have := h (j + 1) y (by simpa using hj)
      rw [show o + 1 + j = o + (j + 1) by omega]; exact this)
    rw [List.append_assoc, List.singleton_append] at h2
    exact h2
theorem run_bytesOf {w : World} {a : Option Addr} {c : Nat} {l : List UInt8} (R : Rd w a 1 B8 l) : (Extern.Bytes.bytesOf (.slice a l.length c)).run P w = .ok ⟨l.toArray⟩ w := by
  cases a with
  | none =>
    have h0 : l = [] := by
      cases l with
      | nil => rfl
      | cons x l => obtain ⟨b, o, h⟩ := R.some' (by simp); cases h
    subst h0
    rfl
  | some p =>
    cases l with
    | nil => rfl
    | cons x l =>
      obtain ⟨b, o, hp⟩ := R.some' (by simp)
      injection hp with hp
      subst hp
      have h := run_loadBytes (P := P) (w := w) (b := b) (l := x :: l) o [] (fun j y hj => by
        have := Rd.one (f := bv) R hj
        simpa [adr] using this)
      exact h
theorem run_cmpBytes {w : World} {a b : Option Addr} {c d : Nat} {l m : List UInt8} (R : Rd w a 1 B8 l) (R2 : Rd w b 1 B8 m) :
    (Extern.BytealgCompare.compare #[.slice a l.length c, .slice b m.length d]).run P w = .ok (.int .i64 (Lib.compareBytes l m)) w := by
  change Sem.run P (do pure (goInt (Extern.BytealgCompare.cmp (← Extern.Bytes.bytesOf (.slice a l.length c)) (← Extern.Bytes.bytesOf (.slice b m.length d))))) w = _
  rw [Sem.run_bind, run_bytesOf R, Result.andThen_ok, Sem.run_bind, run_bytesOf R2, Result.andThen_ok, Sem.run_pure, Lib.cmp_eq]
  rfl
/-- A call of a function without a body. -/
theorem op_extern {f : FuncId} {args : Array Operand} {ats : Array TypeId} {l : List Value} {v : Value} (hg : wants ⟨dst, .call ⟨.value (.func f), args, ats⟩, ty, pos, af, g⟩ ops e = true)
    (hc : (callFunc f l.toArray).run P w = .ok (.value v) w) (ha : args.toList.map (ev e) = l) (h : Wops P r ops Q rest (put e dst v) w) :
    Wops P r ops Q (⟨dst, .call ⟨.value (.func f), args, ats⟩, ty, pos, af, g⟩ :: rest) e w := by
  have : args.map (ev e) = l.toArray := by subst ha; apply Array.ext'; simp only [Array.toList_map]
  exact op_val hg rfl (by simp [execOp, resolve, ev, Deferred.ofValue, invoke, this, hc]) h

/-- append(nil, make(..)...): what slices.Grow does of nil. -/
theorem op_growz {t tn el : TypeId} {kn : IntKind} {x y : Operand} {s by' k : Nat} {zl : List Value} (hg : wants ⟨dst, .call ⟨.builtin .append, #[x, y], #[t, tn]⟩, ty, pos, af, g⟩ ops e = true) (hu : elemT P t = some el) (hn : P.underlying tn = some (.int kn))
    (hs : tsize P el = some s) (hby : tbytes P el = some by') (hz : zcells P el = some zl) (hzl : zl.length = s) (hs0 : 0 < s) (hx : ev e x = .slice none 0 0) (hy : ev e y = .int .i64 (k : Int)) (h0 : 0 < k) (hm : k * by' ≤ 140737488355328) (h63 : k ≤ 4611686018427387904) (H : Ctx w0 S w L)
    (h : ∀ b c full w', Ctx w0 S w' ((b, Bl el full) :: L) → OS (some ⟨b, 0, none⟩) 0 c s full [] → k ≤ c → Wops P r ops Q rest (put e dst (.slice (some ⟨b, 0, none⟩) k c)) w') :
    Wops P r ops Q (⟨dst, .call ⟨.builtin .append, #[x, y], #[t, tn]⟩, ty, pos, af, g⟩ :: rest) e w := by
  obtain ⟨i, hi⟩ : ∃ i, P.info? el = some i := by
    unfold tsize at hs
    cases hi : P.info? el with
    | none => rw [hi] at hs; cases hs
    | some i => exact ⟨i, rfl⟩
  have hsz : i.size = s := by unfold tsize at hs; rw [hi] at hs; exact Option.some.inj hs
  have hbz : i.bytes = by' := by unfold tbytes at hby; rw [hi] at hby; exact Option.some.inj hby
  obtain ⟨z, hz0, hz1⟩ : ∃ z, i.zero = some z ∧ z.cells.toList = zl := by
    unfold zcells at hz
    rw [hi] at hz
    simp only [Option.bind_some] at hz
    cases hz0 : i.zero with
    | none => rw [hz0] at hz; cases hz
    | some z => rw [hz0] at hz; exact ⟨z, rfl, Option.some.inj hz⟩
  have hzs : z.cells.size = s := by rw [← hzl, ← hz1]; simp
  have hr := Lib.run_append_grow_zeros (P := P) w t tn ty el i z .i64 kn (elemT_u hu) hn hi hz0 none 0 0 [] (run_firstCells_none ..) k h0 (by omega) (by omega) (by omega) (by rw [hbz]; omega) (growslice_fits (by omega) (by rw [hbz, Nat.zero_add]; exact hm))
  rw [Nat.zero_add] at hr
  obtain ⟨G, hG⟩ : ∃ G, G = grownCap w k 0 el := ⟨_, rfl⟩
  have hGk : k ≤ G := by rw [hG]; exact grownCap_ge w _ _ _
  rw [← hG] at hr
  obtain ⟨full, hf⟩ : ∃ full : List Value, full = (#[] ++ Builtin.zeroCells z.cells k ++ Builtin.zeroCells z.cells (G - k)).toList := ⟨_, rfl⟩
  have hlen : full.length = G * s := by
    have h1 : (Builtin.zeroCells z.cells k).size = k * s := by simp [Builtin.zeroCells, hzs]
    have h2 : (Builtin.zeroCells z.cells (G - k)).size = (G - k) * s := by simp [Builtin.zeroCells, hzs]
    rw [hf, Array.length_toList, Array.size_append, Array.size_append, h1, h2]
    simp only [Array.size_empty, Nat.zero_add]
    rw [← Nat.add_mul]
    congr 1
    omega
  have hB : (Obj.cells (#[] ++ Builtin.zeroCells z.cells k ++ Builtin.zeroCells z.cells (G - k)) el (0, 0)) = Bl el full := by rw [Bl, hf]
  have hr2 : (Builtin.append_ #[t, tn] ty #[.slice none 0 0, .int .i64 k]).run P w = .ok (.slice (some ⟨w.heap.size, 0, none⟩) k G) (w.drew.alloc (Bl el full)) := by rw [← hB]; exact hr
  refine op_val (w' := w.drew.alloc (Bl el full)) (v := .slice (some ⟨w.heap.size, 0, none⟩) k G) hg rfl ?_ (h w.heap.size G full _ (H.drew.alloc _) ⟨fun p hp => (by cases hp; rfl), fun hh => (by cases hh), hlen, Nat.zero_le _, (by rw [Nat.zero_mul, List.take_zero])⟩ hGk)
  simp [execOp, resolve, invoke, builtin, hx, hy, hr2]

/-! ### Strings -/
theorem q_strge {t t2 : TypeId} {x y : Operand} {l m : List UInt8} (hg : wants ⟨dst, .binOp .geq t x y t2, ty, pos, af, g⟩ ops e = true) (hx : ev e x = str l) (hy : ev e y = str m)
    (h : Wq P ops C K rest (put e dst (.bool (!decide (Lib.compareBytes l m = -1))))) : Wq P ops C K (⟨dst, .binOp .geq t x y t2, ty, pos, af, g⟩ :: rest) e :=
  q_val hg (fun w _ => by
    have hq : eqGuard .geq t x y (.string ⟨l.toArray⟩) (.string ⟨m.toArray⟩) = pure () := rfl
    simp only [execOp, hx, hy, hq, Sem.run_bind, Sem.run_pure, Result.andThen_ok, binOp, str, Op.stringOp, ByteArray.toList_eq, less_cmp]) h
end
end Go.GV

/- Results that lie in blocks, beside others. It holds for every program. -/
namespace Go.GV
open Go
section
variable {P : Program} {e : Env} {w w0 : World} {S : List Nat} {L : List (Nat × Obj)} {fn : Func} {R : Value → World → Prop}
theorem leave2c {a s2 : Tmp} {t : TypeId} {p : Addr} {v v2 : Value} (hr : fn.results = #[.cell a t, .tmp s2]) (hd : e.ds = []) (ha : e.g a = .pointer (some p)) (hv : (loadVar t p).run P w = .ok v w) (h2 : e.g s2 = v2) (h : R (.tuple #[v, v2]) w) : Qret P fn R .ret e w :=
  ⟨hd, fun tmps ht => by
    have h1 := (ht a).trans ha
    have g2 := (ht s2).trans h2
    rw [Array.getD_eq_getD_getElem?] at h1 g2
    exact ⟨.tuple #[v, v2], by simp [results, hr, h1, g2, asAddr, hv], h⟩⟩
theorem leave3c {a s2 s3 : Tmp} {t : TypeId} {p : Addr} {v v2 v3 : Value} (hr : fn.results = #[.cell a t, .tmp s2, .tmp s3]) (hd : e.ds = []) (ha : e.g a = .pointer (some p)) (hv : (loadVar t p).run P w = .ok v w) (h2 : e.g s2 = v2) (h3 : e.g s3 = v3) (h : R (.tuple #[v, v2, v3]) w) : Qret P fn R .ret e w :=
  ⟨hd, fun tmps ht => by
    have h1 := (ht a).trans ha
    have g2 := (ht s2).trans h2
    have g3 := (ht s3).trans h3
    rw [Array.getD_eq_getD_getElem?] at h1 g2 g3
    exact ⟨.tuple #[v, v2, v3], by simp [results, hr, h1, g2, g3, asAddr, hv], h⟩⟩
theorem leave2b {a s2 : Tmp} {t t2 : TypeId} {b k s : Nat} {l : List Value} {v2 : Value} (hr : fn.results = #[.cell a t, .tmp s2]) (hd : e.ds = []) (ha : e.g a = .pointer (some ⟨b, 0, none⟩)) (hag : aggB P t = some true) (hs : tsize P t = some s)
    (H : Ctx w0 S w L) (hk : L[k]? = some (b, Bl t2 l)) (hl : l.length = s) (h2 : e.g s2 = v2) (h : R (.tuple #[.agg l.toArray, v2]) w) : Qret P fn R .ret e w :=
  leave2c hr hd ha (run_loadN hag hs hl (fun j v hv => by rw [cell_bl (H.get hk), Nat.zero_add]; exact hv)) h2 h
theorem leave3b {a s2 s3 : Tmp} {t t2 : TypeId} {b k s : Nat} {l : List Value} {v2 v3 : Value} (hr : fn.results = #[.cell a t, .tmp s2, .tmp s3]) (hd : e.ds = []) (ha : e.g a = .pointer (some ⟨b, 0, none⟩)) (hag : aggB P t = some true) (hs : tsize P t = some s)
    (H : Ctx w0 S w L) (hk : L[k]? = some (b, Bl t2 l)) (hl : l.length = s) (h2 : e.g s2 = v2) (h3 : e.g s3 = v3) (h : R (.tuple #[.agg l.toArray, v2, v3]) w) : Qret P fn R .ret e w :=
  leave3c hr hd ha (run_loadN hag hs hl (fun j v hv => by rw [cell_bl (H.get hk), Nat.zero_add]; exact hv)) h2 h3 h
end
section
variable {P : Program} {ops rest : List Oper} {e : Env} {dst : Option Tmp} {ty : TypeId} {pos : String} {af : Array Edge} {g : Option (Nat × Bool)} {C : World → Prop} {K : Env → Prop}
theorem t_buildS {t : TypeId} {parts : Array (Nat × Operand)} {pl : List (Nat × Nat)} {zl : List Value} (l : List Value) (hg : wants ⟨dst, .build t parts, ty, pos, af, g⟩ ops e = true) (hp : placesB P t = some pl) (hz : zcells P t = some zl)
    (hl : Instr.fill (fun i => pl.toArray[i]?) zl.toArray (parts.toList.map fun p => (p.1, ev e p.2)) = some l.toArray) (h : Wt P ops C K rest (put e dst (.agg l.toArray))) :
    Wt P ops C K (⟨dst, .build t parts, ty, pos, af, g⟩ :: rest) e := by
  refine t_val hg (fun w _ => ?_) h
  have hb : P.built t (parts.map fun (i, x) => (i, ev e x)).toList = some l.toArray := built_of hp hz (by rw [Array.toList_map]; exact hl)
  simp [execOp, run_build w t _ _ hb]
end
end Go.GV

/- Items of nodes in memory. -/
namespace Go.Proofs.YtbkadlngijkmmaaGreatDoor
open Go.GV
theorem ag_120_TrC : aggB Tryz.prog 120 = some true := by kernel_rfl
theorem ca_125_TrC : callable Tryz.prog 125 = true := by kernel_rfl
theorem ca_126_TrC : callable Tryz.prog 126 = true := by kernel_rfl
theorem ca_71_TrC : callable Tryz.prog 71 = true := by kernel_rfl
theorem el_114_TrC : elemT Tryz.prog 114 = some 120 := by kernel_rfl
theorem fo_116_0_TrC : fieldO Tryz.prog 116 0 = some 0 := by kernel_rfl
theorem fo_120_0_TrC : fieldO Tryz.prog 120 0 = some 0 := by kernel_rfl
theorem fo_120_1_TrC : fieldO Tryz.prog 120 1 = some 1 := by kernel_rfl
theorem sz_120_TrC : tsize Tryz.prog 120 = some 3 := by kernel_rfl
theorem un_100_TrC : Tryz.prog.underlying 100 = some (.int .u64) := by kernel_rfl
attribute [local irreducible] Wops W Wq Wt

abbrev Mut := Nat → Prop
/-- What was there before. -/
def Old (w : World) : Mut := fun x => x < w.heap.size
theorem rd_ltN {w : World} {α : Type} {a : Option Addr} {s : Nat} {enc : α → List Value} {l : List α} (R : Rd w a s enc l) (hs : 0 < s) (he : ∀ x ∈ l, (enc x).length = s) : l = [] ∨ (adr a).block < w.heap.size := by
  cases l with
  | nil => exact .inl rfl
  | cons x l =>
    have h1 := he x (List.mem_cons_self ..)
    obtain ⟨v, hv⟩ := get_some (l := enc x) (i := 0) (by omega)
    exact .inr (World.block_lt_of_cell? w ⟨(adr a).block, _, none⟩ (R.cell 0 x rfl 0 v hv (by omega)))
theorem adr_cutN (a : Option Addr) (c i s : Nat) : (adr (cutA a c i s)).block = (adr a).block := by
  unfold cutA; split
  · rfl
  · cases a with
    | none => rfl
    | some p =>
      obtain ⟨b, o, sp⟩ := p
      show (adr (some (Addr.add ⟨b, o, sp⟩ (i * s)))).block = b
      unfold Addr.add
      by_cases h : i * s = 0 <;> simp [h, adr]
section
variable {w w' w0 : World} {M M' : Mut} {a : Option Addr} {l : Byt}
theorem Rdx.fresh (R : Rd w' a 1 B8 l) (h : l = [] ∨ w.heap.size ≤ (adr a).block) : Rdx w' (Old w) a l := ⟨R, h.imp id fun h h2 => by unfold Old at h2; omega⟩
theorem Rdx.weak (h : Rdx w M a l) (hM : ∀ x, M' x → M x) : Rdx w M' a l := ⟨h.1, h.2.imp id fun h h2 => h (hM _ h2)⟩
theorem Rdx.past {w1 w2 : World} {S : List Nat} (X : Rdx w (Old w1) a l) (he : Ext S w w2) (hS : ∀ x ∈ S, x < w1.heap.size) : Rdx w2 (Old w1) a l := by
  obtain ⟨R, hn⟩ := X
  rcases hn with rfl | hn
  · exact ⟨Rd.nil, .inl rfl⟩
  · exact ⟨R.ext he fun h => hn (hS _ h), .inr hn⟩
theorem Rdx.nil : Rdx w M none [] := ⟨Rd.nil, .inl rfl⟩
end

structure Im where
  ka : Option Addr
  kc : Nat
  va : Option Addr
  vc : Nat
  it : It
def Im.enc (m : Im) : List Value := [.slice m.ka m.it.key.length m.kc, .slice m.va m.it.val.length m.vc, .int .i64 (m.it.page : Int)]
theorem Im.oneE (m : Im) : ∀ v ∈ m.enc, oneCell v = true := fun v hv => by
  simp only [Im.enc, List.mem_cons, List.not_mem_nil, or_false] at hv
  rcases hv with rfl | rfl | rfl <;> rfl
structure Im.Ok (w : World) (M : Mut) (m : Im) : Prop where
  k : Rdx w M m.ka m.it.key
  v : Rdx w M m.va m.it.val
  kc : m.it.key.length ≤ m.kc
  vc : m.it.val.length ≤ m.vc
/-- A slice of items, in blocks that do not turn. -/
structure Its (w : World) (M : Mut) (a : Option Addr) (n c : Nat) (L : List It) : Prop where
  ex : ∃ ms : List Im, Rd w a 3 Im.enc ms ∧ (ms = [] ∨ ¬ M (adr a).block) ∧ ms.map (·.it) = L ∧ ∀ m ∈ ms, m.Ok w M
  num : n = L.length
  le : n ≤ c
section
variable {w w' w0 : World} {M M' : Mut} {a : Option Addr} {n c : Nat} {L : List It} {m : Im}
theorem Im.Ok.turn (h : m.Ok w M) (t : Grown M M' w w') : m.Ok w' M' := ⟨h.k.turn t, h.v.turn t, h.kc, h.vc⟩
theorem Im.Ok.call (h : m.Ok w M) (hx : Ext [] w w') : m.Ok w' M := ⟨h.k.call hx, h.v.call hx, h.kc, h.vc⟩
theorem Im.Ok.weak (h : m.Ok w M) (hM : ∀ x, M' x → M x) : m.Ok w M' := ⟨h.k.weak hM, h.v.weak hM, h.kc, h.vc⟩
theorem Its.nil : Its w M none 0 0 [] := ⟨⟨[], Rd.nil, .inl rfl, rfl, fun m h => by cases h⟩, rfl, Nat.le_refl _⟩
theorem Its.turn (h : Its w M a n c L) (t : Grown M M' w w') : Its w' M' a n c L := by
  obtain ⟨ms, R, hs, hl, hm⟩ := h.ex
  refine ⟨⟨ms, ?_, ?_, hl, fun m hx => (hm m hx).turn t⟩, h.num, h.le⟩
  · rcases hs with rfl | hs
    · exact Rd.nil
    · obtain ⟨⟨S, hS, hx⟩, _⟩ := t
      exact R.ext hx fun h => hs (hS _ h)
  · rcases hs with rfl | hs
    · exact .inl rfl
    · rcases rd_ltN R (by decide) (fun x _ => rfl) with h0 | h0
      · exact .inl h0
      · exact .inr fun h5 => (t.2 _ h5).elim hs fun h6 => by omega
theorem Its.call (h : Its w M a n c L) (hx : Ext [] w w') : Its w' M a n c L := by
  obtain ⟨ms, R, hs, hl, hm⟩ := h.ex
  exact ⟨⟨ms, R.ext0 hx, hs, hl, fun m hm' => (hm m hm').call hx⟩, h.num, h.le⟩
theorem Its.weak (h : Its w M a n c L) (hM : ∀ x, M' x → M x) : Its w M' a n c L := by
  obtain ⟨ms, R, hs, hl, hm⟩ := h.ex
  exact ⟨⟨ms, R, hs.imp id fun h h2 => h (hM _ h2), hl, fun m hm' => (hm m hm').weak hM⟩, h.num, h.le⟩
theorem Its.take (h : Its w M a n c L) {k : Nat} (hk : k ≤ n) : Its w M a k c (L.take k) := by
  obtain ⟨ms, R, hs, hl, hm⟩ := h.ex
  have hn := h.num; have hc := h.le
  refine ⟨⟨ms.take k, R.take k, hs.imp (fun h => by rw [h, List.take_nil]) id, by rw [List.map_take, hl], fun m hx => hm m (List.mem_of_mem_take hx)⟩, ?_, by omega⟩
  rw [List.length_take]; omega
theorem Its.drop (h : Its w M a n c L) {k : Nat} (hk : k ≤ n) : Its w M (cutA a c k 3) (n - k) (c - k) (L.drop k) := by
  obtain ⟨ms, R, hs, hl, hm⟩ := h.ex
  have hn := h.num; have hc := h.le
  have hml : ms.length = n := by rw [hn, ← hl, List.length_map]
  refine ⟨⟨ms.drop k, R.cut k c (by omega), ?_, by rw [List.map_drop, hl], fun m hx => hm m (List.mem_of_mem_drop hx)⟩, ?_, by omega⟩
  · rw [adr_cutN]; exact hs.imp (fun h => by rw [h, List.drop_nil]) id
  · rw [List.length_drop]; omega
end

/-! ### The order -/
theorem compare_ok {w : World} (a b : Option Addr) (c d n m : Nat) (x y : Byt) (Rx : Rd w a 1 B8 x) (Ry : Rd w b 1 B8 y) (hn : x.length = n) (hm : y.length = m) :
    Ret Tryz.prog 71 #[.slice a n c, .slice b m d] w fun v w' => v = .int .i64 (cmpB x y) ∧ w = w' := by
  subst hn hm
  refine ret_of_W (fn := Tryz.f71) Tryz.func71 rfl [.slice a x.length c, .slice b y.length d] rfl (by kernel_rfl) ?_
  refine W_rseq ?_
  refine op_assign rfl (.int _ _) rfl ?_
  refine op_nil (at_then ?_)
  refine W_rseq ?_
  refine op_move rfl (.slice _ _ _) rfl ?_
  refine op_move rfl (.slice _ _ _) rfl ?_
  refine op_extern (l := [.slice a x.length c, .slice b y.length d]) (v := .int .i64 (cmpB x y)) rfl (by rw [run_callFunc_extern Tryz.func129 (by kernel_rfl) (by kernel_rfl) (by kernel_rfl) (e := Extern.BytealgCompare.compare) (by kernel_rfl), run_cmpBytes Rx Ry]; rfl) rfl ?_
  refine op_assign rfl (.int _ _) rfl ?_
  refine op_nil (at_then ?_)
  refine W_ret (leave1 (v := (.int _ _)) rfl rfl rfl ?_)
  exact ⟨rfl, rfl⟩

/-- How many of the items behind the first one have no greater key. -/
def belowN (L : List It) (key : Byt) : Nat := (L.tail.takeWhile fun x => decide (cmpB x.key key ≤ 0)).length
theorem takeWhile_len {α : Type} {p : α → Bool} : ∀ {l : List α} {i : Nat}, (∀ j x, j < i → l[j]? = some x → p x = true) → i ≤ l.length → (∀ x, l[i]? = some x → p x = false) → (l.takeWhile p).length = i
  | [], i, _, hi, _ => by simp at hi; subst hi; rfl
  | x :: l, 0, _, _, h => by rw [List.takeWhile_cons, h x rfl]; rfl
  | x :: l, i + 1, h, hi, h2 => by
    rw [List.takeWhile_cons, h 0 x (by omega) rfl]
    simp only [if_true, List.length_cons]
    rw [takeWhile_len (l := l) (i := i) (fun j y hj hy => h (j + 1) y (by omega) hy) (by simpa using hi) fun y hy => h2 y hy]
theorem Im.at {ms : List Im} {L : List It} (hl : ms.map (·.it) = L) {i : Nat} {x : Im} (h : ms[i]? = some x) : L[i]? = some x.it := by rw [← hl, List.getElem?_map, h]; rfl

set_option maxRecDepth 20000 in
set_option maxHeartbeats 1000000 in
theorem below_ok {w : World} {M : Mut} {a : Option Addr} {n c : Nat} {L : List It} (I : Its w M a n c L) (ka : Option Addr) (kc kn : Nat) (key : Byt) (Rk : Rd w ka 1 B8 key) (hk : key.length = kn) (hm : n ≤ 1000000) :
    Ret Tryz.prog 67 #[.slice a n c, .slice ka kn kc] w fun v w' => v = .int .i64 (belowN L key : Int) ∧ w = w' := by
  subst hk
  obtain ⟨w0, rfl⟩ : ∃ w0, w0 = w := ⟨_, rfl⟩
  obtain ⟨ms, R, -, hl, hok⟩ := I.ex
  have hnum := I.num
  have hml : ms.length = n := by rw [hnum, ← hl, List.length_map]
  refine ret_of_W (fn := Tryz.f67) Tryz.func67 rfl [.slice a n c, .slice ka key.length kc] rfl (by kernel_rfl) ?_
  refine W_rseq ?_
  refine op_assign rfl (.int _ _) rfl ?_
  refine op_nil (at_then ?_)
  refine W_rseq ?_
  refine op_assign rfl (.int _ _) rfl ?_
  refine op_nil (at_then ?_)
  refine W_seq ?_
  refine W_block ?_
  refine W_loop 16777184 (α := Nat) (fun i => [(5, .int .i64 (i : Int))]) (fun i w' => w0 = w' ∧ (i = 0 ∨ i + 1 ≤ n) ∧ ∀ j x, j < i → L.tail[j]? = some x → cmpB x.key key ≤ 0) (fun i => n - i) 0 rfl ?_ ?_ ?_
  · exact ⟨rfl, trivial⟩
  · exact ⟨rfl, .inl rfl, fun j x h => absurd h (Nat.not_lt_zero _)⟩
  · rintro i j w ⟨rfl, hi, hb⟩
    refine W_seq ?_
    refine W_rseq ?_
    refine op_move rfl (.int _ _) rfl ?_
    refine op_add_i64 rfl rfl rfl (by omega) (by omega) ?_
    refine op_move rfl (.slice _ _ _) rfl ?_
    refine op_len rfl el_114_TrC rfl ?_
    refine op_lss rfl rfl rfl ?_
    refine op_move rfl (.bool _) rfl ?_
    refine Wops_split 11 rfl ?_ ?_
    · intro h1
      replace h1 := dec_t h1
      obtain ⟨x, hx⟩ := get_some (l := ms) (i := i + 1) (by omega)
      have hxL := Im.at hl hx
      have hxo := hok x (List.mem_of_getElem? hx)
      have hti : L.tail[i]? = some x.it := by rw [List.getElem?_tail]; exact hxL
      refine op_move rfl (.slice _ _ _) rfl ?_
      refine op_move rfl (.int _ _) rfl ?_
      refine op_add_i64 rfl rfl rfl (by omega) (by omega) ?_
      first | refine op_indexRd R rfl el_114_TrC sz_120_TrC rfl rfl (by omega) (by omega) (by first | rfl | omega) ?_ | refine op_indexAddr rfl el_114_TrC sz_120_TrC rfl rfl (by omega) (by omega) ?_
      refine op_fieldAddr rfl fo_120_0_TrC rfl ?_
      first | refine op_ldb rfl ag_23 rfl H (by first | exact at0 | exact at1 | exact at2 | exact at3 | exact at4 | exact at5 | exact at6 | exact at7 | exact at8 | exact at9) rfl ?_ | refine op_ld rfl ag_23 rfl (R.fld hx rfl (j := 0) rfl) ?_
      refine op_move rfl (.slice _ _ _) rfl ?_
      refine op_call rfl ca_71_TrC (compare_ok x.ka ka x.kc kc _ _ x.it.key key hxo.k.1 Rk rfl rfl) rfl ?_
      rintro v w ⟨rfl, rfl⟩
      refine op_leq rfl rfl rfl ?_
      refine op_pick1 rfl rfl (.bool _) rfl ?_
      refine op_nil (at_then ?_)
      refine W_cond _ rfl ?_ ?_
      · intro h2
        replace h2 := dec_t h2
        refine W_skip (at_then ?_)
        refine W_block ?_
        refine W_region ?_
        refine op_move rfl (.int _ _) rfl ?_
        refine op_add_i64 rfl rfl rfl (by omega) (by omega) ?_
        refine op_assign rfl (.int _ _) rfl ?_
        refine op_nil (at_block (at_then ?_))
        refine ⟨i + 1, rfl, ⟨rfl, trivial⟩, ⟨rfl, .inr (by omega), fun j y hj hy => ?_⟩, by omega⟩
        rcases Nat.lt_or_ge j i with h3 | h3
        · exact hb j y h3 hy
        · obtain rfl : j = i := by omega
          rw [hti] at hy
          cases hy
          exact h2
      · intro h2
        replace h2 := dec_f h2
        refine W_exit (exit_then (exit_then (exit_here (at_then ?_))))
        refine W_rseq ?_
        refine op_move rfl (.int _ _) rfl ?_
        refine op_assign rfl (.int _ _) rfl ?_
        refine op_nil (at_then ?_)
        refine W_ret (leave1 (v := (.int _ _)) rfl rfl rfl ?_)
        refine ⟨?_, rfl⟩
        rw [belowN, takeWhile_len (i := i) (fun j y hj hy => decide_eq_true (hb j y hj hy)) (by rw [List.length_tail]; omega) fun y hy => ?_]
        rw [hti] at hy
        cases hy
        exact decide_eq_false (by omega)
    · intro h1
      replace h1 := dec_f h1
      refine op_skip rfl ?_
      refine op_skip rfl ?_
      refine op_skip rfl ?_
      refine op_skip rfl ?_
      refine op_skip rfl ?_
      refine op_skip rfl ?_
      refine op_skip rfl ?_
      refine op_skip rfl ?_
      refine op_skip rfl ?_
      refine op_pick0 rfl rfl (.bool _) rfl ?_
      refine op_nil (at_then ?_)
      refine W_cond0 rfl ?_
      refine W_exit (exit_then (exit_then (exit_here (at_then ?_))))
      refine W_rseq ?_
      refine op_move rfl (.int _ _) rfl ?_
      refine op_assign rfl (.int _ _) rfl ?_
      refine op_nil (at_then ?_)
      refine W_ret (leave1 (v := (.int _ _)) rfl rfl rfl ?_)
      refine ⟨?_, rfl⟩
      rw [belowN, takeWhile_len (i := i) (fun j y hj hy => decide_eq_true (hb j y hj hy)) (by rw [List.length_tail]; omega) fun y hy => ?_]
      have := (List.getElem?_eq_some_iff.1 hy).1
      rw [List.length_tail] at this
      omega

/-- Where a leaf has a key, or would have it. -/
def bsN (L : List It) (key : Byt) (i j : Nat) : Nat :=
  if h : i < j then (if cmpB ((L[(i + j) / 2]?.map (·.key)).getD []) key < 0 then bsN L key ((i + j) / 2 + 1) j else bsN L key i ((i + j) / 2)) else i
termination_by j - i
def placeN (L : List It) (key : Byt) : Nat := bsN L key 0 L.length
def placeB (L : List It) (key : Byt) : Bool := match L[placeN L key]? with | some x => decide (cmpB x.key key = 0) | none => false
theorem bsN_lt {L : List It} {key : Byt} {i j : Nat} (h : i < j) : bsN L key i j = if cmpB ((L[(i + j) / 2]?.map (·.key)).getD []) key < 0 then bsN L key ((i + j) / 2 + 1) j else bsN L key i ((i + j) / 2) := by
  rw [bsN, dif_pos h]
theorem bsN_end {L : List It} {key : Byt} {i j : Nat} (h : j ≤ i) : bsN L key i j = i := by
  rw [bsN, dif_neg (by omega)]

theorem placeC_ok {w : World} {M : Mut} {x : Im} (hx : x.Ok w M) (ka : Option Addr) (kc kn : Nat) (key : Byt) (Rk : Rd w ka 1 B8 key) (hk : key.length = kn) :
    Ret Tryz.prog 126 #[.agg x.enc.toArray, .slice ka kn kc] w fun v w' => v = .int .i64 (cmpB x.it.key key) ∧ Ext [] w w' := by
  subst hk
  obtain ⟨w0, rfl⟩ : ∃ w0, w0 = w := ⟨_, rfl⟩
  have H := Ctx.start w0 []
  refine ret_of_W (fn := Tryz.f126) Tryz.func126 rfl [.agg x.enc.toArray, .slice ka key.length kc] rfl (by kernel_rfl) ?_
  refine W_rseq ?_
  refine op_box rfl x.enc (.agg _) rfl rfl H ?_
  rintro b2 w - H
  refine op_assign rfl (.int _ _) rfl ?_
  refine op_nil (at_then ?_)
  refine W_rseq ?_
  refine op_fieldAddr rfl fo_120_0_TrC rfl ?_
  refine op_ldb rfl ag_23 rfl H (by first | exact at0 | exact at1 | exact at2 | exact at3 | exact at4 | exact at5 | exact at6 | exact at7 | exact at8 | exact at9) rfl ?_
  refine op_move rfl (.slice _ _ _) rfl ?_
  refine op_call rfl ca_71_TrC (compare_ok x.ka ka x.kc kc _ _ x.it.key key (hx.k.1.ext0 H.ext) (Rk.ext0 H.ext) rfl rfl) rfl ?_
  rintro v w ⟨rfl, rfl⟩
  refine op_assign rfl (.int _ _) rfl ?_
  refine op_nil (at_then ?_)
  refine W_ret (leave1 (v := (.int _ _)) rfl rfl rfl ?_)
  exact ⟨rfl, H.ext⟩

set_option maxRecDepth 20000 in
set_option maxHeartbeats 1000000 in
theorem search_ok {w : World} {M : Mut} {a : Option Addr} {n c : Nat} {L : List It} (I : Its w M a n c L) (ka : Option Addr) (kc kn : Nat) (key : Byt) (Rk : Rd w ka 1 B8 key) (hk : key.length = kn) (hm : n ≤ 1000000) :
    Ret Tryz.prog 125 #[.slice a n c, .slice ka kn kc, .func (.func 126) #[] #[]] w fun v w' => v = .tuple #[.int .i64 (placeN L key : Int), .bool (placeB L key)] ∧ Ext [] w w' := by
  subst hk
  obtain ⟨w0, rfl⟩ : ∃ w0, w0 = w := ⟨_, rfl⟩
  obtain ⟨ms, R, -, hl, hok⟩ := I.ex
  have hnum := I.num
  have hml : ms.length = n := by rw [hnum, ← hl, List.length_map]
  refine ret_of_W (fn := Tryz.f125) Tryz.func125 rfl [.slice a n c, .slice ka key.length kc, .func (.func 126) #[] #[]] rfl (by kernel_rfl) ?_
  refine W_rseq ?_
  refine op_assign rfl (.int _ _) rfl ?_
  refine op_assign rfl (.bool _) rfl ?_
  refine op_nil (at_then ?_)
  refine W_rseq ?_
  refine op_move rfl (.slice _ _ _) rfl ?_
  refine op_len rfl el_114_TrC rfl ?_
  refine op_assign rfl (.int _ _) rfl ?_
  refine op_nil (at_then ?_)
  refine W_rseq ?_
  refine op_move rfl (.int _ _) rfl ?_
  refine op_assign rfl (.int _ _) rfl ?_
  refine op_assign rfl (.int _ _) rfl ?_
  refine op_nil (at_then ?_)
  refine W_seq ?_
  refine W_block ?_
  refine W_loop 34359709184 (α := Nat × Nat) (fun s => [(9, .int .i64 (s.1 : Int)), (10, .int .i64 (s.2 : Int))]) (fun s w' => Ext [] w0 w' ∧ s.1 ≤ s.2 ∧ s.2 ≤ n ∧ bsN L key s.1 s.2 = placeN L key) (fun s => s.2 - s.1) (0, n) rfl ?_ ?_ ?_
  · exact ⟨rfl, rfl, trivial⟩
  · exact ⟨.refl _ _, Nat.zero_le _, Nat.le_refl _, by rw [placeN, ← hnum]⟩
  · rintro ⟨i, k⟩ j w ⟨hx, hik, hk, hbs⟩; dsimp only at hx hik hk hbs; dsimp only
    refine W_seq ?_
    refine W_rseq ?_
    refine op_move rfl (.int _ _) rfl ?_
    refine op_move rfl (.int _ _) rfl ?_
    refine op_lss rfl rfl rfl ?_
    refine op_nil (at_then ?_)
    refine W_cond _ rfl ?_ ?_
    · intro h1
      replace h1 := dec_t h1
      obtain ⟨h, hh⟩ : ∃ h, h = (i + k) / 2 ^ 1 := ⟨_, rfl⟩
      have hh2 : h = (i + k) / 2 := hh
      obtain ⟨x, hx5⟩ := get_some (l := ms) (i := h) (by omega)
      have hxL := Im.at hl hx5
      have hxo := hok x (List.mem_of_getElem? hx5)
      rw [bsN_lt (by omega), ← hh2, hxL] at hbs
      simp only [Option.map_some, Option.getD_some] at hbs
      refine W_skip (at_then ?_)
      refine W_block ?_
      refine W_rseq ?_
      refine op_move rfl (.int _ _) rfl ?_
      refine op_move rfl (.int _ _) rfl ?_
      refine op_add_i64 rfl rfl rfl (by omega) (by omega) ?_
      refine op_conv_u64 rfl rfl un_3 un_100_TrC (by omega) (by omega) ?_
      refine op_shr_u64 (n := 1) rfl rfl rfl (by omega) ?_
      refine op_conv_i64 rfl rfl un_100_TrC un_3 (by omega) (by omega) ?_
      refine op_assign rfl (.int _ _) rfl ?_
      refine op_nil (at_then ?_)
      rw [← hh]
      refine W_rseq ?_
      refine op_move rfl (.func _ _ _) rfl ?_
      refine op_move rfl (.slice _ _ _) rfl ?_
      refine op_move rfl (.int _ _) rfl ?_
      first | refine op_indexRd R rfl el_114_TrC sz_120_TrC rfl rfl (by omega) (by omega) (by first | rfl | omega) ?_ | refine op_indexAddr rfl el_114_TrC sz_120_TrC rfl rfl (by omega) (by omega) ?_
      first | refine op_ldN _ rfl ag_120_TrC sz_120_TrC rfl rfl ((R.ext0 hx).row hx5 rfl) ?_ | refine op_ldbN rfl ag_120_TrC sz_120_TrC rfl H (by first | exact at0 | exact at1 | exact at2 | exact at3 | exact at4 | exact at5 | exact at6 | exact at7 | exact at8 | exact at9) rfl ?_
      refine op_move rfl (.slice _ _ _) rfl ?_
      refine op_calld rfl rfl ca_126_TrC (placeC_ok (hxo.call hx) ka kc _ key (Rk.ext0 hx) rfl) rfl ?_
      rintro v w2 ⟨rfl, hx30⟩
      refine op_lss rfl rfl rfl ?_
      refine op_nil (at_then ?_)
      refine W_cond _ rfl ?_ ?_
      · intro h2
        replace h2 := dec_t h2
        rw [if_pos h2] at hbs
        refine W_region ?_
        refine op_move rfl (.int _ _) rfl ?_
        refine op_add_i64 rfl rfl rfl (by omega) (by omega) ?_
        refine op_assign rfl (.int _ _) rfl ?_
        refine op_nil (at_block (at_then ?_))
        exact ⟨(h + 1, k), rfl, ⟨rfl, rfl, trivial⟩, ⟨hx.trans hx30, by dsimp only; omega, hk, hbs⟩, by dsimp only; omega⟩
      · intro h2
        replace h2 := dec_f h2
        rw [if_neg (by omega)] at hbs
        refine W_region ?_
        refine op_move rfl (.int _ _) rfl ?_
        refine op_assign rfl (.int _ _) rfl ?_
        refine op_nil (at_block (at_then ?_))
        exact ⟨(i, h), rfl, ⟨rfl, rfl, trivial⟩, ⟨hx.trans hx30, by dsimp only; omega, by dsimp only; omega, hbs⟩, by dsimp only; omega⟩
    · intro h1
      replace h1 := dec_f h1
      rw [bsN_end (by omega)] at hbs
      refine W_exit (exit_then (exit_then (exit_here (at_then ?_))))
      refine W_rseq ?_
      refine op_move rfl (.int _ _) rfl ?_
      refine op_move rfl (.int _ _) rfl ?_
      refine op_move rfl (.int _ _) rfl ?_
      refine op_lss rfl rfl rfl ?_
      refine op_move rfl (.bool _) rfl ?_
      refine Wops_split 39 rfl ?_ ?_
      · intro h2
        replace h2 := dec_t h2
        obtain ⟨x, hx5⟩ := get_some (l := ms) (i := i) (by omega)
        have hxL := Im.at hl hx5
        have hxo := hok x (List.mem_of_getElem? hx5)
        refine op_move rfl (.func _ _ _) rfl ?_
        refine op_move rfl (.slice _ _ _) rfl ?_
        refine op_move rfl (.int _ _) rfl ?_
        first | refine op_indexRd R rfl el_114_TrC sz_120_TrC rfl rfl (by omega) (by omega) (by first | rfl | omega) ?_ | refine op_indexAddr rfl el_114_TrC sz_120_TrC rfl rfl (by omega) (by omega) ?_
        first | refine op_ldN _ rfl ag_120_TrC sz_120_TrC rfl rfl ((R.ext0 hx).row hx5 rfl) ?_ | refine op_ldN _ rfl ag_120_TrC sz_120_TrC rfl rfl ((R.ext0 hx).row hx5 rfl) ?_ | refine op_ldbN rfl ag_120_TrC sz_120_TrC rfl H (by first | exact at0 | exact at1 | exact at2 | exact at3 | exact at4 | exact at5 | exact at6 | exact at7 | exact at8 | exact at9) rfl ?_
        refine op_move rfl (.slice _ _ _) rfl ?_
        refine op_calld rfl rfl ca_126_TrC (placeC_ok (hxo.call hx) ka kc _ key (Rk.ext0 hx) rfl) rfl ?_
        rintro v w2 ⟨rfl, hx46⟩
        refine op_eql rfl rfl rfl ?_
        refine op_pick1 rfl rfl (.bool _) rfl ?_
        refine op_assign rfl (.int _ _) rfl ?_
        refine op_assign rfl (.bool _) rfl ?_
        refine op_nil (at_then ?_)
        refine W_ret (leave2 (v1 := (.int _ _)) (v2 := (.bool _)) rfl rfl rfl rfl ?_)
        refine ⟨?_, hx.trans hx46⟩
        rw [placeB, ← hbs, hxL]
      · intro h2
        replace h2 := dec_f h2
        refine op_skip rfl ?_
        refine op_skip rfl ?_
        refine op_skip rfl ?_
        refine op_skip rfl ?_
        refine op_skip rfl ?_
        refine op_skip rfl ?_
        refine op_skip rfl ?_
        refine op_skip rfl ?_
        refine op_pick0 rfl rfl (.bool _) rfl ?_
        refine op_assign rfl (.int _ _) rfl ?_
        refine op_assign rfl (.bool _) rfl ?_
        refine op_nil (at_then ?_)
        refine W_ret (leave2 (v1 := (.int _ _)) (v2 := (.bool _)) rfl rfl rfl rfl ?_)
        refine ⟨?_, hx⟩
        have hnone : L[i]? = none := List.getElem?_eq_none (by omega)
        rw [placeB, ← hbs, hnone]

theorem place_ok {w : World} {M : Mut} {a : Option Addr} {n c : Nat} {L : List It} (I : Its w M a n c L) (ka : Option Addr) (kc kn : Nat) (key : Byt) (Rk : Rd w ka 1 B8 key) (hk : key.length = kn) (hm : n ≤ 1000000) :
    Ret Tryz.prog 68 #[.slice a n c, .slice ka kn kc] w fun v w' => v = .tuple #[.int .i64 (placeN L key : Int), .bool (placeB L key)] ∧ Ext [] w w' := by
  subst hk
  refine ret_of_W (fn := Tryz.f68) Tryz.func68 rfl [.slice a n c, .slice ka key.length kc] rfl (by kernel_rfl) ?_
  refine W_rseq ?_
  refine op_assign rfl (.int _ _) rfl ?_
  refine op_assign rfl (.bool _) rfl ?_
  refine op_nil (at_then ?_)
  refine W_rseq ?_
  refine op_move rfl (.slice _ _ _) rfl ?_
  refine op_move rfl (.slice _ _ _) rfl ?_
  refine op_call rfl ca_125_TrC (search_ok I ka kc _ key Rk rfl hm) rfl ?_
  rintro v w2 ⟨rfl, hx8⟩
  refine op_extract rfl rfl rfl ?_
  refine op_extract rfl rfl rfl ?_
  refine op_assign rfl (.int _ _) rfl ?_
  refine op_assign rfl (.bool _) rfl ?_
  refine op_nil (at_then ?_)
  refine W_ret (leave2 (v1 := (.int _ _)) (v2 := (.bool _)) rfl rfl rfl rfl ?_)
  exact ⟨rfl, hx8⟩

/-! ### How great -/
theorem size_ok7 {w : World} {M : Mut} (inner : Bool) (a : Option Addr) (n c : Nat) {x : Im} (hx : x.Ok w M) (hk : x.it.key.length ≤ 1000000) (hv : x.it.val.length ≤ 1000000) :
    Ret Tryz.prog 138 #[.agg #[.bool inner, .slice a n c], .agg x.enc.toArray] w fun v w' => v = .int .i64 (sizeI inner x.it : Int) ∧ Ext [] w w' := by
  obtain ⟨w0, rfl⟩ : ∃ w0, w0 = w := ⟨_, rfl⟩
  have H := Ctx.start w0 []
  refine ret_of_W (fn := Tryz.f138) Tryz.func138 rfl [.agg #[.bool inner, .slice a n c], .agg x.enc.toArray] rfl (by kernel_rfl) ?_
  refine W_rseq ?_
  refine op_box rfl [.bool inner, .slice a n c] (.agg _) rfl rfl H ?_
  rintro b2 w - H
  refine op_box rfl x.enc (.agg _) rfl rfl H ?_
  rintro b3 w - H
  refine op_assign rfl (.int _ _) rfl ?_
  refine op_nil (at_then ?_)
  refine W_seq ?_
  refine W_rseq ?_
  refine op_fieldAddr rfl fo_116_0_TrC rfl ?_
  refine op_ldb rfl ag_4 rfl H (by first | exact at0 | exact at1 | exact at2 | exact at3 | exact at4 | exact at5 | exact at6 | exact at7 | exact at8 | exact at9) rfl ?_
  refine op_nil (at_then ?_)
  refine W_cond _ rfl ?_ ?_
  · intro h1
    subst h1
    refine W_rseq ?_
    refine op_fieldAddr rfl fo_120_0_TrC rfl ?_
    refine op_ldb rfl ag_23 rfl H (by first | exact at0 | exact at1 | exact at2 | exact at3 | exact at4 | exact at5 | exact at6 | exact at7 | exact at8 | exact at9) rfl ?_
    refine op_len rfl el_23 rfl ?_
    refine op_add_i64 rfl rfl rfl (by omega) (by omega) ?_
    refine op_assign rfl (.int _ _) rfl ?_
    refine op_nil (at_then ?_)
    refine W_ret (ret_then (leave1 (v := (.int _ _)) rfl rfl rfl ?_))
    exact ⟨rfl, H.ext⟩
  · intro h1
    subst h1
    refine W_skip (at_then ?_)
    refine W_rseq ?_
    refine op_fieldAddr rfl fo_120_0_TrC rfl ?_
    refine op_ldb rfl ag_23 rfl H (by first | exact at0 | exact at1 | exact at2 | exact at3 | exact at4 | exact at5 | exact at6 | exact at7 | exact at8 | exact at9) rfl ?_
    refine op_len rfl el_23 rfl ?_
    refine op_add_i64 rfl rfl rfl (by omega) (by omega) ?_
    refine op_fieldAddr rfl fo_120_1_TrC rfl ?_
    refine op_ldb rfl ag_23 rfl H (by first | exact at0 | exact at1 | exact at2 | exact at3 | exact at4 | exact at5 | exact at6 | exact at7 | exact at8 | exact at9) rfl ?_
    refine op_len rfl el_23 rfl ?_
    refine op_add_i64 rfl rfl rfl (by omega) (by omega) ?_
    refine op_assign rfl (.int _ _) rfl ?_
    refine op_nil (at_then ?_)
    refine W_ret (leave1 (v := (.int _ _)) rfl rfl rfl ?_)
    exact ⟨rfl, H.ext⟩

end Go.Proofs.YtbkadlngijkmmaaGreatDoor

/- Slices of byte strings. -/
namespace Go.Proofs.YtbkadlngijkmmaaGreatDoor
open Go.GV

/-- A slice of byte strings. -/
abbrev SB := Option Addr × Byt × Nat
def encS (x : SB) : List Value := [.slice x.1 x.2.1.length x.2.2]
def RdS (w : World) (x : SB) : Prop := Rd w x.1 1 B8 x.2.1 ∧ x.2.1.length ≤ x.2.2
theorem RdS.ext0 {w w' : World} {x : SB} (h : RdS w x) (hx : Ext [] w w') : RdS w' x := ⟨h.1.ext0 hx, h.2⟩

def kindOf (b : Byt) : UInt8 := bif decide (openE b = 0) then kindB b else 0
def bodyOf (b : Byt) : Byt := bif decide (openE b = 0) then bodyB b else []
theorem bodyOf_le (b : Byt) : (bodyOf b).length ≤ 505 := by
  unfold bodyOf
  cases decide (openE b = 0)
  · exact Nat.zero_le _
  · show (bodyB b).length ≤ 505
    unfold bodyB restB
    rw [List.length_take, List.length_take]; omega

end Go.Proofs.YtbkadlngijkmmaaGreatDoor
