/- Part 11 of the proof. -/
import Derived.Test.YtbkadlngijkmmaaGreatDoorPart10
/- The document's pairs: cut, put, scanned: the walks. -/
namespace Go.Proofs.YtbkadlngijkmmaaGreatDoor
open Go.GV
theorem ag_70_TrFb : aggB Tryz.prog 70 = some true := by kernel_rfl
theorem by_70_TrFb : tbytes Tryz.prog 70 = some 48 := by kernel_rfl
theorem el_28_TrFb : elemT Tryz.prog 28 = some 70 := by kernel_rfl
theorem fo_70_0_TrFb : fieldO Tryz.prog 70 0 = some 0 := by kernel_rfl
theorem pl_70_TrFb : placesB Tryz.prog 70 = some [(0, 1), (1, 1)] := by kernel_rfl
theorem sz_70_TrFb : tsize Tryz.prog 70 = some 2 := by kernel_rfl
theorem zc_70_TrFb : zcells Tryz.prog 70 = some ([.slice none 0 0, .slice none 0 0]) := by kernel_rfl
attribute [local irreducible] Wops W Wq Wt

theorem Prs.of {w0 w : World} {M : Mut} (hM : ∀ x, M x → x < w0.heap.size) {a : Option Addr} {n c : Nat} {full : List Value} {ps : List Im} (H : Ctx w0 [] w (ent a 70 full)) (O : OS a n c 2 full (ps.flatMap encP)) (hok : ∀ m ∈ ps, m.Ok w0 M) {L : List Pr} (hl : ps.map (fun m => prI m.it) = L) : Prs w M a L.length c L := by
  have hn : n = ps.length := O.numN (fun _ _ => rfl) (by decide)
  have hL : L.length = n := by rw [← hl, List.length_map, hn]
  refine ⟨⟨ps, OS.rd O H.blk (fun _ _ => rfl) (by decide), ?_, hl, fun m hm => (hok m hm).call H.ext⟩, rfl, by rw [hL]; exact O.le⟩
  cases ha : a with
  | none =>
    left
    have h8 := O.none' ha; have h9 := O.le
    exact List.eq_nil_of_length_eq_zero (by omega)
  | some q =>
    right
    have h8 := (H.own (q.block, Bl 70 full) (by rw [ha]; exact List.mem_singleton.2 rfl)).elim (fun h => by cases h) id
    obtain ⟨qb, qo, qs⟩ := q
    exact fun h => by have := hM _ h; dsimp only [adr] at this h8; omega
theorem cutP_snoc {A : List Pr} {p : Pr} {k : Byt} : cutP (A ++ [p]) k = cutP A k ++ if p.1 = k then [] else [p] := by
  unfold cutP
  rw [List.filter_append]
  congr 1
  by_cases h : p.1 = k
  · rw [if_pos h, List.filter_cons, decide_eq_true h]; rfl
  · rw [if_neg h, List.filter_cons, decide_eq_false h]; rfl
theorem putP_snoc {A : List Pr} {p : Pr} {k v : Byt} (h : ltB k p.1) : putP (A ++ [p]) k v = putP A k v ++ [p] := by
  unfold putP
  rw [List.filter_append, List.filter_append, List.filter_cons, List.filter_cons, decide_eq_false (ltB_asymm h), decide_eq_true h]
  simp

set_option maxRecDepth 20000 in
set_option maxHeartbeats 4000000 in
theorem rcut7_ok {w : World} {M : Mut} (hM : ∀ x, M x → x < w.heap.size) {a ka : Option Addr} {n c kn kc : Nat} {L : List Pr} {key : Byt} (PL : Prs w M a n c L) (hn : n ≤ 100000000) (Rk : Rd w ka 1 B8 key) (hk : key.length = kn) :
    Ret Tryz.prog 40 #[.slice a n c, .slice ka kn kc] w fun v w' => ∃ a' c', v = .slice a' (cutP L key).length c' ∧ Prs w' M a' (cutP L key).length c' (cutP L key) ∧ Ext [] w w' := by
  subst hk
  obtain ⟨w0, rfl⟩ : ∃ w0, w0 = w := ⟨_, rfl⟩
  obtain ⟨ps, Rp, -, hl, hp⟩ := PL.ex
  have hnL := PL.num
  have hpn : ps.length = n := by rw [hnL, ← hl, List.length_map]
  refine ret_of_W (fn := Tryz.f40) Tryz.func40 rfl [.slice a n c, .slice ka key.length kc] rfl (by kernel_rfl) ?_
  refine W_rseq ?_
  refine op_assign rfl (.slice _ _ _) rfl ?_
  refine op_nil (at_then ?_)
  refine W_rseq ?_
  refine op_assign rfl (.slice _ _ _) rfl ?_
  refine op_nil (at_then ?_)
  refine W_seq ?_
  refine W_rseq ?_
  refine op_assign rfl (.int _ _) rfl ?_
  refine op_nil (at_then ?_)
  refine W_block ?_
  refine W_loop 536870880 (α := Nat × Option Addr × Nat × Nat × List Value × List Im) (fun s => [(6, .int .i64 (s.1 : Int)), (5, .slice s.2.1 s.2.2.1 s.2.2.2.1)]) (fun s w' => s.1 ≤ n ∧ s.2.2.1 ≤ s.1 ∧ Ctx w0 [] w' (ent s.2.1 70 s.2.2.2.2.1) ∧ OS s.2.1 s.2.2.1 s.2.2.2.1 2 s.2.2.2.2.1 (s.2.2.2.2.2.flatMap encP) ∧ s.2.2.2.2.2.map (fun m => prI m.it) = cutP (L.take s.1) key ∧ ∀ m ∈ s.2.2.2.2.2, m.Ok w0 M) (fun s => n - s.1) (0, none, 0, 0, [], []) rfl ?_ ?_ ?_
  · exact ⟨rfl, rfl, trivial⟩
  · exact ⟨Nat.zero_le _, Nat.le_refl _, Ctx.start w0 [], OS.nil, rfl, fun m h => by cases h⟩
  · rintro ⟨i, a5, n5, c5, f5, qs⟩ j w ⟨hi, hn5, H, O, hq, hok⟩; dsimp only at hi hn5 H O hq hok; dsimp only
    refine W_seq ?_
    refine W_rseq ?_
    refine op_move rfl (.int _ _) rfl ?_
    refine op_move rfl (.slice _ _ _) rfl ?_
    refine op_len rfl el_28_TrFb rfl ?_
    refine op_lss rfl rfl rfl ?_
    refine op_nil (at_then ?_)
    refine W_cond _ rfl ?_ ?_
    · intro hB
      replace hB := dec_t hB
      obtain ⟨x, hx1⟩ := get_some (l := ps) (i := i) (by omega)
      have hxo := hp x (List.mem_of_getElem? hx1)
      have hxL : L[i]? = some (prI x.it) := by rw [← hl, List.getElem?_map, hx1]; rfl
      have hxd := H.ext.trans (Ext.drew [] w)
      have hsn := cutP_snoc (A := L.take i) (p := prI x.it) (k := key)
      rw [← take_snoc hxL] at hsn
      refine W_skip (at_then ?_)
      refine W_seq ?_
      refine W_block ?_
      refine W_qseq (fun x => x = _) mixed (by kernel_rfl) rfl ?_
      refine q_move rfl (.slice _ _ _) rfl ?_
      refine q_move rfl (.int _ _) rfl ?_
      first | refine q_indexRd Rp rfl el_28_TrFb sz_70_TrFb rfl rfl (by omega) (by omega) (by first | rfl | omega) ?_ | refine q_indexAddr rfl el_28_TrFb sz_70_TrFb rfl rfl (by omega) (by omega) ?_
      refine q_fieldAddr rfl fo_70_0_TrFb rfl ?_
      first | refine q_ldb rfl ag_23 rfl (by rintro _ rfl; exact H.drew) (by first | exact at0 | exact at1 | exact at2 | exact at3 | exact at4 | exact at5 | exact at6 | exact at7 | exact at8 | exact at9) rfl ?_ | refine q_ld rfl ag_23 rfl (by rintro _ rfl; exact ((Rp.ext0 hxd).fld hx1 rfl (j := 0) rfl)) ?_
      refine q_back (l := x.it.key) rfl el_23 un_5 un_9 rfl (by rintro _ rfl; exact hxo.k.1.ext0 hxd) ?_
      refine q_move rfl (.slice _ _ _) rfl ?_
      refine q_back (l := key) rfl el_23 un_5 un_9 rfl (by rintro _ rfl; exact Rk.ext0 hxd) ?_
      refine q_strne rfl rfl rfl ?_
      refine q_nil ?_
      rintro _ rfl
      replace H := H.drew
      refine W_cond _ rfl ?_ ?_
      · intro hC
        have hC' : x.it.key ≠ key := by simpa using hC
        rw [if_neg (show ¬ (prI x.it).1 = key from hC')] at hsn
        refine W_region ?_
        refine op_move rfl (.slice _ _ _) rfl ?_
        refine op_move rfl (.slice _ _ _) rfl ?_
        refine op_move rfl (.int _ _) rfl ?_
        first | refine op_indexRd Rp rfl el_28_TrFb sz_70_TrFb rfl rfl (by omega) (by omega) (by first | rfl | omega) ?_ | refine op_indexAddr rfl el_28_TrFb sz_70_TrFb rfl rfl (by omega) (by omega) ?_
        first | refine op_ldN _ rfl ag_70_TrFb sz_70_TrFb rfl rfl ((Rp.ext0 H.ext).row hx1 rfl) ?_ | refine op_ldbN rfl ag_70_TrFb sz_70_TrFb rfl H (by first | exact at0 | exact at1 | exact at2 | exact at3 | exact at4 | exact at5 | exact at6 | exact at7 | exact at8 | exact at9) rfl ?_
        refine op_build1 (encP x) (.agg _) rfl el_28_TrFb sz_70_TrFb zc_70_TrFb rfl (by decide) (by decide) rfl rfl rfl H ?_
        rintro b27 w - H
        refine op_appendb (L := []) rfl el_28_TrFb el_28_TrFb sz_70_TrFb by_70_TrFb zc_70_TrFb rfl (by decide) rfl rfl H O rfl (encP_one x) (by omega) ?_
        rintro a28 c28 f28 w H O28
        refine op_assign rfl (.slice _ _ _) rfl ?_
        refine op_nil (at_block (at_then ?_))
        refine W_region ?_
        refine op_move rfl (.int _ _) rfl ?_
        refine op_add_i64 rfl rfl rfl (by omega) (by omega) ?_
        refine op_assign rfl (.int _ _) rfl ?_
        refine op_nil (at_then ?_)
        refine ⟨(i + 1, a28, n5 + 1, c28, f28, qs ++ [x]), rfl, ⟨rfl, rfl, trivial⟩, ⟨by dsimp only; omega, by dsimp only; omega, H, by dsimp only; rw [List.flatMap_append, List.flatMap_singleton]; exact O28, by dsimp only; rw [List.map_append, hq, hsn]; rfl, fun m hm => ?_⟩, by dsimp only; omega⟩
        dsimp only at hm
        rcases List.mem_append.1 hm with hm | hm
        · exact hok m hm
        · rw [List.mem_singleton.1 hm]; exact hxo
      · intro hC
        have hC' : x.it.key = key := by simpa using hC
        rw [if_pos (show (prI x.it).1 = key from hC'), List.append_nil] at hsn
        refine W_skip (at_block (at_then ?_))
        refine W_region ?_
        refine op_move rfl (.int _ _) rfl ?_
        refine op_add_i64 rfl rfl rfl (by omega) (by omega) ?_
        refine op_assign rfl (.int _ _) rfl ?_
        refine op_nil (at_then ?_)
        exact ⟨(i + 1, a5, n5, c5, f5, qs), rfl, ⟨rfl, rfl, trivial⟩, ⟨by dsimp only; omega, by dsimp only; omega, H, O, by dsimp only; rw [hsn]; exact hq, hok⟩, by dsimp only; omega⟩
    · intro hB
      replace hB := dec_f hB
      rw [List.take_of_length_le (by omega)] at hq
      have hl5 : (cutP L key).length = n5 := by rw [← hq, List.length_map]; exact (O.numN (fun _ _ => rfl) (by decide)).symm
      refine W_exit (exit_then (exit_then (exit_here (at_then ?_))))
      refine W_rseq ?_
      refine op_move rfl (.slice _ _ _) rfl ?_
      refine op_assign rfl (.slice _ _ _) rfl ?_
      refine op_nil (at_then ?_)
      refine W_ret (leave1 (v := (.slice _ _ _)) rfl rfl rfl ?_)
      exact ⟨a5, c5, by rw [hl5], Prs.of hM H O hok hq, H.ext⟩

theorem put_step {A : List Pr} {key val : Byt} {p : Pr} {dn : Bool} {out : List Pr} (hrt : Rising (A ++ [p])) (hq0 : dn = false → (∀ q ∈ A, ltB q.1 key) ∧ out = A) (hq1 : dn = true → (∃ q ∈ A, ¬ ltB q.1 key) ∧ out = putP A key val) :
    ((dn || decide (¬ ltB p.1 key)) = false → (∀ q ∈ A ++ [p], ltB q.1 key) ∧ (out ++ if (!dn && decide (¬ ltB p.1 key)) = true then [(key, val)] else []) ++ (if p.1 = key then [] else [p]) = A ++ [p]) ∧
    ((dn || decide (¬ ltB p.1 key)) = true → (∃ q ∈ A ++ [p], ¬ ltB q.1 key) ∧ (out ++ if (!dn && decide (¬ ltB p.1 key)) = true then [(key, val)] else []) ++ (if p.1 = key then [] else [p]) = putP (A ++ [p]) key val) := by
  have hlast := (Rising.append.1 hrt).2.2
  cases dn with
  | true =>
    obtain ⟨⟨q, hq, hqk⟩, rfl⟩ := hq1 rfl
    have hpk : ltB key p.1 := by
      rcases ltB_tri key q.1 with h | h | h
      · exact ltB_trans h (hlast q hq p (by simp))
      · exact h ▸ hlast q hq p (by simp)
      · exact absurd h hqk
    refine ⟨(fun h => by cases h), fun _ => ⟨⟨q, by simp [hq], hqk⟩, ?_⟩⟩
    rw [putP_snoc hpk, if_neg (show ¬ p.1 = key from fun e => ltB_ne hpk e.symm)]
    simp
  | false =>
    obtain ⟨hA, rfl⟩ := hq0 rfl
    by_cases hlt : ltB p.1 key
    · refine ⟨fun _ => ⟨fun q hq => ?_, ?_⟩, (fun h => by simp [hlt] at h)⟩
      · rcases List.mem_append.1 hq with hq | hq
        · exact hA q hq
        · rw [List.mem_singleton.1 hq]; exact hlt
      · rw [if_neg (show ¬ p.1 = key from ltB_ne hlt)]; simp [hlt]
    · refine ⟨(fun h => by simp [hlt] at h), fun _ => ⟨⟨p, by simp, hlt⟩, ?_⟩⟩
      by_cases hpk : p.1 = key
      · obtain ⟨k, u⟩ := p
        dsimp only at hpk
        subst hpk
        rw [putP_at (A := out) (B := []) hA (fun q h => by cases h) (.inr ⟨u, rfl⟩), if_pos rfl]
        simp [hlt]
      · have hgt : ltB key p.1 := by
          rcases ltB_tri key p.1 with h | h | h
          · exact h
          · exact absurd h.symm hpk
          · exact absurd h hlt
        rw [putP_at (A := out) (B := [p]) hA (fun q h => by rw [List.mem_singleton.1 h]; exact hgt) (.inl rfl), if_neg hpk]
        simp [hlt]

set_option maxRecDepth 20000 in
set_option maxHeartbeats 4000000 in
theorem rput7_ok {w : World} {M : Mut} (hM : ∀ x, M x → x < w.heap.size) {a ka va : Option Addr} {n c kn kc vn vc : Nat} {L : List Pr} {key val : Byt} (PL : Prs w M a n c L) (hn : n ≤ 100000000) (Rk : Rdx w M ka key) (hk : key.length = kn) (hkc : kn ≤ kc) (Rv : Rdx w M va val) (hv : val.length = vn) (hvc : vn ≤ vc) (hL : Rising L) :
    Ret Tryz.prog 41 #[.slice a n c, .slice ka kn kc, .slice va vn vc] w fun v w' => ∃ a' c', v = .slice a' (putP L key val).length c' ∧ Prs w' M a' (putP L key val).length c' (putP L key val) ∧ Ext [] w w' := by
  subst hk hv
  obtain ⟨w0, rfl⟩ : ∃ w0, w0 = w := ⟨_, rfl⟩
  obtain ⟨ps, Rp, -, hl, hp⟩ := PL.ex
  have hnL := PL.num
  have hpn : ps.length = n := by rw [hnL, ← hl, List.length_map]
  obtain ⟨z, hz⟩ : ∃ z : Im, z = ⟨ka, kc, va, vc, ⟨key, val, 0⟩⟩ := ⟨_, rfl⟩
  have hzo : z.Ok w0 M := by rw [hz]; exact ⟨Rk, Rv, hkc, hvc⟩
  have hzp : prI z.it = (key, val) := by rw [hz]; rfl
  have hze : encP z = [.slice ka key.length kc, .slice va val.length vc] := by rw [hz]; rfl
  refine ret_of_W (fn := Tryz.f41) Tryz.func41 rfl [.slice a n c, .slice ka key.length kc, .slice va val.length vc] rfl (by kernel_rfl) ?_
  refine W_rseq ?_
  refine op_assign rfl (.slice _ _ _) rfl ?_
  refine op_nil (at_then ?_)
  refine W_rseq ?_
  refine op_assign rfl (.slice _ _ _) rfl ?_
  refine op_nil (at_then ?_)
  refine W_rseq ?_
  refine op_assign rfl (.bool _) rfl ?_
  refine op_nil (at_then ?_)
  refine W_seq ?_
  refine W_rseq ?_
  refine op_assign rfl (.int _ _) rfl ?_
  refine op_nil (at_then ?_)
  refine W_block ?_
  refine W_loop 2251799813685120 (α := Nat × Option Addr × Nat × Nat × List Value × List Im × Bool) (fun s => [(9, .int .i64 (s.1 : Int)), (7, .slice s.2.1 s.2.2.1 s.2.2.2.1), (8, .bool s.2.2.2.2.2.2)]) (fun s w' => s.1 ≤ n ∧ s.2.2.1 ≤ s.1 + 1 ∧ Ctx w0 [] w' (ent s.2.1 70 s.2.2.2.2.1) ∧ OS s.2.1 s.2.2.1 s.2.2.2.1 2 s.2.2.2.2.1 (s.2.2.2.2.2.1.flatMap encP) ∧ (s.2.2.2.2.2.2 = false → (∀ p ∈ L.take s.1, ltB p.1 key) ∧ s.2.2.2.2.2.1.map (fun m => prI m.it) = L.take s.1) ∧ (s.2.2.2.2.2.2 = true → (∃ p ∈ L.take s.1, ¬ ltB p.1 key) ∧ s.2.2.2.2.2.1.map (fun m => prI m.it) = putP (L.take s.1) key val) ∧ ∀ m ∈ s.2.2.2.2.2.1, m.Ok w0 M) (fun s => n - s.1) (0, none, 0, 0, [], [], false) rfl ?_ ?_ ?_
  · exact ⟨rfl, rfl, rfl, trivial⟩
  · exact ⟨Nat.zero_le _, Nat.zero_le _, Ctx.start w0 [], OS.nil, fun _ => ⟨(fun p h => by cases h), rfl⟩, (fun h => by cases h), fun m h => by cases h⟩
  · rintro ⟨i, a5, n5, c5, f5, qs, dn⟩ j w ⟨hi, hn5, H, O, hq0, hq1, hok⟩; dsimp only at hi hn5 H O hq0 hq1 hok; dsimp only
    refine W_seq ?_
    refine W_rseq ?_
    refine op_move rfl (.int _ _) rfl ?_
    refine op_move rfl (.slice _ _ _) rfl ?_
    refine op_len rfl el_28_TrFb rfl ?_
    refine op_lss rfl rfl rfl ?_
    refine op_nil (at_then ?_)
    refine W_cond _ rfl ?_ ?_
    · intro hB
      replace hB := dec_t hB
      obtain ⟨x, hx1⟩ := get_some (l := ps) (i := i) (by omega)
      have hxo := hp x (List.mem_of_getElem? hx1)
      have hxL : L[i]? = some (prI x.it) := by rw [← hl, List.getElem?_map, hx1]; rfl
      have hts := take_snoc hxL
      have hrt : Rising (L.take (i + 1)) := hL.sublist (List.take_sublist _ _)
      rw [hts] at hrt
      have hxd := H.ext.trans (Ext.drew [] w)
      have hcmp : (!decide (cmpB x.it.key key = -1)) = decide (¬ ltB x.it.key key) := by
        by_cases h : cmpB x.it.key key = -1
        · rw [decide_eq_true h, decide_eq_false (fun h2 => h2 h)]; rfl
        · rw [decide_eq_false h, decide_eq_true (show ¬ ltB x.it.key key from h)]; rfl
      refine W_skip (at_then ?_)
      refine W_seq ?_
      refine W_block ?_
      refine W_seq ?_
      refine W_join 536805376 (α := Unit) (fun _ => [(28, .bool (!dn && decide (¬ ltB x.it.key key)))]) (fun _ w' => Ctx w0 [] w' (ent a5 70 f5)) rfl ?_ ?_
      · skip
        refine W_quiet (fun x => x = _) mixed (by kernel_rfl) rfl ?_
        refine q_move rfl (.bool _) rfl ?_
        refine q_not rfl rfl ?_
        refine q_move rfl (.bool _) rfl ?_
        refine Wq_split 18 rfl ?_ ?_
        · intro hC
          replace hC := nvar_t hC
          refine q_move rfl (.slice _ _ _) rfl ?_
          refine q_move rfl (.int _ _) rfl ?_
          first | refine q_indexRd Rp rfl el_28_TrFb sz_70_TrFb rfl rfl (by omega) (by omega) (by first | rfl | omega) ?_ | refine q_indexAddr rfl el_28_TrFb sz_70_TrFb rfl rfl (by omega) (by omega) ?_
          refine q_fieldAddr rfl fo_70_0_TrFb rfl ?_
          first | refine q_ldb rfl ag_23 rfl (by rintro _ rfl; exact H.drew) (by first | exact at0 | exact at1 | exact at2 | exact at3 | exact at4 | exact at5 | exact at6 | exact at7 | exact at8 | exact at9) rfl ?_ | refine q_ld rfl ag_23 rfl (by rintro _ rfl; exact ((Rp.ext0 hxd).fld hx1 rfl (j := 0) rfl)) ?_
          refine q_back (l := x.it.key) rfl el_23 un_5 un_9 rfl (by rintro _ rfl; exact hxo.k.1.ext0 hxd) ?_
          refine q_move rfl (.slice _ _ _) rfl ?_
          refine q_back (l := key) rfl el_23 un_5 un_9 rfl (by rintro _ rfl; exact Rk.1.ext0 hxd) ?_
          refine q_strge rfl rfl rfl ?_
          refine q_pick1 rfl rfl (.bool _) rfl ?_
          refine q_nil ?_
          rintro _ rfl
          replace H := H.drew
          refine at_then ?_
          exact ⟨(), rfl, ⟨congrArg Value.bool (by rw [hC, ← hcmp]; rfl), trivial⟩, H⟩
        · intro hC
          replace hC := nvar_f hC
          refine q_skip rfl ?_
          refine q_skip rfl ?_
          refine q_skip rfl ?_
          refine q_skip rfl ?_
          refine q_skip rfl ?_
          refine q_skip rfl ?_
          refine q_skip rfl ?_
          refine q_skip rfl ?_
          refine q_skip rfl ?_
          refine q_pick0 rfl rfl (.bool _) rfl ?_
          refine q_nil ?_
          rintro _ rfl
          replace H := H.drew
          refine at_then ?_
          exact ⟨(), rfl, ⟨congrArg Value.bool (by rw [hC]; rfl), trivial⟩, H⟩
      · rintro - j28 w H
        refine W_joinK 33822867840 (α := Option Addr × Nat × Nat × List Value × List Im) (fun s => [(7, .slice s.1 s.2.1 s.2.2.1), (8, .bool (dn || decide (¬ ltB x.it.key key)))]) (fun s w' => s.2.1 ≤ i + 1 ∧ Ctx w0 [] w' (ent s.1 70 s.2.2.2.1) ∧ OS s.1 s.2.1 s.2.2.1 2 s.2.2.2.1 (s.2.2.2.2.flatMap encP) ∧ s.2.2.2.2.map (fun m => prI m.it) = (qs.map fun m => prI m.it) ++ (if (!dn && decide (¬ ltB x.it.key key)) = true then [(key, val)] else []) ∧ ∀ m ∈ s.2.2.2.2, m.Ok w0 M) rfl ?_ ?_
        · skip
          refine W_cond _ rfl ?_ ?_
          · intro hD
            have hD2 : dn = false ∧ ¬ ltB x.it.key key := by
              rw [Bool.and_eq_true, decide_eq_true_eq] at hD
              exact ⟨by simpa using hD.1, hD.2⟩
            have hqn : n5 = i := by
              have h1 := O.numN (fun _ _ => rfl) (by decide)
              have h2 := congrArg List.length (hq0 hD2.1).2
              rw [List.length_map, List.length_take] at h2
              omega
            refine W_rseq ?_
            refine op_move rfl (.slice _ _ _) rfl ?_
            refine op_move rfl (.slice _ _ _) rfl ?_
            refine op_move rfl (.slice _ _ _) rfl ?_
            refine op_buildS [.slice ka key.length kc, .slice va val.length vc] rfl pl_70_TrFb zc_70_TrFb (by kernel_rfl) ?_
            refine op_build1 [.slice ka key.length kc, .slice va val.length vc] (.agg _) rfl el_28_TrFb sz_70_TrFb zc_70_TrFb rfl (by decide) (by decide) rfl rfl rfl H ?_
            rintro b33 w - H
            refine op_appendb (L := []) rfl el_28_TrFb el_28_TrFb sz_70_TrFb by_70_TrFb zc_70_TrFb rfl (by decide) rfl rfl H O rfl (by rw [← hze]; exact encP_one z) (by omega) ?_
            rintro a34 c34 f34 w H O34
            refine op_assign rfl (.slice _ _ _) rfl ?_
            refine op_nil (at_then ?_)
            refine W_region ?_
            refine op_assign rfl (.bool _) rfl ?_
            refine op_nil (at_then ?_)
            refine ⟨(a34, n5 + 1, c34, f34, qs ++ [z]), rfl, ⟨rfl, congrArg Value.bool (by rw [hD2.1, decide_eq_true hD2.2]; rfl), trivial⟩, by dsimp only; omega, H, by dsimp only; rw [List.flatMap_append, List.flatMap_singleton, hze]; exact O34, by dsimp only; rw [if_pos hD, List.map_append, List.map_singleton, hzp], fun m hm => ?_⟩
            dsimp only at hm
            rcases List.mem_append.1 hm with hm | hm
            · exact hok m hm
            · rw [List.mem_singleton.1 hm]; exact hzo
          · intro hD
            refine W_skip (at_then ?_)
            exact ⟨(a5, n5, c5, f5, qs), rfl, ⟨rfl, congrArg Value.bool (by cases hdn : dn <;> rw [hdn] at hD <;> simp at hD ⊢; exact hD), trivial⟩, hn5, H, O, by dsimp only; rw [if_neg (by rw [hD]; simp), List.append_nil], hok⟩
        · rintro ⟨a7, n7, c7, f7, q7⟩ j7 w ⟨hn7, H, O7, hq7, hok7⟩; dsimp only at hn7 H O7 hq7 hok7; dsimp only
          have hxd := H.ext.trans (Ext.drew [] w)
          obtain ⟨st0, st1⟩ := put_step (val := val) hrt hq0 hq1
          simp only [show (prI x.it).1 = x.it.key from rfl] at st0 st1
          rw [← hts, ← hq7] at st0 st1
          refine W_qseq (fun x => x = _) mixed (by kernel_rfl) rfl ?_
          refine q_move rfl (.slice _ _ _) rfl ?_
          refine q_move rfl (.int _ _) rfl ?_
          first | refine q_indexRd Rp rfl el_28_TrFb sz_70_TrFb rfl rfl (by omega) (by omega) (by first | rfl | omega) ?_ | refine q_indexAddr rfl el_28_TrFb sz_70_TrFb rfl rfl (by omega) (by omega) ?_
          refine q_fieldAddr rfl fo_70_0_TrFb rfl ?_
          first | refine q_ldb rfl ag_23 rfl (by rintro _ rfl; exact H.drew) (by first | exact at0 | exact at1 | exact at2 | exact at3 | exact at4 | exact at5 | exact at6 | exact at7 | exact at8 | exact at9) rfl ?_ | refine q_ld rfl ag_23 rfl (by rintro _ rfl; exact ((Rp.ext0 hxd).fld hx1 rfl (j := 0) rfl)) ?_
          refine q_back (l := x.it.key) rfl el_23 un_5 un_9 rfl (by rintro _ rfl; exact hxo.k.1.ext0 hxd) ?_
          refine q_move rfl (.slice _ _ _) rfl ?_
          refine q_back (l := key) rfl el_23 un_5 un_9 rfl (by rintro _ rfl; exact Rk.1.ext0 hxd) ?_
          refine q_strne rfl rfl rfl ?_
          refine q_nil ?_
          rintro _ rfl
          replace H := H.drew
          refine W_cond _ rfl ?_ ?_
          · intro hE
            have hE' : x.it.key ≠ key := by simpa using hE
            rw [if_neg hE'] at st0 st1
            refine W_region ?_
            refine op_move rfl (.slice _ _ _) rfl ?_
            refine op_move rfl (.slice _ _ _) rfl ?_
            refine op_move rfl (.int _ _) rfl ?_
            first | refine op_indexRd Rp rfl el_28_TrFb sz_70_TrFb rfl rfl (by omega) (by omega) (by first | rfl | omega) ?_ | refine op_indexAddr rfl el_28_TrFb sz_70_TrFb rfl rfl (by omega) (by omega) ?_
            first | refine op_ldN _ rfl ag_70_TrFb sz_70_TrFb rfl rfl ((Rp.ext0 H.ext).row hx1 rfl) ?_ | refine op_ldbN rfl ag_70_TrFb sz_70_TrFb rfl H (by first | exact at0 | exact at1 | exact at2 | exact at3 | exact at4 | exact at5 | exact at6 | exact at7 | exact at8 | exact at9) rfl ?_
            refine op_build1 (encP x) (.agg _) rfl el_28_TrFb sz_70_TrFb zc_70_TrFb rfl (by decide) (by decide) rfl rfl rfl H ?_
            rintro b49 w - H
            refine op_appendb (L := []) rfl el_28_TrFb el_28_TrFb sz_70_TrFb by_70_TrFb zc_70_TrFb rfl (by decide) rfl rfl H O7 rfl (encP_one x) (by omega) ?_
            rintro a50 c50 f50 w H O50
            refine op_assign rfl (.slice _ _ _) rfl ?_
            refine op_nil (at_block (at_then ?_))
            refine W_region ?_
            refine op_move rfl (.int _ _) rfl ?_
            refine op_add_i64 rfl rfl rfl (by omega) (by omega) ?_
            refine op_assign rfl (.int _ _) rfl ?_
            refine op_nil (at_then ?_)
            refine ⟨(i + 1, a50, n7 + 1, c50, f50, q7 ++ [x], _), rfl, ⟨rfl, rfl, rfl, trivial⟩, ⟨by dsimp only; omega, by dsimp only; omega, H, by dsimp only; rw [List.flatMap_append, List.flatMap_singleton]; exact O50, by dsimp only; rw [List.map_append]; exact st0, by dsimp only; rw [List.map_append]; exact st1, fun m hm => ?_⟩, by dsimp only; omega⟩
            dsimp only at hm
            rcases List.mem_append.1 hm with hm | hm
            · exact hok7 m hm
            · rw [List.mem_singleton.1 hm]; exact hxo
          · intro hE
            have hE' : x.it.key = key := by simpa using hE
            rw [if_pos hE', List.append_nil] at st0 st1
            refine W_skip (at_block (at_then ?_))
            refine W_region ?_
            refine op_move rfl (.int _ _) rfl ?_
            refine op_add_i64 rfl rfl rfl (by omega) (by omega) ?_
            refine op_assign rfl (.int _ _) rfl ?_
            refine op_nil (at_then ?_)
            exact ⟨(i + 1, a7, n7, c7, f7, q7, _), rfl, ⟨rfl, rfl, rfl, trivial⟩, ⟨by dsimp only; omega, by dsimp only; omega, H, O7, st0, st1, hok7⟩, by dsimp only; omega⟩
    · intro hB
      replace hB := dec_f hB
      rw [List.take_of_length_le (show L.length ≤ i by omega)] at hq0 hq1
      refine W_exit (exit_then (exit_then (exit_here (at_then ?_))))
      refine W_seq ?_
      refine W_rseq ?_
      refine op_move rfl (.bool _) rfl ?_
      refine op_not rfl rfl ?_
      refine op_nil (at_then ?_)
      refine W_cond _ rfl ?_ ?_
      · intro hC
        replace hC := nvar_t hC
        have hC' : dn = false := by simpa using hC
        obtain ⟨hlow, hqL⟩ := hq0 hC'
        have hput : putP L key val = L ++ [(key, val)] := putP_at (B := []) hlow (fun q h => by cases h) (.inl (by simp))
        have hq9 : (qs ++ [z]).map (fun m => prI m.it) = putP L key val := by rw [List.map_append, hqL, hput, List.map_singleton, hzp]
        refine W_region ?_
        refine op_move rfl (.slice _ _ _) rfl ?_
        refine op_move rfl (.slice _ _ _) rfl ?_
        refine op_move rfl (.slice _ _ _) rfl ?_
        refine op_buildS [.slice ka key.length kc, .slice va val.length vc] rfl pl_70_TrFb zc_70_TrFb (by kernel_rfl) ?_
        refine op_build1 [.slice ka key.length kc, .slice va val.length vc] (.agg _) rfl el_28_TrFb sz_70_TrFb zc_70_TrFb rfl (by decide) (by decide) rfl rfl rfl H ?_
        rintro b57 w - H
        refine op_appendb (L := []) rfl el_28_TrFb el_28_TrFb sz_70_TrFb by_70_TrFb zc_70_TrFb rfl (by decide) rfl rfl H O rfl (by rw [← hze]; exact encP_one z) (by omega) ?_
        rintro a58 c58 f58 w H O58
        refine op_assign rfl (.slice _ _ _) rfl ?_
        refine op_nil (at_then ?_)
        refine W_rseq ?_
        refine op_move rfl (.slice _ _ _) rfl ?_
        refine op_assign rfl (.slice _ _ _) rfl ?_
        refine op_nil (at_then ?_)
        refine W_ret (leave1 (v := (.slice _ _ _)) rfl rfl rfl ?_)
        have hl5 : (putP L key val).length = n5 + 1 := by
          have h1 := O.numN (fun _ _ => rfl) (by decide)
          rw [← hq9, List.length_map, List.length_append, ← h1]; rfl
        refine ⟨a58, c58, by rw [hl5], Prs.of (ps := qs ++ [z]) hM H (by rw [List.flatMap_append, List.flatMap_singleton, hze]; exact O58) (fun m hm => ?_) hq9, H.ext⟩
        rcases List.mem_append.1 hm with hm | hm
        · exact hok m hm
        · rw [List.mem_singleton.1 hm]; exact hzo
      · intro hC
        replace hC := nvar_f hC
        have hC' : dn = true := by simpa using hC
        obtain ⟨-, hqL⟩ := hq1 hC'
        have hl5 : (putP L key val).length = n5 := by rw [← hqL, List.length_map]; exact (O.numN (fun _ _ => rfl) (by decide)).symm
        refine W_skip (at_then ?_)
        refine W_rseq ?_
        refine op_move rfl (.slice _ _ _) rfl ?_
        refine op_assign rfl (.slice _ _ _) rfl ?_
        refine op_nil (at_then ?_)
        refine W_ret (leave1 (v := (.slice _ _ _)) rfl rfl rfl ?_)
        exact ⟨a5, c5, by rw [hl5], Prs.of hM H O hok hqL, H.ext⟩

end Go.Proofs.YtbkadlngijkmmaaGreatDoor

/- The document's pairs, scanned: the walk. -/
namespace Go.Proofs.YtbkadlngijkmmaaGreatDoor
open Go.GV
theorem ag_70_TrFc : aggB Tryz.prog 70 = some true := by kernel_rfl
theorem by_70_TrFc : tbytes Tryz.prog 70 = some 48 := by kernel_rfl
theorem el_28_TrFc : elemT Tryz.prog 28 = some 70 := by kernel_rfl
theorem fo_70_0_TrFc : fieldO Tryz.prog 70 0 = some 0 := by kernel_rfl
theorem sz_70_TrFc : tsize Tryz.prog 70 = some 2 := by kernel_rfl
theorem zc_70_TrFc : zcells Tryz.prog 70 = some ([.slice none 0 0, .slice none 0 0]) := by kernel_rfl
attribute [local irreducible] Wops W Wq Wt

def inR (kf kt : Byt) (k : Byt) : Bool := !decide (ltB k kf) && (decide (kt.length = 0) || decide (ltB k kt))
def filtP (kf kt : Byt) (L : List Pr) : List Pr := L.filter fun p => inR kf kt p.1
theorem filtP_snoc {kf kt : Byt} {A : List Pr} {p : Pr} : filtP kf kt (A ++ [p]) = filtP kf kt A ++ if inR kf kt p.1 = true then [p] else [] := by
  unfold filtP
  rw [List.filter_append]
  congr 1
  by_cases h : inR kf kt p.1 = true
  · rw [if_pos h, List.filter_cons, h]; rfl
  · rw [if_neg h, List.filter_cons, show inR kf kt p.1 = false by simpa using h]; rfl

set_option maxRecDepth 20000 in
set_option maxHeartbeats 4000000 in
theorem rscan7_ok {w : World} {M : Mut} (hM : ∀ x, M x → x < w.heap.size) {a fa ta : Option Addr} {n c fn' fc tn tc : Nat} {L : List Pr} {kf kt : Byt} (PL : Prs w M a n c L) (hn : n ≤ 100000000) (Rf : Rd w fa 1 B8 kf) (hf : kf.length = fn') (Rt : Rd w ta 1 B8 kt) (ht : kt.length = tn) :
    Ret Tryz.prog 25 #[.slice a n c, .slice fa fn' fc, .slice ta tn tc] w fun v w' => ∃ a' c', v = .slice a' (filtP kf kt L).length c' ∧ Prs w' M a' (filtP kf kt L).length c' (filtP kf kt L) ∧ Ext [] w w' := by
  subst hf ht
  obtain ⟨w0, rfl⟩ : ∃ w0, w0 = w := ⟨_, rfl⟩
  obtain ⟨ps, Rp, -, hl, hp⟩ := PL.ex
  have hnL := PL.num
  have hpn : ps.length = n := by rw [hnL, ← hl, List.length_map]
  refine ret_of_W (fn := Tryz.f25) Tryz.func25 rfl [.slice a n c, .slice fa kf.length fc, .slice ta kt.length tc] rfl (by kernel_rfl) ?_
  refine W_rseq ?_
  refine op_assign rfl (.slice _ _ _) rfl ?_
  refine op_nil (at_then ?_)
  refine W_rseq ?_
  refine op_assign rfl (.slice _ _ _) rfl ?_
  refine op_nil (at_then ?_)
  refine W_seq ?_
  refine W_rseq ?_
  refine op_assign rfl (.int _ _) rfl ?_
  refine op_nil (at_then ?_)
  refine W_block ?_
  refine W_loop 140737488355200 (α := Nat × Option Addr × Nat × Nat × List Value × List Im) (fun s => [(8, .int .i64 (s.1 : Int)), (7, .slice s.2.1 s.2.2.1 s.2.2.2.1)]) (fun s w' => s.1 ≤ n ∧ s.2.2.1 ≤ s.1 ∧ Ctx w0 [] w' (ent s.2.1 70 s.2.2.2.2.1) ∧ OS s.2.1 s.2.2.1 s.2.2.2.1 2 s.2.2.2.2.1 (s.2.2.2.2.2.flatMap encP) ∧ s.2.2.2.2.2.map (fun m => prI m.it) = filtP kf kt (L.take s.1) ∧ ∀ m ∈ s.2.2.2.2.2, m.Ok w0 M) (fun s => n - s.1) (0, none, 0, 0, [], []) rfl ?_ ?_ ?_
  · exact ⟨rfl, rfl, trivial⟩
  · exact ⟨Nat.zero_le _, Nat.le_refl _, Ctx.start w0 [], OS.nil, rfl, fun m h => by cases h⟩
  · rintro ⟨i, a5, n5, c5, f5, qs⟩ j w ⟨hi, hn5, H, O, hq, hok⟩; dsimp only at hi hn5 H O hq hok; dsimp only
    refine W_seq ?_
    refine W_rseq ?_
    refine op_move rfl (.int _ _) rfl ?_
    refine op_move rfl (.slice _ _ _) rfl ?_
    refine op_len rfl el_28_TrFc rfl ?_
    refine op_lss rfl rfl rfl ?_
    refine op_nil (at_then ?_)
    refine W_cond _ rfl ?_ ?_
    · intro hB
      replace hB := dec_t hB
      obtain ⟨x, hx1⟩ := get_some (l := ps) (i := i) (by omega)
      have hxo := hp x (List.mem_of_getElem? hx1)
      have hxL : L[i]? = some (prI x.it) := by rw [← hl, List.getElem?_map, hx1]; rfl
      have hxd := H.ext.trans (Ext.drew [] w)
      have hsn := filtP_snoc (kf := kf) (kt := kt) (A := L.take i) (p := prI x.it)
      rw [← take_snoc hxL] at hsn
      simp only [show (prI x.it).1 = x.it.key from rfl] at hsn
      refine W_skip (at_then ?_)
      refine W_seq ?_
      refine W_block ?_
      refine W_join 1099511595008 (α := Unit) (fun _ => [(39, .bool (inR kf kt x.it.key))]) (fun _ w' => Ctx w0 [] w' (ent a5 70 f5)) rfl ?_ ?_
      · skip
        refine W_quiet (fun x => x = _) mixed (by kernel_rfl) rfl ?_
        refine q_move rfl (.slice _ _ _) rfl ?_
        refine q_move rfl (.int _ _) rfl ?_
        first | refine q_indexRd Rp rfl el_28_TrFc sz_70_TrFc rfl rfl (by omega) (by omega) (by first | rfl | omega) ?_ | refine q_indexAddr rfl el_28_TrFc sz_70_TrFc rfl rfl (by omega) (by omega) ?_
        refine q_fieldAddr rfl fo_70_0_TrFc rfl ?_
        first | refine q_ldb rfl ag_23 rfl (by rintro _ rfl; exact H.drew) (by first | exact at0 | exact at1 | exact at2 | exact at3 | exact at4 | exact at5 | exact at6 | exact at7 | exact at8 | exact at9) rfl ?_ | refine q_ld rfl ag_23 rfl (by rintro _ rfl; exact ((Rp.ext0 hxd).fld hx1 rfl (j := 0) rfl)) ?_
        refine q_back (l := x.it.key) rfl el_23 un_5 un_9 rfl (by rintro _ rfl; exact hxo.k.1.ext0 hxd) ?_
        refine q_move rfl (.slice _ _ _) rfl ?_
        refine q_back (l := kf) rfl el_23 un_5 un_9 rfl (by rintro _ rfl; exact Rf.ext0 hxd) ?_
        refine q_strge rfl rfl rfl ?_
        refine q_move rfl (.bool _) rfl ?_
        refine Wq_split 24 rfl ?_ ?_
        · intro hC
          refine q_move rfl (.slice _ _ _) rfl ?_
          refine q_len rfl el_23 rfl ?_
          refine q_eql rfl rfl rfl ?_
          refine q_move rfl (.bool _) rfl ?_
          refine Wq_split 28 rfl ?_ ?_
          · intro hD
            replace hD := dec_t hD
            refine q_skip rfl ?_
            refine q_skip rfl ?_
            refine q_skip rfl ?_
            refine q_skip rfl ?_
            refine q_skip rfl ?_
            refine q_skip rfl ?_
            refine q_skip rfl ?_
            refine q_skip rfl ?_
            refine q_skip rfl ?_
            refine q_pick1 rfl rfl (.bool _) rfl ?_
            refine q_pick1 rfl rfl (.bool _) rfl ?_
            refine q_nil ?_
            rintro _ rfl
            replace H := H.drew
            refine at_then ?_
            exact ⟨(), rfl, ⟨congrArg Value.bool (by unfold inR; rw [show (!decide (ltB x.it.key kf)) = true from hC, decide_eq_true (show kt.length = 0 by omega)]; rfl), trivial⟩, H⟩
          · intro hD
            replace hD := dec_f hD
            refine q_move rfl (.slice _ _ _) rfl ?_
            refine q_move rfl (.int _ _) rfl ?_
            first | refine q_indexRd Rp rfl el_28_TrFc sz_70_TrFc rfl rfl (by omega) (by omega) (by first | rfl | omega) ?_ | refine q_indexAddr rfl el_28_TrFc sz_70_TrFc rfl rfl (by omega) (by omega) ?_
            refine q_fieldAddr rfl fo_70_0_TrFc rfl ?_
            first | refine q_ldb rfl ag_23 rfl (by rintro _ rfl; exact H.drew) (by first | exact at0 | exact at1 | exact at2 | exact at3 | exact at4 | exact at5 | exact at6 | exact at7 | exact at8 | exact at9) rfl ?_ | refine q_ld rfl ag_23 rfl (by rintro _ rfl; exact ((Rp.ext0 hxd).fld hx1 rfl (j := 0) rfl)) ?_
            refine q_back (l := x.it.key) rfl el_23 un_5 un_9 rfl (by rintro _ rfl; exact hxo.k.1.ext0 hxd) ?_
            refine q_move rfl (.slice _ _ _) rfl ?_
            refine q_back (l := kt) rfl el_23 un_5 un_9 rfl (by rintro _ rfl; exact Rt.ext0 hxd) ?_
            refine q_strlt rfl rfl rfl ?_
            refine q_pick0 rfl rfl (.bool _) rfl ?_
            refine q_pick1 rfl rfl (.bool _) rfl ?_
            refine q_nil ?_
            rintro _ rfl
            replace H := H.drew
            refine at_then ?_
            exact ⟨(), rfl, ⟨congrArg Value.bool (by unfold inR; rw [show (!decide (ltB x.it.key kf)) = true from hC, decide_eq_false (show ¬ kt.length = 0 by omega)]; rfl), trivial⟩, H⟩
        · intro hC
          refine q_skip rfl ?_
          refine q_skip rfl ?_
          refine q_skip rfl ?_
          refine q_skip rfl ?_
          refine q_skip rfl ?_
          refine q_skip rfl ?_
          refine q_skip rfl ?_
          refine q_skip rfl ?_
          refine q_skip rfl ?_
          refine q_skip rfl ?_
          refine q_skip rfl ?_
          refine q_skip rfl ?_
          refine q_skip rfl ?_
          refine q_skip rfl ?_
          refine q_pick0 rfl rfl (.bool _) rfl ?_
          refine q_nil ?_
          rintro _ rfl
          replace H := H.drew
          refine at_then ?_
          exact ⟨(), rfl, ⟨congrArg Value.bool (by unfold inR; rw [show (!decide (ltB x.it.key kf)) = false from hC]; rfl), trivial⟩, H⟩
      · rintro - j28 w H
        refine W_cond _ rfl ?_ ?_
        · intro hE
          rw [if_pos hE] at hsn
          refine W_region ?_
          refine op_move rfl (.slice _ _ _) rfl ?_
          refine op_move rfl (.slice _ _ _) rfl ?_
          refine op_move rfl (.int _ _) rfl ?_
          first | refine op_indexRd Rp rfl el_28_TrFc sz_70_TrFc rfl rfl (by omega) (by omega) (by first | rfl | omega) ?_ | refine op_indexAddr rfl el_28_TrFc sz_70_TrFc rfl rfl (by omega) (by omega) ?_
          first | refine op_ldN _ rfl ag_70_TrFc sz_70_TrFc rfl rfl ((Rp.ext0 H.ext).row hx1 rfl) ?_ | refine op_ldbN rfl ag_70_TrFc sz_70_TrFc rfl H (by first | exact at0 | exact at1 | exact at2 | exact at3 | exact at4 | exact at5 | exact at6 | exact at7 | exact at8 | exact at9) rfl ?_
          refine op_build1 (encP x) (.agg _) rfl el_28_TrFc sz_70_TrFc zc_70_TrFc rfl (by decide) (by decide) rfl rfl rfl H ?_
          rintro b27 w - H
          refine op_appendb (L := []) rfl el_28_TrFc el_28_TrFc sz_70_TrFc by_70_TrFc zc_70_TrFc rfl (by decide) rfl rfl H O rfl (encP_one x) (by omega) ?_
          rintro a28 c28 f28 w H O28
          refine op_assign rfl (.slice _ _ _) rfl ?_
          refine op_nil (at_block (at_then ?_))
          refine W_region ?_
          refine op_move rfl (.int _ _) rfl ?_
          refine op_add_i64 rfl rfl rfl (by omega) (by omega) ?_
          refine op_assign rfl (.int _ _) rfl ?_
          refine op_nil (at_then ?_)
          refine ⟨(i + 1, a28, n5 + 1, c28, f28, qs ++ [x]), rfl, ⟨rfl, rfl, trivial⟩, ⟨by dsimp only; omega, by dsimp only; omega, H, by dsimp only; rw [List.flatMap_append, List.flatMap_singleton]; exact O28, by dsimp only; rw [List.map_append, hq, hsn]; rfl, fun m hm => ?_⟩, by dsimp only; omega⟩
          dsimp only at hm
          rcases List.mem_append.1 hm with hm | hm
          · exact hok m hm
          · rw [List.mem_singleton.1 hm]; exact hxo
        · intro hE
          rw [if_neg (by rw [hE]; simp), List.append_nil] at hsn
          refine W_skip (at_block (at_then ?_))
          refine W_region ?_
          refine op_move rfl (.int _ _) rfl ?_
          refine op_add_i64 rfl rfl rfl (by omega) (by omega) ?_
          refine op_assign rfl (.int _ _) rfl ?_
          refine op_nil (at_then ?_)
          exact ⟨(i + 1, a5, n5, c5, f5, qs), rfl, ⟨rfl, rfl, trivial⟩, ⟨by dsimp only; omega, by dsimp only; omega, H, O, by dsimp only; rw [hsn]; exact hq, hok⟩, by dsimp only; omega⟩
    · intro hB
      replace hB := dec_f hB
      rw [List.take_of_length_le (by omega)] at hq
      have hl5 : (filtP kf kt L).length = n5 := by rw [← hq, List.length_map]; exact (O.numN (fun _ _ => rfl) (by decide)).symm
      refine W_exit (exit_then (exit_then (exit_here (at_then ?_))))
      refine W_rseq ?_
      refine op_move rfl (.slice _ _ _) rfl ?_
      refine op_assign rfl (.slice _ _ _) rfl ?_
      refine op_nil (at_then ?_)
      refine W_ret (leave1 (v := (.slice _ _ _)) rfl rfl rfl ?_)
      exact ⟨a5, c5, by rw [hl5], Prs.of hM H O hok hq, H.ext⟩

end Go.Proofs.YtbkadlngijkmmaaGreatDoor

/- A tree is made; a desk is opened: the walks. -/
namespace Go.Proofs.YtbkadlngijkmmaaGreatDoor
open Go.GV
theorem ca_30_TrG1 : callable Tryz.prog 30 = true := by kernel_rfl
theorem ca_31_TrG1 : callable Tryz.prog 31 = true := by kernel_rfl
theorem ca_32_TrG1 : callable Tryz.prog 32 = true := by kernel_rfl
theorem ca_69_TrG1 : callable Tryz.prog 69 = true := by kernel_rfl
theorem ca_81_TrG1 : callable Tryz.prog 81 = true := by kernel_rfl
theorem pl_146_TrG1 : placesB Tryz.prog 146 = some [(0, 1), (1, 1), (2, 1)] := by kernel_rfl
theorem pl_36_TrG1 : placesB Tryz.prog 36 = some [(0, 1), (1, 1), (2, 1)] := by kernel_rfl
theorem un_33_TrG1 : Tryz.prog.underlying 33 = some (.pointer 111) := by kernel_rfl
theorem un_34_TrG1 : Tryz.prog.underlying 34 = some (.pointer 146) := by kernel_rfl
theorem zc_146_TrG1 : zcells Tryz.prog 146 = some ([.pointer none, .pointer none, .int .i64 0]) := by kernel_rfl
theorem zc_36_TrG1 : zcells Tryz.prog 36 = some ([.pointer none, .pointer none, .pointer none]) := by kernel_rfl
attribute [local irreducible] Wops W Wq Wt

set_option maxRecDepth 20000 in
set_option maxHeartbeats 4000000 in
theorem tnew_ok {w : World} {bd bp ba : Nat} {A : Dev} {F : Nat → Prop} {P : List Nat} (hD : DevAt w bd A F) (hP : PgAt w bp ba P) (frm : Int) (_ : -9223372036854775808 ≤ frm) (_ : frm ≤ 9223372036854775807) :
    Ret Tryz.prog 32 #[ptr bd, ptr bp, .int .i64 frm] w fun v w' => Ext [] w w' ∧ ((frm < 0 ∨ (A.B.length : Int) - (P.length : Int) < frm) ∧ v = .tuple #[.pointer none, .int .i64 1] ∨ (¬ (frm < 0 ∨ (A.B.length : Int) - (P.length : Int) < frm) ∧ ∃ bt, v = .tuple #[ptr bt, .int .i64 0] ∧ w'.heap[bt]? = some (Bl TT [ptr bd, ptr bp, .int .i64 frm]) ∧ w.heap.size ≤ bt)) := by
  obtain ⟨w0, rfl⟩ : ∃ w0, w0 = w := ⟨_, rfl⟩
  have hlen := hP.len
  obtain ⟨role, bs, bm, sv, m, o, D, hF⟩ := hD
  have hwf := D.wf.hi
  have H := Ctx.start w0 []
  refine ret_of_W (fn := Tryz.f32) Tryz.func32 rfl [.pointer (some ⟨bd, 0, none⟩), .pointer (some ⟨bp, 0, none⟩), .int .i64 frm] rfl (by kernel_rfl) ?_
  refine W_rseq ?_
  refine op_assign rfl (.pointer _) rfl ?_
  refine op_assign rfl (.int _ _) rfl ?_
  refine op_nil (at_then ?_)
  refine W_seq ?_
  refine W_block ?_
  refine W_rseq ?_
  refine op_move rfl (.pointer _) rfl ?_
  refine op_eqlptr rfl un_32 rfl ?_
  refine op_move rfl (.bool _) rfl ?_
  refine op_move rfl (.pointer _) rfl ?_
  refine op_eqlptr rfl un_33_TrG1 rfl ?_
  refine op_pick0 rfl rfl (.bool _) rfl ?_
  refine op_assign rfl (.bool _) rfl ?_
  refine op_nil (at_then ?_)
  refine W_cond0 rfl ?_
  refine W_rseq (Wops_join (α := Unit) 134184960 (fun _ => [(15, .bool (decide (frm < 0) || decide ((A.B.length : Int) - (P.length : Int) < frm)))]) (fun _ w' => w0 = w') rfl ?_ ?_)
  · refine op_move rfl (.int _ _) rfl ?_
    refine op_lss rfl rfl rfl ?_
    refine op_move rfl (.bool _) rfl ?_
    refine Wops_split 18 rfl ?_ ?_
    · intro h1
      replace h1 := dec_t h1
      refine op_skip rfl ?_
      refine op_skip rfl ?_
      refine op_skip rfl ?_
      refine op_skip rfl ?_
      refine op_skip rfl ?_
      refine op_skip rfl ?_
      refine op_skip rfl ?_
      refine op_pick1 rfl rfl (.bool _) rfl ?_
      refine op_assign rfl (.bool _) rfl ?_
      refine op_nil ?_
      exact ⟨rfl, (), rfl, ⟨congrArg Value.bool (by (first | rw [decide_eq_true h1] | rw [decide_eq_false h2]); rfl), trivial⟩, rfl⟩
    · intro h2
      replace h2 := dec_f h2
      refine op_move rfl (.int _ _) rfl ?_
      refine op_move rfl (.pointer _) rfl ?_
      refine op_call rfl ca_81_TrG1 (dsize_ok D.hd) rfl ?_
      rintro v w ⟨rfl, rfl⟩
      refine op_move rfl (.pointer _) rfl ?_
      refine op_call rfl ca_69_TrG1 (psize_ok hP) rfl ?_
      rintro v w ⟨rfl, rfl⟩
      refine op_sub_i64 rfl rfl rfl (by omega) (by omega) ?_
      refine op_gtr rfl rfl rfl ?_
      refine op_pick0 rfl rfl (.bool _) rfl ?_
      refine op_assign rfl (.bool _) rfl ?_
      refine op_nil ?_
      exact ⟨rfl, (), rfl, ⟨congrArg Value.bool (by (first | rw [decide_eq_true h1] | rw [decide_eq_false h2]); rfl), trivial⟩, rfl⟩
  rintro - j15 w rfl
  refine W_cond _ rfl ?_ ?_
  · intro hA
    refine W_rseq ?_
    refine op_assign rfl (.pointer _) rfl ?_
    refine op_assign rfl (.int _ _) rfl ?_
    refine op_nil (at_then ?_)
    refine W_ret (ret_block (ret_then (leave2 (v1 := (.pointer _)) (v2 := (.int _ _)) rfl rfl rfl rfl ?_)))
    exact ⟨.refl _ _, .inl ⟨by simpa using hA, rfl⟩⟩
  · intro hA
    refine W_skip (at_block (at_then ?_))
    refine W_rseq ?_
    refine op_move rfl (.pointer _) rfl ?_
    refine op_move rfl (.pointer _) rfl ?_
    refine op_move rfl (.int _ _) rfl ?_
    refine op_buildS [ptr bd, ptr bp, .int .i64 frm] rfl pl_146_TrG1 zc_146_TrG1 (by kernel_rfl) ?_
    refine op_box rfl [ptr bd, ptr bp, .int .i64 frm] (.agg _) rfl rfl H ?_
    rintro bt w - H
    refine op_assign rfl (.pointer _) rfl ?_
    refine op_assign rfl (.int _ _) rfl ?_
    refine op_nil (at_then ?_)
    refine W_ret (leave2 (v1 := (.pointer _)) (v2 := (.int _ _)) rfl rfl rfl rfl ?_)
    refine ⟨H.ext, .inr ⟨fun h => ?_, bt, rfl, H.get at0, (H.own _ (List.mem_cons_self ..)).elim (fun h => by cases h) id⟩⟩
    have h6 : (decide (frm < 0) || decide ((A.B.length : Int) - (P.length : Int) < frm)) = true := by simpa using h
    rw [hA] at h6; cases h6
/-- A desk of a tree. -/
structure Dk (w : World) (bx bt bd bp ba : Nat) (A : Dev) (P : List Nat) (F : Mut) : Prop where
  dk : w.heap[bx]? = some (Bl 36 [ptr bd, ptr bp, ptr bt])
  T : Tx w bt bd bp ba 10 A P F []
  nx : ¬ TM F ba bt bp [] bx
theorem newd_of {n : Nat} (h1 : 1 ≤ n) (h2 : n ≤ 2000) {v : Value} {w w1 : World} (h : (newE (10 + (n : Int)) = 1 ∧ v = .tuple #[.pointer none, .int .i64 1]) ∨ (newE (10 + (n : Int)) = 0 ∧ 1 ≤ 10 + (n : Int) ∧ 10 + (n : Int) ≤ 4096 ∧ ∃ bd, v = .tuple #[ptr bd, .int .i64 0] ∧ DevAt w1 bd (newD (10 + (n : Int)).toNat) fun x => w.heap.size ≤ x ∧ x < w1.heap.size)) :
    ∃ bd, v = .tuple #[ptr bd, .int .i64 0] ∧ DevAt w1 bd (newD (10 + n)) fun x => w.heap.size ≤ x ∧ x < w1.heap.size := by
  rcases h with ⟨h, _⟩ | ⟨_, _, _, bd, hv, hD⟩
  · unfold newE at h
    rw [decide_eq_false (by omega), decide_eq_false (by omega)] at h
    cases h
  · rw [show (10 + (n : Int)).toNat = 10 + n by omega] at hD
    exact ⟨bd, hv, hD⟩
theorem tnew_of {a p : Nat} {frm : Int} {v : Value} {w w1 : World} {bd bp : Nat} (hn : ¬ (frm < 0 ∨ (a : Int) - (p : Int) < frm)) (h : ((frm < 0 ∨ (a : Int) - (p : Int) < frm) ∧ v = .tuple #[.pointer none, .int .i64 1]) ∨ (¬ (frm < 0 ∨ (a : Int) - (p : Int) < frm) ∧ ∃ bt, v = .tuple #[ptr bt, .int .i64 0] ∧ w1.heap[bt]? = some (Bl TT [ptr bd, ptr bp, .int .i64 frm]) ∧ w.heap.size ≤ bt)) :
    ∃ bt, v = .tuple #[ptr bt, .int .i64 0] ∧ w1.heap[bt]? = some (Bl TT [ptr bd, ptr bp, .int .i64 frm]) ∧ w.heap.size ≤ bt := h.elim (fun h => absurd h.1 hn) And.right
theorem newD_len (n : Nat) : (newD n).B.length = n := List.length_replicate ..

set_option maxRecDepth 20000 in
set_option maxHeartbeats 4000000 in
theorem opened_ok (n : Nat) (h1 : 1 ≤ n) (h2 : n ≤ 2000) (w : World) : Ret Tryz.prog 14 #[.int .i64 (n : Int)] w fun v w' => ∃ bx bt bd bp ba F, v = ptr bx ∧ Dk w' bx bt bd bp ba (newD (10 + n)) (List.replicate n 0) F ∧ Ext [] w w' ∧ (∀ x, TM F ba bt bp [] x → w.heap.size ≤ x) ∧ w.heap.size ≤ bx := by
  obtain ⟨w0, rfl⟩ : ∃ w0, w0 = w := ⟨_, rfl⟩
  refine ret_of_W (fn := Tryz.f14) Tryz.func14 rfl [.int .i64 (n : Int)] rfl (by kernel_rfl) ?_
  refine W_rseq ?_
  refine op_assign rfl (.pointer _) rfl ?_
  refine op_nil (at_then ?_)
  refine W_rseq ?_
  refine op_move rfl (.int _ _) rfl ?_
  refine op_add_i64 rfl rfl rfl (by omega) (by omega) ?_
  refine op_call rfl ca_30_TrG1 (dnew_ok (10 + (n : Int)) w0) rfl ?_
  rintro v w1 ⟨hx1, hd⟩
  obtain ⟨bd, rfl, DA⟩ := newd_of (n := n) h1 h2 hd
  refine op_move rfl (.tuple _) rfl ?_
  refine op_extract rfl rfl rfl ?_
  refine op_extract rfl rfl rfl ?_
  refine op_assign rfl (.pointer _) rfl ?_
  refine op_assign rfl (.int _ _) rfl ?_
  refine op_nil (at_then ?_)
  refine W_rseq ?_
  refine op_move rfl (.int _ _) rfl ?_
  refine op_call rfl ca_31_TrG1 (pnew_ok n h1 (by omega) w1) rfl ?_
  rintro v w2 ⟨bp, ba, rfl, PA, hx2, hbp, hba⟩
  have DA2 := DA.keep0 hx2
  refine op_move rfl (.tuple _) rfl ?_
  refine op_extract rfl rfl rfl ?_
  refine op_extract rfl rfl rfl ?_
  refine op_assign rfl (.pointer _) rfl ?_
  refine op_assign rfl (.int _ _) rfl ?_
  refine op_nil (at_then ?_)
  refine W_seq ?_
  refine W_rseq ?_
  refine op_move rfl (.int _ _) rfl ?_
  refine op_neq rfl rfl rfl ?_
  refine op_move rfl (.bool _) rfl ?_
  refine op_move rfl (.int _ _) rfl ?_
  refine op_neq rfl rfl rfl ?_
  refine op_pick0 rfl rfl (.bool _) rfl ?_
  refine op_move rfl (.bool _) rfl ?_
  refine op_move rfl (.pointer _) rfl ?_
  refine op_eqlptr rfl un_32 rfl ?_
  refine op_pick0 rfl rfl (.bool _) rfl ?_
  refine op_move rfl (.bool _) rfl ?_
  refine op_move rfl (.pointer _) rfl ?_
  refine op_eqlptr rfl un_33_TrG1 rfl ?_
  refine op_pick0 rfl rfl (.bool _) rfl ?_
  refine op_nil (at_then ?_)
  refine W_cond0 rfl ?_
  refine W_skip (at_then ?_)
  refine W_rseq ?_
  refine op_move rfl (.pointer _) rfl ?_
  refine op_move rfl (.pointer _) rfl ?_
  refine op_call rfl ca_32_TrG1 (tnew_ok DA2 PA 10 (by omega) (by omega)) rfl ?_
  rintro v w3 ⟨hx3, hv⟩
  obtain ⟨bt, rfl, hbt, hbn⟩ := tnew_of (by rw [newD_len, List.length_replicate]; omega) hv
  have H := Ctx.start w3 []
  refine op_move rfl (.tuple _) rfl ?_
  refine op_extract rfl rfl rfl ?_
  refine op_extract rfl rfl rfl ?_
  refine op_assign rfl (.pointer _) rfl ?_
  refine op_assign rfl (.int _ _) rfl ?_
  refine op_nil (at_then ?_)
  refine W_seq ?_
  refine W_rseq ?_
  refine op_move rfl (.int _ _) rfl ?_
  refine op_neq rfl rfl rfl ?_
  refine op_move rfl (.bool _) rfl ?_
  refine op_move rfl (.pointer _) rfl ?_
  refine op_eqlptr rfl un_34_TrG1 rfl ?_
  refine op_pick0 rfl rfl (.bool _) rfl ?_
  refine op_nil (at_then ?_)
  refine W_cond0 rfl ?_
  refine W_skip (at_then ?_)
  refine W_rseq ?_
  refine op_move rfl (.pointer _) rfl ?_
  refine op_move rfl (.pointer _) rfl ?_
  refine op_move rfl (.pointer _) rfl ?_
  refine op_buildS [ptr bd, ptr bp, ptr bt] rfl pl_36_TrG1 zc_36_TrG1 (by kernel_rfl) ?_
  refine op_box rfl [ptr bd, ptr bp, ptr bt] (.agg _) rfl rfl H ?_
  rintro bx w - H
  refine op_assign rfl (.pointer _) rfl ?_
  refine op_nil (at_then ?_)
  refine W_ret (leave1 (v := (.pointer _)) rfl rfl rfl ?_)
  have hxw := H.ext
  have s1 := hx1.size
  have s2 := hx2.size
  have s3 := hx3.size
  have hbp2 := heap_lt PA.hd
  have hba2 := heap_lt PA.st
  have hbt3 := heap_lt hbt
  have hbxn : w3.heap.size ≤ bx := (H.own _ (List.mem_cons_self ..)).elim (fun h => by cases h) id
  have hx2w := hx3.trans hxw
  refine ⟨bx, bt, bd, bp, ba, fun x => w0.heap.size ≤ x ∧ x < w1.heap.size, rfl, ⟨H.get at0, ⟨?_, PA.keep hx2w (by simp) (by simp), DA2.keep0 hx2w, (fun x h => by cases h), List.Pairwise.nil, (fun x h => by cases h), ⟨fun h => by omega, ?_⟩, fun h => by omega, fun h => by omega, fun x h => by have := hxw.size; omega⟩, fun h => ?_⟩, hx1.trans (hx2.trans hx2w), fun x h => ?_, by omega⟩
  · rw [hxw.block bt hbt3 (by simp)]; exact hbt
  · omega
  · rcases h with h | h | h | h | h
    · omega
    · omega
    · omega
    · omega
    · cases h
  · rcases h with h | h | h | h | h
    · omega
    · omega
    · omega
    · omega
    · cases h

end Go.Proofs.YtbkadlngijkmmaaGreatDoor

/- Plain law of the tree: what is scanned, what is walked. -/
namespace Go.Proofs.YtbkadlngijkmmaaGreatDoor
open Go.GV

theorem gathL_leaf (kf : Byt) (L : List Pr) : gathL kf false (L.map leafI) = L.filter fun p => !decide (ltB p.1 kf) := by
  unfold gathL
  rw [if_neg (by simp)]
  induction L with
  | nil => rfl
  | cons p L ih =>
    have hd : decide (0 ≤ cmpB p.1 kf) = !decide (ltB p.1 kf) := by
      by_cases h : ltB p.1 kf
      · rw [decide_eq_true h, decide_eq_false (fun h2 => cmpB_ge.1 h2 h)]; rfl
      · rw [decide_eq_false h, decide_eq_true (cmpB_ge.2 h)]; rfl
    rw [List.map_cons, List.filter_cons, List.filter_cons, show (leafI p).key = p.1 from rfl, hd]
    by_cases h : (!decide (ltB p.1 kf)) = true
    · rw [if_pos h, if_pos h, List.map_cons, ih]; rfl
    · rw [if_neg h, if_neg h, ih]
theorem gathG_app (kf : Byt) (a b : List Nd) : gathG kf (a ++ b) = gathG kf a ++ gathG kf b := List.flatMap_append
theorem each_spec {fr sz : Nat} {A : Dev} (hon : A.on = true) (hl : fr + sz ≤ A.B.length) : ∀ (h n p d : Nat) (L : List Pr) (S : List Nat), Lies (RD A fr) h p L S → (∀ x ∈ S, x < sz) → sz ≤ 4096 → d + h ≤ 16 → h < n →
    (eachG A fr sz n (p : Int) d).1 = 0 ∧ (eachG A fr sz n (p : Int) d).2.map (·.1) = S.map (fun x : Nat => (x : Int)) ∧ ∀ kf, gathG kf (eachG A fr sz n (p : Int) d).2 = L.filter fun p => !decide (ltB p.1 kf)
  | 0, n + 1, p, d, L, S, hL, hs, hz, hd, hn => by
    have hp := hs p hL.page
    obtain ⟨i, M, S', ⟨rfl, rfl, rfl⟩, h2, rfl, h4, h5⟩ := hL
    have hrd := readT_of hon hp hl (show d ≤ 16 by omega) h2
    unfold eachG
    rw [hrd]
    refine ⟨rfl, rfl, fun kf => ?_⟩
    show gathL kf false (L.map leafI) ++ [] = _
    rw [List.append_nil, gathL_leaf]
  | h + 1, n + 1, p, d, L, S, hL, hs, hz, hd, hn => by
    have hp := hs p hL.page
    obtain ⟨i, l, S', ⟨rfl, hk'⟩, h2, rfl, h4, h5⟩ := hL
    have hk : Kids (Lies (RD A fr) h) l L S' := hk'
    have hrd := readT_of hon hp hl (show d ≤ 16 by omega) h2
    have hs' : ∀ x ∈ S', x < sz := fun x hx => hs x (List.mem_cons_of_mem _ hx)
    have hkid : Kids (fun p L S => Lies (RD A fr) h p L S ∧ ∀ x ∈ S, x < sz) l L S' := hk.mono fun p L S hsub hq => ⟨hq, fun x hx => hs' x (hsub x hx)⟩
    obtain ⟨b1, b2, b3⟩ : (kidsG (fun p => eachG A fr sz n p (d + 1)) l).1 = 0 ∧ (kidsG (fun p => eachG A fr sz n p (d + 1)) l).2.map (·.1) = S'.map (fun x : Nat => (x : Int)) ∧ ∀ kf, gathG kf (kidsG (fun p => eachG A fr sz n p (d + 1)) l).2 = L.filter fun p => !decide (ltB p.1 kf) := by
      clear h2 h4 h5 hrd hp hs hk hk'
      induction l generalizing L S' with
      | nil => obtain ⟨rfl, rfl⟩ := hkid; exact ⟨rfl, rfl, fun _ => rfl⟩
      | cons x l ih =>
        obtain ⟨L1, L2, S1, S2, rfl, rfl, ⟨h3, h3s⟩, _, _, h6⟩ := hkid
        obtain ⟨a1, a2, a3⟩ := each_spec hon hl h n x.page (d + 1) L1 S1 h3 h3s hz (by omega) (by omega)
        obtain ⟨b1, b2, b3⟩ := ih L2 S2 (fun x hx => hs' x (List.mem_append_right _ hx)) h6
        unfold kidsG
        rw [if_neg (by rw [a1]; simp)]
        exact ⟨b1, by rw [List.map_append, List.map_append, a2, b2], fun kf => by rw [gathG_app, a3, b3, List.filter_append]⟩
    unfold eachG
    rw [hrd]
    dsimp only
    refine ⟨b1, by rw [List.map_cons, List.map_cons, b2], fun kf => ?_⟩
    show gathL kf true l ++ gathG kf _ = _
    rw [b3]; rfl
theorem rise_take {L : List Pr} (hr : Rising L) (kt : Byt) : L.takeWhile (fun p => decide (cmpB p.1 kt < 0)) = L.filter fun p => decide (ltB p.1 kt) := by
  induction L with
  | nil => rfl
  | cons p L ih =>
    obtain ⟨h1, h2⟩ := List.pairwise_cons.1 hr
    have hd : decide (cmpB p.1 kt < 0) = decide (ltB p.1 kt) := by
      by_cases h : ltB p.1 kt
      · rw [decide_eq_true h, decide_eq_true (cmpB_lt.2 h)]
      · rw [decide_eq_false h, decide_eq_false (fun h2 => h (cmpB_lt.1 h2))]
    rw [List.takeWhile_cons, List.filter_cons, hd]
    by_cases h : ltB p.1 kt
    · rw [decide_eq_true h]
      simp only [if_true]
      rw [ih h2]
    · rw [decide_eq_false h]
      simp only [Bool.false_eq_true, if_false]
      refine (filter_none fun q hq => decide_eq_false fun h3 => h (ltB_trans (h1 q hq) h3)).symm
theorem upTo_spec {L : List Pr} (hr : Rising L) (kf kt : Byt) : upTo kt (L.filter fun p => !decide (ltB p.1 kf)) = filtP kf kt L := by
  unfold upTo filtP inR
  by_cases hk : kt = []
  · rw [if_pos hk, hk]
    simp
  · rw [if_neg hk, rise_take (hr.sublist List.filter_sublist), List.filter_filter]
    congr 1
    funext p
    rw [decide_eq_false (show ¬ kt.length = 0 from fun h => hk (List.eq_nil_of_length_eq_zero h)), Bool.false_or, Bool.and_comm]
/-- What is told of a root that stands. -/
structure Told (fr : Nat) (A : Dev) (P : List Nat) (root : Int) (L : List Pr) (S : List Nat) : Prop where
  may : mayE P.length root = 0
  rlo : -1 ≤ root
  rhi : root < P.length
  none : root = -1 ↔ L = []
  scan : ∀ kf kt, scanT A fr P.length root kf kt = (0, filtP kf kt L)
  walk : walkT A fr P.length root = (0, sortZ (S.map fun x : Nat => (x : Int)))
  num : (nodesG A fr P.length root).2.length = S.length
  get : ∀ key, getG A fr P.length key 18 root 0 = (0, getP L key)
  len : S.length ≤ 2 * L.length
theorem told {fr : Nat} {A : Dev} {P : List Nat} {root : Int} {L : List Pr} {S : List Nat} (hR : Root (RD A fr) root L S) (hon : A.on = true) (hl : fr + P.length ≤ A.B.length) (hP : P.length ≤ 2000) (hnd : S.Nodup) (hS : ∀ x ∈ S, x < P.length) (hr : Rising L) : Told fr A P root L S := by
  rcases hR with ⟨rfl, rfl, rfl⟩ | ⟨h, p, rfl, hL⟩
  · have hm : mayE P.length (-1) = 0 := by unfold mayE; rw [if_neg (by omega)]
    have hn : nodesG A fr P.length (-1) = (0, []) := by unfold nodesG; rw [if_pos rfl]
    refine ⟨hm, by omega, by omega, by simp, fun kf kt => ?_, ?_, by rw [hn]; rfl, fun key => ?_, Nat.zero_le _⟩
    · unfold scanT
      rw [if_neg (by rw [hm]; simp), hn, if_neg (by simp)]
      unfold upTo gathG filtP
      split <;> rfl
    · unfold walkT
      rw [if_neg (by rw [hm]; simp), hn, if_neg (by simp)]
      rfl
    · rw [getG_1, if_pos rfl]; rfl
  · have hp := hS p hL.page
    have hm : mayE P.length (p : Int) = 0 := by unfold mayE; rw [if_neg (by omega)]
    have hh := height hL hnd hS hP
    obtain ⟨e1, e2, e3⟩ := each_spec hon hl h 18 p 0 L S hL hS (by omega) (by omega) (by omega)
    have hn : nodesG A fr P.length (p : Int) = eachG A fr P.length 18 (p : Int) 0 := by unfold nodesG; rw [if_neg (by omega)]
    rw [← hn] at e1 e2 e3
    refine ⟨hm, by omega, by omega, ⟨fun h => by omega, fun h => absurd h hL.ne⟩, fun kf kt => ?_, ?_, ?_, fun key => ?_, ?_⟩
    · unfold scanT
      rw [if_neg (by rw [hm]; simp), if_neg (by rw [e1]; simp), e3, upTo_spec hr]
    · unfold walkT
      rw [if_neg (by rw [hm]; simp), if_neg (by rw [e1]; simp), e2]
    · have := congrArg List.length e2
      rwa [List.length_map, List.length_map] at this
    · exact get_spec key hon hl h 18 p 0 L S hL hr hS (by omega) (by omega)
    · have := hL.count.2; omega
theorem filtP_nil (L : List Pr) : filtP [] [] L = L := filter_all fun p _ => by
  unfold inR
  have : ¬ ltB p.1 [] := by
    cases p.1 with
    | nil => exact ltB_irrefl _
    | cons x l => intro h; cases h
  rw [decide_eq_false this]; rfl

end Go.Proofs.YtbkadlngijkmmaaGreatDoor

/- Plain law of the tree: put and cut of a root that stands; free pages. -/
namespace Go.Proofs.YtbkadlngijkmmaaGreatDoor
open Go.GV

theorem TreeAt.told {fr : Nat} {A : Dev} {P : List Nat} {root : Int} {L : List Pr} (T : TreeAt fr A P root L) (hon : A.on = true) (hl : fr + P.length ≤ A.B.length) (hP : P.length ≤ 2000) : ∃ S, Told fr A P root L S ∧ S.Nodup ∧ (∀ x : Nat, x ∈ S ↔ P[x]? = some 1 ∨ P[x]? = some 2) := by
  obtain ⟨S, hR, hnd, hS⟩ := T.lies
  exact ⟨S, Go.Proofs.YtbkadlngijkmmaaGreatDoor.told hR hon hl hP hnd (fun x hx => ((hS x).1 hx).elim (fun h => (List.getElem?_eq_some_iff.1 h).1) fun h => (List.getElem?_eq_some_iff.1 h).1) T.rise, hnd, hS⟩
theorem topC_few {fr : Nat} {c : Ch} {i : Bool} {M : List It} {m : Nat} (h : Few c.A m) : Few (topC fr c i M).2.1.A (m + 3) := by
  obtain ⟨-, -, q3, -⟩ := putS_bnd (fr := fr) (c := c) (i := i) (M := M) (m := m)
  have q3 := q3 h
  unfold topC
  split
  · exact h.mono (by omega)
  · split
    · exact q3.mono (by omega)
    · split
      · exact q3.mono (by omega)
      · split
        · exact (wrC_few q3).mono (by omega)
        · exact q3.mono (by omega)
theorem turnC_few {fr : Nat} {A : Dev} {P : List Nat} {root : Int} {key : Byt} {G : List It → List It} {m : Nat} (h : Few A m) : Few (turnC fr A P root key G).2.2.A (m + 40) := by
  obtain ⟨ed, hed⟩ : ∃ ed, ed = (if root = -1 then (0, ⟨A, P, [], []⟩, false, G []) else editC fr G key 18 ⟨A, P, [], []⟩ root.toNat 0 : Int × Ch × Bool × List It) := ⟨_, rfl⟩
  have hb : Few ed.2.1.A (m + 36) := by
    rw [hed]
    split
    · exact h.mono (by omega)
    · obtain ⟨x1, x2, x3⟩ := editC_bnd (fr := fr) (G := G) (key := key) (m := m) (n := 18) (c := ⟨A, P, [], []⟩) (p := root.toNat) (d := 0)
      exact x3 h
  have hturn : turnC fr A P root key G = if ed.1 ≠ 0 then (ed.1, root, overC ed.2.1 ed.1) else if (topC fr ed.2.1 ed.2.2.1 ed.2.2.2).1 ≠ 0 then ((topC fr ed.2.1 ed.2.2.1 ed.2.2.2).1, root, overC (topC fr ed.2.1 ed.2.2.1 ed.2.2.2).2.1 (topC fr ed.2.1 ed.2.2.1 ed.2.2.2).1) else (0, (topC fr ed.2.1 ed.2.2.1 ed.2.2.2).2.2, overC (topC fr ed.2.1 ed.2.2.1 ed.2.2.2).2.1 0) := by
    unfold turnC; rw [hed]
  rw [hturn]
  have ht := topC_few (fr := fr) (i := ed.2.2.1) (M := ed.2.2.2) hb
  split
  · exact hb.mono (by omega)
  · split
    · exact ht.mono (by omega)
    · exact ht.mono (by omega)
theorem hm24 {P : List Nat} (hP : P.length ≤ 2000) : ∀ h, h = 0 ∨ 2 ^ (h + 1) ≤ P.length + 1 → 2 * h + 3 ≤ 24 := fun h hh => by
  rcases hh with rfl | hh
  · omega
  · rcases Nat.lt_or_ge h 10 with h3 | h3
    · omega
    · have : 2 ^ 11 ≤ 2 ^ (h + 1) := Nat.pow_le_pow_right (by omega) (by omega)
      omega
/-- What a step of a tree that stands leaves. -/
structure Stepped (fr : Nat) (A : Dev) (P : List Nat) (root' : Int) (L' : List Pr) (A' : Dev) (P' : List Nat) (mx : Nat) : Prop where
  tree : TreeAt fr A' P' root' L'
  aft : After fr A P A' P'
  on : A'.on = true
  few : Few A' mx
theorem After.refl (fr : Nat) (A : Dev) (P : List Nat) : After fr A P A P := ⟨fun _ _ => rfl, rfl, fun h => h, rfl, rfl⟩
theorem turn_good {fr : Nat} {A : Dev} {P : List Nat} {root : Int} {L : List Pr} {key : Byt} {G : List It → List It} {g : List Pr → List Pr} (act : Acts key G g) (hr : ∀ L, Rising L → Rising (g L)) (T : TreeAt fr A P root L) (hon : A.on = true) (hl : fr + P.length ≤ A.B.length) (hP : P.length ≤ 2000) (hleft : A.left = -1) (hfree : 24 ≤ freeP P) {mx : Nat} (hfew : Few A mx) :
    (turnC fr A P root key G).1 = 0 ∧ Stepped fr A P (turnC fr A P root key G).2.1 (g L) (turnC fr A P root key G).2.2.A (turnC fr A P root key G).2.2.P (mx + 40) := by
  obtain ⟨h1, h2⟩ := turn_spec act hr T hon hl hP (hm24 hP)
  rcases h2 with ⟨h3, h4, h5⟩ | ⟨_, _, h3⟩
  · exact ⟨h3, h5, h1, h4, turnC_few hfew⟩
  · rcases h3 with ⟨_, h3⟩ | ⟨_, h3⟩
    · exact absurd hleft h3
    · omega
theorem put_good {fr : Nat} {A : Dev} {P : List Nat} {root : Int} {L : List Pr} {key val : Byt} (T : TreeAt fr A P root L) (hon : A.on = true) (hl : fr + P.length ≤ A.B.length) (hP : P.length ≤ 2000) (hleft : A.left = -1) (hfree : 24 ≤ freeP P) {mx : Nat} (hfew : Few A mx) :
    (rightK key.length val.length = false ∧ putT fr A P root key val = (1, root, A, P)) ∨ (rightK key.length val.length = true ∧ (putT fr A P root key val).1 = 0 ∧ Stepped fr A P (putT fr A P root key val).2.1 (putP L key val) (putT fr A P root key val).2.2.1 (putT fr A P root key val).2.2.2 (mx + 40)) := by
  obtain ⟨S, td, -, -⟩ := T.told hon hl hP
  unfold putT
  rw [if_neg (by rw [td.may]; simp)]
  by_cases hk : rightK key.length val.length = true
  · right
    rw [if_pos hk]
    have hk2 := hk
    unfold rightK at hk2
    simp only [Bool.and_eq_true, decide_eq_true_eq] at hk2
    obtain ⟨h1, h2⟩ := turn_good (acts_put hk2.1 hk2.2.1 hk2.2.2) (fun L h => putP_rising h key val) T hon hl hP hleft hfree hfew
    exact ⟨hk, h1, h2⟩
  · left
    rw [if_neg hk]
    exact ⟨by simpa using hk, rfl⟩
theorem cut_good {fr : Nat} {A : Dev} {P : List Nat} {root : Int} {L : List Pr} {key : Byt} (T : TreeAt fr A P root L) (hon : A.on = true) (hl : fr + P.length ≤ A.B.length) (hP : P.length ≤ 2000) (hleft : A.left = -1) (hfree : 24 ≤ freeP P) {mx : Nat} (hfew : Few A mx) :
    (rightK key.length 0 = false ∧ cutT fr A P root key = (1, root, false, A, P)) ∨ (rightK key.length 0 = true ∧ (cutT fr A P root key).1 = 0 ∧ (cutT fr A P root key).2.2.1 = (getP L key).isSome ∧ ((getP L key).isSome = false → (cutT fr A P root key).2.1 = root) ∧
      Stepped fr A P (cutT fr A P root key).2.1 (cutP L key) (cutT fr A P root key).2.2.2.1 (cutT fr A P root key).2.2.2.2 (mx + 40)) := by
  obtain ⟨S, td, -, -⟩ := T.told hon hl hP
  have hget : getT A fr P.length root key = if rightK key.length 0 = true then (0, getP L key) else (1, none) := by
    unfold getT
    rw [if_neg (by rw [td.may]; simp), td.get]
  unfold cutT
  rw [hget]
  by_cases hk : rightK key.length 0 = true
  · right
    rw [if_pos hk, if_neg (by simp)]
    cases hg : getP L key with
    | none =>
      rw [if_pos (show ((0, (none : Option Byt)) : Int × Option Byt).2.isSome = false from rfl), cutP_none hg]
      exact ⟨hk, rfl, rfl, fun _ => rfl, T, After.refl _ _ _, hon, hfew.mono (by omega)⟩
    | some u =>
      rw [if_neg (by simp)]
      obtain ⟨h1, h2⟩ := turn_good (acts_cut key) (fun L h => cutP_rising h key) T hon hl hP hleft hfree hfew
      exact ⟨hk, h1, by dsimp only; rw [decide_eq_true h1]; rfl, (fun h => by cases h), h2⟩
  · left
    rw [if_neg hk, if_pos (by simp)]
    exact ⟨by simpa using hk, rfl⟩
theorem get_good {fr : Nat} {A : Dev} {P : List Nat} {root : Int} {L : List Pr} {key : Byt} (T : TreeAt fr A P root L) (hon : A.on = true) (hl : fr + P.length ≤ A.B.length) (hP : P.length ≤ 2000) : getT A fr P.length root key = if rightK key.length 0 = true then (0, getP L key) else (1, none) := by
  obtain ⟨S, td, -, -⟩ := T.told hon hl hP
  unfold getT
  rw [if_neg (by rw [td.may]; simp), td.get]

end Go.Proofs.YtbkadlngijkmmaaGreatDoor

/- What a desk has, what it holds: the walks. -/
namespace Go.Proofs.YtbkadlngijkmmaaGreatDoor
open Go.GV
theorem ag_33_TrG2 : aggB Tryz.prog 33 = some false := by kernel_rfl
theorem ag_34_TrG2 : aggB Tryz.prog 34 = some false := by kernel_rfl
theorem ca_23_TrG2 : callable Tryz.prog 23 = true := by kernel_rfl
theorem ca_24_TrG2 : callable Tryz.prog 24 = true := by kernel_rfl
theorem ca_28_TrG2 : callable Tryz.prog 28 = true := by kernel_rfl
theorem ca_39_TrG2 : callable Tryz.prog 39 = true := by kernel_rfl
theorem ca_69_TrG2 : callable Tryz.prog 69 = true := by kernel_rfl
theorem fo_36_1_TrG2 : fieldO Tryz.prog 36 1 = some 1 := by kernel_rfl
theorem fo_36_2_TrG2 : fieldO Tryz.prog 36 2 = some 2 := by kernel_rfl
theorem un_4_TrG2 : Tryz.prog.underlying 4 = some (.bool) := by kernel_rfl
attribute [local irreducible] Wops W Wq Wt

set_option maxRecDepth 20000 in
set_option maxHeartbeats 4000000 in
theorem has_ok {w : World} {bx bt bd bp ba : Nat} {A : Dev} {P : List Nat} {F M : Mut} (D : Dk w bx bt bd bp ba A P F) {root : Int} {L K : List Pr} {S : List Nat} (td : Told 10 A P root L S) (hnl : L.length ≤ 100000) {la : Option Addr} {ln lc : Nat} (PK : Prs w M la ln lc K) (hln : ln ≤ 100000000) {mx : Nat} (hfew : Few A mx) (hmx : mx ≤ 1000000000) (hS : S.length ≤ 100000) :
    Ret Tryz.prog 21 #[ptr bx, .int .i64 root, .slice la ln lc] w fun v w' => v = .bool (decide (L = K)) ∧ Ext [] w w' := by
  obtain ⟨w0, rfl⟩ : ∃ w0, w0 = w := ⟨_, rfl⟩
  have hlo := td.rlo; have hhi := td.rhi; have hpl := D.T.pg.len
  have hsc := td.scan [] []
  rw [filtP_nil] at hsc
  refine ret_of_W (fn := Tryz.f21) Tryz.func21 rfl [.pointer (some ⟨bx, 0, none⟩), .int .i64 root, .slice la ln lc] rfl (by kernel_rfl) ?_
  have H := Ctx.start w0 []
  refine W_rseq ?_
  refine op_assign rfl (.bool _) rfl ?_
  refine op_nil (at_then ?_)
  refine W_rseq ?_
  refine op_move rfl (.pointer _) rfl ?_
  refine op_nilCheck rfl rfl ?_
  refine op_fieldAddr rfl fo_36_2_TrG2 rfl ?_
  first | refine op_ldb rfl ag_34_TrG2 rfl H (by first | exact at0 | exact at1 | exact at2 | exact at3 | exact at4 | exact at5 | exact at6 | exact at7 | exact at8 | exact at9) rfl ?_ | refine op_ld rfl ag_34_TrG2 rfl ((by rw [cell_bl D.dk]; rfl)) ?_
  refine op_move rfl (.int _ _) rfl ?_
  refine op_call rfl ca_23_TrG2 (scan7_ok (by omega) D.T root (by omega) (by omega) none none 0 0 0 0 [] [] Rd.nil rfl Rd.nil rfl hfew hmx (by rw [td.num]; exact hS)) rfl ?_
  rintro v w2 ⟨a, c, rfl, PS, hx⟩
  rw [hsc] at PS
  rw [hsc]
  refine op_move rfl (.tuple _) rfl ?_
  refine op_extract rfl rfl rfl ?_
  refine op_extract rfl rfl rfl ?_
  refine op_assign rfl (.slice _ _ _) rfl ?_
  refine op_assign rfl (.int _ _) rfl ?_
  refine op_nil (at_then ?_)
  refine W_rseq ?_
  refine op_move rfl (.int _ _) rfl ?_
  refine op_eql rfl rfl rfl ?_
  refine op_move rfl (.bool _) rfl ?_
  refine op_move rfl (.slice _ _ _) rfl ?_
  refine op_move rfl (.slice _ _ _) rfl ?_
  refine op_call rfl ca_24_TrG2 (same7_ok PS (PK.turn (.call0 hx)) (by dsimp only; omega) hln) rfl ?_
  rintro v w3 ⟨rfl, hx3⟩
  refine op_pick1 rfl rfl (.bool _) rfl ?_
  refine op_assign rfl (.bool _) rfl ?_
  refine op_nil (at_then ?_)
  refine W_ret (leave1 (v := (.bool _)) rfl rfl rfl ?_)
  exact ⟨rfl, hx.trans hx3⟩

/-! ### What is held -/
def heldB (P : List Nat) (k : Nat) : Bool := decide (P[k]? = some 1) || decide (P[k]? = some 2)
def heldL (P : List Nat) (k : Nat) : List Nat := (List.range k).filter (heldB P)
theorem heldL_succ (P : List Nat) (k : Nat) : heldL P (k + 1) = heldL P k ++ if heldB P k = true then [k] else [] := by
  unfold heldL
  rw [List.range_succ, List.filter_append]
  congr 1
  by_cases h : heldB P k = true
  · rw [if_pos h, List.filter_cons, h]; rfl
  · rw [if_neg h, List.filter_cons, show heldB P k = false by simpa using h]; rfl
theorem heldL_pre (P : List Nat) : ∀ (d k : Nat), ∃ M, heldL P (k + d) = heldL P k ++ M ∧ ∀ x ∈ M, k ≤ x
  | 0, k => ⟨[], by simp, fun x h => by cases h⟩
  | d + 1, k => by
    obtain ⟨M, h1, h2⟩ := heldL_pre P d k
    refine ⟨M ++ if heldB P (k + d) = true then [k + d] else [], ?_, fun x hx => ?_⟩
    · rw [← Nat.add_assoc, heldL_succ, h1, List.append_assoc]
    · rcases List.mem_append.1 hx with hx | hx
      · exact h2 x hx
      · split at hx
        · rw [List.mem_singleton.1 hx]; omega
        · cases hx
/-- The list at the place of what is below k. -/
theorem held_at (P : List Nat) {k n : Nat} (hk : k < n) : (heldL P n)[(heldL P k).length]? = some k ↔ heldB P k = true := by
  obtain ⟨M, h1, h2⟩ := heldL_pre P (n - (k + 1)) (k + 1)
  rw [show k + 1 + (n - (k + 1)) = n by omega, heldL_succ, List.append_assoc] at h1
  rw [h1, List.getElem?_append_right (Nat.le_refl _), Nat.sub_self]
  by_cases hb : heldB P k = true
  · rw [if_pos hb]; exact ⟨fun _ => hb, fun _ => rfl⟩
  · rw [if_neg hb, List.nil_append]
    refine ⟨fun h => ?_, fun h => absurd h hb⟩
    have := h2 k (List.mem_of_getElem? h)
    omega
theorem held_sorted {P S : List Nat} (hnd : S.Nodup) (hS : ∀ x : Nat, x ∈ S ↔ P[x]? = some 1 ∨ P[x]? = some 2) : sortZ (S.map fun x : Nat => (x : Int)) = (heldL P P.length).map fun x : Nat => (x : Int) := by
  have hperm : S.Perm (heldL P P.length) := by
    refine (List.perm_ext_iff_of_nodup hnd (List.nodup_range.filter _)).2 fun x => ?_
    rw [List.mem_filter, List.mem_range, hS]
    unfold heldB
    rw [Bool.or_eq_true, decide_eq_true_eq, decide_eq_true_eq]
    refine ⟨fun h => ⟨h.elim (fun h => (List.getElem?_eq_some_iff.1 h).1) fun h => (List.getElem?_eq_some_iff.1 h).1, h⟩, And.right⟩
  have h1 : (S.map fun x : Nat => (x : Int)).Perm ((heldL P P.length).map fun x : Nat => (x : Int)) := hperm.map _
  have h2 : ((heldL P P.length).map fun x : Nat => (x : Int)).Pairwise fun x y => decide (x ≤ y) = true := by
    refine List.pairwise_map.2 (List.Pairwise.imp (R := fun x y : Nat => x < y) (fun {a b} h => decide_eq_true (by omega)) ?_)
    exact List.Pairwise.sublist List.filter_sublist (List.pairwise_lt_range)
  rw [sortZ, mergeSort_of_perm_i h1]
  exact List.mergeSort_of_pairwise h2

set_option maxRecDepth 20000 in
set_option maxHeartbeats 4000000 in
theorem held_ok {w : World} {bx bt bd bp ba : Nat} {A : Dev} {P : List Nat} {F : Mut} (D : Dk w bx bt bd bp ba A P F) {root : Int} {L : List Pr} {S : List Nat} (td : Told 10 A P root L S) (hnd : S.Nodup) (hS : ∀ x : Nat, x ∈ S ↔ P[x]? = some 1 ∨ P[x]? = some 2) {mx : Nat} (hfew : Few A mx) (hmx : mx ≤ 1000000000) (hSl : S.length ≤ 100000) :
    Ret Tryz.prog 20 #[ptr bx, .int .i64 root] w fun v w' => v = .bool true ∧ Ext [] w w' := by
  obtain ⟨w0, rfl⟩ : ∃ w0, w0 = w := ⟨_, rfl⟩
  have hlo := td.rlo; have hhi := td.rhi; have hpl := D.T.pg.len
  have hwk := td.walk
  obtain ⟨n, hn⟩ : ∃ n, n = P.length := ⟨_, rfl⟩
  rw [held_sorted hnd hS, ← hn] at hwk
  obtain ⟨lz, hlz⟩ : ∃ lz, lz = (heldL P n).map fun x : Nat => (x : Int) := ⟨_, rfl⟩
  have hlzn : lz.length = (heldL P n).length := by rw [hlz, List.length_map]
  rw [← hlz] at hwk
  have hpair : (((0 : Int), lz).2).length = lz.length := rfl
  refine ret_of_W (fn := Tryz.f20) Tryz.func20 rfl [.pointer (some ⟨bx, 0, none⟩), .int .i64 root] rfl (by kernel_rfl) ?_
  have H := Ctx.start w0 []
  refine W_rseq ?_
  refine op_assign rfl (.bool _) rfl ?_
  refine op_nil (at_then ?_)
  refine W_rseq ?_
  refine op_move rfl (.pointer _) rfl ?_
  refine op_nilCheck rfl rfl ?_
  refine op_fieldAddr rfl fo_36_2_TrG2 rfl ?_
  first | refine op_ldb rfl ag_34_TrG2 rfl H (by first | exact at0 | exact at1 | exact at2 | exact at3 | exact at4 | exact at5 | exact at6 | exact at7 | exact at8 | exact at9) rfl ?_ | refine op_ld rfl ag_34_TrG2 rfl ((by rw [cell_bl D.dk]; rfl)) ?_
  refine op_move rfl (.int _ _) rfl ?_
  refine op_call rfl ca_28_TrG2 (walk7_ok (by omega) D.T root (by omega) (by omega) hfew hmx (by rw [td.num]; exact hSl)) rfl ?_
  rintro v w2 ⟨a, c, rfl, RW, -, -, hx⟩
  rw [← hn, hwk] at RW
  rw [← hn, hwk]
  replace RW : Rd w2 a 1 (fun x : Int => [.int .i64 x]) lz := RW
  refine op_move rfl (.tuple _) rfl ?_
  refine op_extract rfl rfl rfl ?_
  refine op_extract rfl rfl rfl ?_
  refine op_assign rfl (.slice _ _ _) rfl ?_
  refine op_assign rfl (.int _ _) rfl ?_
  refine op_nil (at_then ?_)
  refine W_seq ?_
  refine W_rseq ?_
  refine op_move rfl (.int _ _) rfl ?_
  refine op_neq rfl rfl rfl ?_
  refine op_nil (at_then ?_)
  refine W_cond0 rfl ?_
  refine W_skip (at_then ?_)
  refine W_rseq ?_
  refine op_assign rfl (.int _ _) rfl ?_
  refine op_nil (at_then ?_)
  refine W_seq ?_
  refine W_rseq ?_
  refine op_assign rfl (.int _ _) rfl ?_
  refine op_nil (at_then ?_)
  refine W_block ?_
  have hdk : w2.heap[bx]? = some (Bl 36 [ptr bd, ptr bp, ptr bt]) := by rw [hx.block bx (heap_lt D.dk) (by simp)]; exact D.dk
  have hP2 := (D.T.call hx).pg
  refine W_loop 1152921504602654608 (α := Nat) (fun k => [(8, .int .i64 (k : Int)), (7, .int .i64 ((heldL P k).length : Int))]) (fun k w' => k ≤ n ∧ w2 = w') (fun k => n - k) 0 rfl ?_ ?_ ?_
  · exact ⟨rfl, rfl, trivial⟩
  · exact ⟨Nat.zero_le _, rfl⟩
  · rintro k j w ⟨hk, rfl⟩
    obtain ⟨w2', rfl⟩ : ∃ z, z = w2 := ⟨_, rfl⟩
    have H := Ctx.start w2' []
    refine W_seq ?_
    refine W_rseq ?_
    refine op_move rfl (.int _ _) rfl ?_
    refine op_move rfl (.pointer _) rfl ?_
    refine op_nilCheck rfl rfl ?_
    refine op_fieldAddr rfl fo_36_1_TrG2 rfl ?_
    first | refine op_ldb rfl ag_33_TrG2 rfl H (by first | exact at0 | exact at1 | exact at2 | exact at3 | exact at4 | exact at5 | exact at6 | exact at7 | exact at8 | exact at9) rfl ?_ | refine op_ld rfl ag_33_TrG2 rfl ((by rw [cell_bl hdk]; rfl)) ?_
    refine op_call rfl ca_69_TrG2 (psize_ok hP2) rfl ?_
    rintro v w5 ⟨rfl, rfl⟩
    rw [← hn]
    refine op_lss rfl rfl rfl ?_
    refine op_nil (at_then ?_)
    refine W_cond _ rfl ?_ ?_
    · intro hB
      replace hB := dec_t hB
      have hkn : k < n := by omega
      obtain ⟨s, hs⟩ := get_some (l := P) (i := k) (by omega)
      have hs3 := D.T.pg.ok s (List.mem_of_getElem? hs)
      have hsu := heldL_succ P k
      have hat := held_at P hkn
      have hcl : (heldL P k).length ≤ n := by
        have := List.length_filter_le (heldB P) (List.range k)
        rw [List.length_range] at this
        exact Nat.le_trans this (by omega)
      have hatz : ∀ h : (heldL P k).length < lz.length, decide (lz[(heldL P k).length] = (k : Int)) = heldB P k := fun h => by
        have h1 : (heldL P n)[(heldL P k).length]? = some ((heldL P n)[(heldL P k).length]'(by omega)) := List.getElem?_eq_getElem _
        have h2 : lz[(heldL P k).length] = (((heldL P n)[(heldL P k).length]'(by omega) : Nat) : Int) := by simp only [hlz, List.getElem_map]
        rw [h2, Bool.eq_iff_iff, decide_eq_true_eq, ← hat, h1]
        simp only [Option.some.injEq]
        omega
      have hatn : ¬ (heldL P k).length < lz.length → heldB P k = false := fun h => by
        cases hb : heldB P k with
        | false => rfl
        | true =>
          have h1 := (List.getElem?_eq_some_iff.1 (hat.2 hb)).1
          omega
      have hs2 : decide ((s : Int) = 2) = decide (s = 2) := by rw [Bool.eq_iff_iff]; simp; omega
      have hsb : heldB P k = (decide (s = 1) || decide (s = 2)) := by unfold heldB; rw [hs]; simp
      refine W_skip (at_then ?_)
      refine W_seq ?_
      refine W_block ?_
      refine W_rseq ?_
      refine op_move rfl (.pointer _) rfl ?_
      refine op_nilCheck rfl rfl ?_
      refine op_fieldAddr rfl fo_36_1_TrG2 rfl ?_
      first | refine op_ldb rfl ag_33_TrG2 rfl H (by first | exact at0 | exact at1 | exact at2 | exact at3 | exact at4 | exact at5 | exact at6 | exact at7 | exact at8 | exact at9) rfl ?_ | refine op_ld rfl ag_33_TrG2 rfl ((by rw [cell_bl hdk]; rfl)) ?_ | refine op_ld rfl ag_33_TrG2 rfl ((RW.fld (List.getElem?_eq_getElem (show (heldL P k).length < lz.length by omega)) rfl (j := 0) rfl)) ?_
      refine op_move rfl (.int _ _) rfl ?_
      refine op_call rfl ca_39_TrG2 (pstate_ok hP2 k hs) rfl ?_
      rintro v w5 ⟨rfl, rfl⟩
      refine op_assign rfl (.int _ _) rfl ?_
      refine op_nil (at_then ?_)
      refine W_rseq (Wops_join (α := Unit) 562812514468864 (fun _ => [(10, .bool (heldB P k))]) (fun _ w' => w2' = w') rfl ?_ ?_)
      · refine op_move rfl (.int _ _) rfl ?_
        refine op_move rfl (.slice _ _ _) rfl ?_
        refine op_len rfl el_57 rfl ?_
        refine op_lss rfl rfl rfl ?_
        refine op_move rfl (.bool _) rfl ?_
        refine Wops_split 41 rfl ?_ ?_
        · intro h1
          replace h1 := dec_t h1
          refine op_move rfl (.slice _ _ _) rfl ?_
          refine op_move rfl (.int _ _) rfl ?_
          first | refine op_indexRd RW rfl el_57 sz_3 rfl rfl (by omega) (by omega) (by first | rfl | omega) ?_ | refine op_indexAddr rfl el_57 sz_3 rfl rfl (by omega) (by omega) ?_
          first | refine op_ldb rfl ag_3 rfl H (by first | exact at0 | exact at1 | exact at2 | exact at3 | exact at4 | exact at5 | exact at6 | exact at7 | exact at8 | exact at9) rfl ?_ | refine op_ld rfl ag_3 rfl ((by rw [cell_bl hdk]; rfl)) ?_ | refine op_ld rfl ag_3 rfl ((RW.fld (List.getElem?_eq_getElem (show (heldL P k).length < lz.length by omega)) rfl (j := 0) rfl)) ?_
          refine op_move rfl (.int _ _) rfl ?_
          refine op_eql rfl rfl rfl ?_
          refine op_pick1 rfl rfl (.bool _) rfl ?_
          refine op_assign rfl (.bool _) rfl ?_
          refine op_nil ?_
          exact ⟨rfl, (), rfl, ⟨congrArg Value.bool (by first | exact hatz (by omega) | exact (hatn (by omega)).symm), trivial⟩, rfl⟩
        · intro h2
          replace h2 := dec_f h2
          refine op_skip rfl ?_
          refine op_skip rfl ?_
          refine op_skip rfl ?_
          refine op_skip rfl ?_
          refine op_skip rfl ?_
          refine op_skip rfl ?_
          refine op_pick0 rfl rfl (.bool _) rfl ?_
          refine op_assign rfl (.bool _) rfl ?_
          refine op_nil ?_
          exact ⟨rfl, (), rfl, ⟨congrArg Value.bool (by first | exact hatz (by omega) | exact (hatn (by omega)).symm), trivial⟩, rfl⟩
      rintro - j10 w rfl
      refine W_seq ?_
      refine W_rseq ?_
      refine op_move rfl (.bool _) rfl ?_
      refine op_nil (at_then ?_)
      refine W_joinK 3377699720528000 (α := Unit) (fun _ => [(7, .int .i64 ((heldL P (k + 1)).length : Int))]) (fun _ w' => w2' = w') rfl ?_ ?_
      · skip
        refine W_cond _ rfl ?_ ?_
        · intro hC
          rw [if_pos hC] at hsu
          refine W_region ?_
          refine op_move rfl (.int _ _) rfl ?_
          refine op_add_i64 rfl rfl rfl (by omega) (by omega) ?_
          refine op_assign rfl (.int _ _) rfl ?_
          refine op_nil (at_then ?_)
          exact ⟨(), rfl, ⟨congrArg (Value.int .i64) (by rw [hsu, List.length_append]; rfl), trivial⟩, rfl⟩
        · intro hC
          rw [if_neg (by rw [hC]; simp), List.append_nil] at hsu
          refine W_skip (at_then ?_)
          exact ⟨(), rfl, ⟨congrArg (Value.int .i64) (by rw [hsu]), trivial⟩, rfl⟩
      · rintro - j7 w5 rfl
        refine W_rseq (Wops_join (α := Unit) 1148417904979476480 (fun _ => [(59, .bool (false))]) (fun _ w' => w2' = w') rfl ?_ ?_)
        · refine op_move rfl (.bool _) rfl ?_
          refine op_move rfl (.int _ _) rfl ?_
          refine op_eql rfl rfl rfl ?_
          refine op_move rfl (.bool _) rfl ?_
          refine Wops_split 55 rfl ?_ ?_
          · intro h3
            replace h3 := dec_t h3
            refine op_skip rfl ?_
            refine op_skip rfl ?_
            refine op_pick1 rfl rfl (.bool _) rfl ?_
            refine op_neqb un_4_TrG2 rfl rfl rfl ?_
            refine op_nil ?_
            exact ⟨rfl, (), rfl, ⟨congrArg Value.bool (by rw [hsb]; (first | rw [decide_eq_true (show s = 1 by omega)] | rw [decide_eq_false (show ¬ s = 1 by omega)]); (try rw [hs2]); cases decide (s = 2) <;> rfl), trivial⟩, rfl⟩
          · intro h4
            replace h4 := dec_f h4
            refine op_move rfl (.int _ _) rfl ?_
            refine op_eql rfl rfl rfl ?_
            refine op_pick0 rfl rfl (.bool _) rfl ?_
            refine op_neqb un_4_TrG2 rfl rfl rfl ?_
            refine op_nil ?_
            exact ⟨rfl, (), rfl, ⟨congrArg Value.bool (by rw [hsb]; (first | rw [decide_eq_true (show s = 1 by omega)] | rw [decide_eq_false (show ¬ s = 1 by omega)]); (try rw [hs2]); cases decide (s = 2) <;> rfl), trivial⟩, rfl⟩
        rintro - j59 w rfl
        refine W_cond0 rfl ?_
        refine W_skip (at_block (at_then ?_))
        refine W_region ?_
        refine op_move rfl (.int _ _) rfl ?_
        refine op_add_i64 rfl rfl rfl (by omega) (by omega) ?_
        refine op_assign rfl (.int _ _) rfl ?_
        refine op_nil (at_then ?_)
        exact ⟨k + 1, rfl, ⟨rfl, rfl, trivial⟩, ⟨by omega, rfl⟩, by omega⟩
    · intro hB
      replace hB := dec_f hB
      have hkk : k = n := by omega
      refine W_exit (exit_then (exit_then (exit_here (at_then ?_))))
      refine W_rseq ?_
      refine op_move rfl (.int _ _) rfl ?_
      refine op_move rfl (.slice _ _ _) rfl ?_
      refine op_len rfl el_57 rfl ?_
      refine op_eql rfl rfl rfl ?_
      refine op_assign rfl (.bool _) rfl ?_
      refine op_nil (at_then ?_)
      refine W_ret (leave1 (v := (.bool _)) rfl rfl rfl ?_)
      exact ⟨congrArg Value.bool (decide_eq_true (by rw [hlzn, hkk])), hx⟩

end Go.Proofs.YtbkadlngijkmmaaGreatDoor

/- A desk does a step: the walk. -/
namespace Go.Proofs.YtbkadlngijkmmaaGreatDoor
open Go.GV
theorem ag_34_TrG3 : aggB Tryz.prog 34 = some false := by kernel_rfl
theorem ca_18_TrG3 : callable Tryz.prog 18 = true := by kernel_rfl
theorem ca_19_TrG3 : callable Tryz.prog 19 = true := by kernel_rfl
theorem ca_26_TrG3 : callable Tryz.prog 26 = true := by kernel_rfl
theorem ca_27_TrG3 : callable Tryz.prog 27 = true := by kernel_rfl
theorem ca_37_TrG3 : callable Tryz.prog 37 = true := by kernel_rfl
theorem ca_40_TrG3 : callable Tryz.prog 40 = true := by kernel_rfl
theorem ca_41_TrG3 : callable Tryz.prog 41 = true := by kernel_rfl
theorem fo_30_0_TrG3 : fieldO Tryz.prog 30 0 = some 0 := by kernel_rfl
theorem fo_30_1_TrG3 : fieldO Tryz.prog 30 1 = some 1 := by kernel_rfl
theorem fo_30_2_TrG3 : fieldO Tryz.prog 30 2 = some 2 := by kernel_rfl
theorem fo_36_2_TrG3 : fieldO Tryz.prog 36 2 = some 2 := by kernel_rfl
theorem un_4_TrG3 : Tryz.prog.underlying 4 = some (.bool) := by kernel_rfl
attribute [local irreducible] Wops W Wq Wt

section
variable {ops rest : List Oper} {Q : Exit → Env → World → Prop} {e : Env} {w : World} {dst : Option Tmp} {ty : TypeId} {pos : String} {af : Array Edge} {g : Option (Nat × Bool)} {r : Option Nat}
theorem op_new8 (hg : wants ⟨dst, .buildSlice 23 0 #[], ty, pos, af, g⟩ ops e = true)
    (h : ∀ b w', Ext [] w w' → w.heap.size ≤ b → w'.heap[b]? = some (Bl 5 []) → Wops Tryz.prog r ops Q rest (put e dst (.slice (some ⟨b, 0, none⟩) 0 0)) w') : Wops Tryz.prog r ops Q (⟨dst, .buildSlice 23 0 #[], ty, pos, af, g⟩ :: rest) e w :=
  op_build0 hg el_23 sz_5 (Ctx.start w []) fun b w' H _ => h b w' H.ext ((H.own (b, Bl 5 []) (List.mem_append_right _ (List.mem_singleton.2 rfl))).elim (fun h => by cases h) id) (H.blk (b, Bl 5 []) (List.mem_append_right _ (List.mem_singleton.2 rfl)))
theorem op_app8 {x y : Operand} {b c2 : Nat} {a2 : Option Addr} {l : Byt} (hg : wants ⟨dst, .call ⟨.builtin .append, #[x, y], #[23, 23]⟩, ty, pos, af, g⟩ ops e = true) (hx : ev e x = .slice (some ⟨b, 0, none⟩) 0 0) (hy : ev e y = .slice a2 l.length c2)
    (hb : w.heap[b]? = some (Bl 5 [])) (R : Rd w a2 1 B8 l) (hl : l.length ≤ 1000000)
    (h : ∀ a' c' w', Ext [b] w w' → Rd w' a' 1 B8 l → l.length ≤ c' → (l = [] ∨ (adr a').block = b ∨ w.heap.size ≤ (adr a').block) → Wops Tryz.prog r ops Q rest (put e dst (.slice a' l.length c')) w') :
    Wops Tryz.prog r ops Q (⟨dst, .call ⟨.builtin .append, #[x, y], #[23, 23]⟩, ty, pos, af, g⟩ :: rest) e w := by
  refine op_append (L := []) (a := some ⟨b, 0, none⟩) (n := 0) (c := 0) (full := []) (l := []) hg el_23 el_23 sz_5 by_5 zc_5 rfl (by decide) (l.map bv) hx hy (Ctx.start1 hb) ⟨(fun p hp => by injection hp with hp; subst hp; rfl), (fun hp => by cases hp), by simp, Nat.le_refl _, by simp⟩ (by simp) (bv_one l) (Rd.appB R) (by omega) fun a' c' full' w' H' O' => ?_
  rw [Nat.zero_add] at O' ⊢
  refine h a' c' w' H'.ext (OS.rdB (by simpa using O') fun y hy => H'.blk y hy) O'.le ?_
  cases ha : a' with
  | none =>
    left
    have h8 := O'.none' ha; have h9 := O'.le
    exact List.eq_nil_of_length_eq_zero (by omega)
  | some q =>
    have h8 := H'.own (q.block, Bl 5 full') (by rw [ha]; exact List.mem_singleton.2 rfl)
    obtain ⟨qb, qo, qs⟩ := q
    exact .inr (h8.imp (fun h => List.mem_singleton.1 h) id)
end

theorem app_fresh {w2 w : World} {l : Byt} {b : Nat} {a : Option Addr} (h : l = [] ∨ (adr a).block = b ∨ w.heap.size ≤ (adr a).block) (hb : w2.heap.size ≤ b) (hs : w2.heap.size ≤ w.heap.size) : l = [] ∨ w2.heap.size ≤ (adr a).block := by
  rcases h with h | h | h
  · exact .inl h
  · exact .inr (by omega)
  · exact .inr (by omega)
theorem app_keep {w w' : World} {l : Byt} {b : Nat} {a : Option Addr} (R : Rd w a 1 B8 l) (h : l = [] ∨ (adr a).block ≠ b) (hx : Ext [b] w w') : Rd w' a 1 B8 l := by
  rcases h with rfl | h
  · exact Rd.nil
  · exact R.ext hx (by simpa using h)
theorem app_ne {w : World} {l : Byt} {b2 : Nat} {a : Option Addr} (R : Rd w a 1 B8 l) (h : w.heap.size ≤ b2) : l = [] ∨ (adr a).block ≠ b2 := by
  rcases rd_ltN R (by decide) (fun _ _ => rfl) with h1 | h1
  · exact .inl h1
  · exact .inr (by omega)

structure St7 where
  cut : Bool
  key : Byt
  val : Byt
  settle : Bool
/-- A step in memory. -/
structure Sm where
  ka : Option Addr
  kc : Nat
  va : Option Addr
  vc : Nat
  s : St7
def Sm.enc (m : Sm) : List Value := [.bool m.s.cut, .slice m.ka m.s.key.length m.kc, .slice m.va m.s.val.length m.vc, .bool m.s.settle]
theorem Sm.oneE (m : Sm) : ∀ v ∈ m.enc, oneCell v = true := fun v hv => by
  simp only [Sm.enc, List.mem_cons, List.not_mem_nil, or_false] at hv
  rcases hv with rfl | rfl | rfl | rfl <;> rfl
structure Sm.Ok (w : World) (M : Mut) (m : Sm) : Prop where
  k : Rdx w M m.ka m.s.key
  v : Rdx w M m.va m.s.val
  kc : m.s.key.length ≤ m.kc
  vc : m.s.val.length ≤ m.vc
  kl : m.s.key.length ≤ 200
  vl : m.s.val.length ≤ 500
def stepL (s : St7) (L : List Pr) : List Pr :=
  if s.cut = true then (if rightK s.key.length 0 = true then cutP L s.key else L) else if rightK s.key.length s.val.length = true then putP L s.key s.val else L
/-- What a step of a desk leaves. -/
structure Does (w0 : World) (bx bt bd bp ba : Nat) (A : Dev) (P : List Nat) (F : Mut) (L' : List Pr) (mx : Nat) (v : Value) (w' : World) : Prop where
  ex : ∃ (root' : Int) (a' : Option Addr) (c' : Nat) (A' : Dev) (P' : List Nat) (F' : Mut), v = .tuple #[.int .i64 root', .slice a' L'.length c', .bool true] ∧ Dk w' bx bt bd bp ba A' P' F' ∧ Grown (TM F ba bt bp []) (TM F' ba bt bp []) w0 w' ∧ Stepped 10 A P root' L' A' P' (mx + 40) ∧ Prs w' (TM F' ba bt bp []) a' L'.length c' L'
theorem Dk.step {w w' : World} {bx bt bd bp ba : Nat} {A A' : Dev} {P P' : List Nat} {F F' : Mut} (D : Dk w bx bt bd bp ba A P F) (T : Tx w' bt bd bp ba 10 A' P' F' []) (t : Grown (TM F ba bt bp []) (TM F' ba bt bp []) w w') : Dk w' bx bt bd bp ba A' P' F' :=
  ⟨t.keep D.dk D.nx, T, fun h => (t.2 bx h).elim D.nx fun h => by have := heap_lt D.dk; omega⟩
theorem Dk.call {w w' : World} {bx bt bd bp ba : Nat} {A : Dev} {P : List Nat} {F : Mut} (D : Dk w bx bt bd bp ba A P F) (hx : Ext [] w w') : Dk w' bx bt bd bp ba A P F := D.step (D.T.call hx) (.call0 hx)

theorem rk_key (k : Nat) : rightK k 0 = (decide (1 ≤ k) && decide (k ≤ 32)) := by unfold rightK; simp
theorem rk_f {k v : Nat} (hk : rightK k v = false) (h : (decide (1 ≤ k) && decide (k ≤ 32)) = true) : (!decide (v ≤ 128)) = true := by
  unfold rightK at hk
  rw [← Bool.and_assoc, h, Bool.true_and] at hk
  rw [hk]; rfl
theorem rk_t {k v : Nat} (hk : rightK k v = true) : (decide (1 ≤ k) && decide (k ≤ 32)) = true ∧ (!decide (v ≤ 128)) = false := by
  unfold rightK at hk
  rw [← Bool.and_assoc, Bool.and_eq_true] at hk
  rw [hk.2]; exact ⟨hk.1, rfl⟩

set_option maxRecDepth 20000 in
set_option maxHeartbeats 8000000 in
theorem does_ok {w : World} {bx bt bd bp ba : Nat} {A : Dev} {P : List Nat} {F : Mut} (D : Dk w bx bt bd bp ba A P F) {root : Int} {L : List Pr} (T : TreeAt 10 A P root L) (hon : A.on = true) (hl : 10 + P.length ≤ A.B.length) (hP : P.length ≤ 2000) (hleft : A.left = -1) (hfree : 24 ≤ freeP P) {mx : Nat} (hfew : Few A mx) (hmx : mx ≤ 700000000)
    {la : Option Addr} {lc : Nat} (PL : Prs w (TM F ba bt bp []) la L.length lc L) (hL : L.length ≤ 1000000) (m : Sm) (hm : m.Ok w (TM F ba bt bp [])) :
    Ret Tryz.prog 16 #[ptr bx, .int .i64 root, .slice la L.length lc, .agg m.enc.toArray] w fun v w' => Does w bx bt bd bp ba A P F (stepL m.s L) mx v w' := by
  obtain ⟨w0, rfl⟩ : ∃ w0, w0 = w := ⟨_, rfl⟩
  have hmlt := D.T.mlt
  obtain ⟨S, td, -, -⟩ := T.told hon hl hP
  have hlo := td.rlo; have hhi := td.rhi
  have H := Ctx.start w0 []
  refine ret_of_W (fn := Tryz.f16) Tryz.func16 rfl [.pointer (some ⟨bx, 0, none⟩), .int .i64 root, .slice la L.length lc, .agg m.enc.toArray] rfl (by kernel_rfl) ?_
  refine W_rseq ?_
  refine op_box rfl m.enc (.agg _) rfl rfl H ?_
  rintro b7 w - H
  refine op_assign rfl (.int _ _) rfl ?_
  refine op_assign rfl (.slice _ _ _) rfl ?_
  refine op_assign rfl (.bool _) rfl ?_
  refine op_nil (at_then ?_)
  refine W_seq ?_
  refine W_rseq ?_
  refine op_fieldAddr rfl fo_30_0_TrG3 rfl ?_
  refine op_ldb rfl ag_4 rfl H (by first | exact at0 | exact at1 | exact at2 | exact at3 | exact at4 | exact at5 | exact at6 | exact at7 | exact at8 | exact at9) rfl ?_
  refine op_nil (at_then ?_)
  refine W_cond _ rfl ?_ ?_
  · intro hA
    obtain ⟨w1, rfl⟩ : ∃ z, z = w := ⟨_, rfl⟩
    have hx1 := H.ext
    have D1 := D.call hx1
    have hb7 := H.get at0
    have hn7 : ¬ TM F ba bt bp [] b7 := fun h => by
      have h1 := hmlt _ h
      have h2 := (H.own _ (List.mem_cons_self ..)).elim (fun h => by cases h) id
      dsimp only at h2; omega
    have hdr := Grown.call0 (F := TM F ba bt bp []) (Ext.drew [] w1)
    have hkd : Rdx w1.drew (TM F ba bt bp []) m.ka m.s.key := (hm.k.call hx1).turn hdr
    obtain ⟨ct, hct⟩ : ∃ ct, ct = cutT 10 A P root m.s.key := ⟨_, rfl⟩
    have hgood := cut_good (key := m.s.key) T hon hl hP hleft hfree hfew
    rw [← hct] at hgood
    have hok99 : (cutT 10 A P root m.s.key).1 ≠ 99 := by
      rw [← hct]
      rcases hgood with ⟨_, h⟩ | ⟨_, h, _⟩
      · rw [h]; simp
      · rw [h]; decide
    refine W_sseqz [([0, 1, 2, 3, 4, 5, 6], 7), ([8, 9, 10, 11, 12, 13], 14)] (fun z => z.heap[bx]? = some (Bl 36 [ptr bd, ptr bp, ptr bt]) ∧ z.heap[b7]? = some (Bl 30 m.enc)) [] mixed (by kernel_rfl) (⟨D1.dk, hb7⟩) ?_
    refine seg_cons rfl rfl ?_
    refine t_move rfl (.pointer _) rfl ?_
    refine t_nilCheck rfl rfl ?_
    refine t_fieldAddr rfl fo_36_2_TrG3 rfl ?_
    first | refine t_ldb rfl ag_34_TrG3 rfl (fun _ _ => Ctx.start _ []) (by first | exact at0 | exact at1 | exact at2 | exact at3 | exact at4 | exact at5 | exact at6 | exact at7 | exact at8 | exact at9) rfl ?_ | refine t_ld rfl ag_34_TrG3 rfl (fun _ hx => (by rw [cell_bl hx.1]; rfl)) ?_ | refine t_ld rfl ag_34_TrG3 rfl (fun _ hx => (by rw [cell_bl hx.2]; rfl)) ?_
    refine t_move rfl (.int _ _) rfl ?_
    refine t_fieldAddr rfl fo_30_1_TrG3 rfl ?_
    first | refine t_ldb rfl ag_23 rfl (fun _ _ => Ctx.start _ []) (by first | exact at0 | exact at1 | exact at2 | exact at3 | exact at4 | exact at5 | exact at6 | exact at7 | exact at8 | exact at9) rfl ?_ | refine t_ld rfl ag_23 rfl (fun _ hx => (by rw [cell_bl hx.1]; rfl)) ?_ | refine t_ld rfl ag_23 rfl (fun _ hx => (by rw [cell_bl hx.2]; rfl)) ?_
    refine t_nil ?_
    skip
    refine op_call rfl ca_27_TrG3 (cut8_ok (by omega) (D1.call (Ext.drew [] w1)).T root (by omega) (by omega) m.ka m.kc _ m.s.key hkd rfl (by have := hm.kl; omega) hfew (by omega) hok99) rfl ?_
    rintro v w2 ⟨F2, rfl, T2, g2⟩
    rw [← hct] at T2
    rw [← hct]
    have g12 := hdr.trans g2
    have D2 := D1.step T2 g12
    have hb72 := g12.keep hb7 hn7
    refine op_nil (at_seg (⟨D2.dk, hb72⟩) ?_)
    refine seg_cons rfl rfl ?_
    refine t_move rfl (.tuple _) rfl ?_
    refine t_extract rfl rfl rfl ?_
    refine t_extract rfl rfl rfl ?_
    refine t_extract rfl rfl rfl ?_
    refine t_assign rfl (.int _ _) rfl ?_
    refine t_assign rfl (.bool _) rfl ?_
    refine t_nil ?_
    refine op_assign rfl (.int _ _) rfl ?_
    refine op_nil (at_seg (⟨D2.dk, hb72⟩) ?_)
    refine seg_nil ?_
    have g02 := (Grown.call0 (F := TM F ba bt bp []) hx1).trans g12
    have PL2 := PL.turn g02
    have hm2k := hm.k.turn g02
    have H := Ctx.start w2 []
    refine W_rseq ?_
    refine op_move rfl (.slice _ _ _) rfl ?_
    refine op_fieldAddr rfl fo_30_1_TrG3 rfl ?_
    first | refine op_ldb rfl ag_23 rfl H (by first | exact at0 | exact at1 | exact at2 | exact at3 | exact at4 | exact at5 | exact at6 | exact at7 | exact at8 | exact at9) rfl ?_ | refine op_ld rfl ag_23 rfl ((by rw [cell_bl hb72]; rfl)) ?_
    refine op_call rfl ca_18_TrG3 (rget7_ok (M2 := fun _ => False) PL2 (by omega) hm2k.1 rfl T.rise) rfl ?_
    rintro v w3 ⟨va, vc, u, rfl, hx3, -, -, -⟩
    refine op_move rfl (.tuple _) rfl ?_
    refine op_extract rfl rfl rfl ?_
    refine op_extract rfl rfl rfl ?_
    refine op_assign rfl (.slice _ _ _) rfl ?_
    refine op_assign rfl (.bool _) rfl ?_
    refine op_nil (at_then ?_)
    refine W_seq ?_
    have hb73 : w3.heap[b7]? = some (Bl 30 m.enc) := by rw [hx3.block b7 (heap_lt hb72) (by simp)]; exact hb72
    have D3 := D2.call hx3
    have g03 := g02.trans (.call0 hx3)
    have PL3 := PL.turn g03
    have H := Ctx.start w3 []
    rcases hgood with ⟨hk, hc⟩ | ⟨hk, h1, h2, h3, h4⟩
    · skip
      have hst : stepL m.s L = L := by unfold stepL; rw [if_pos hA, if_neg (by rw [hk]; simp)]
      rw [hst]
      rw [hc] at T2 D3
      rw [hc]
      refine W_rseq ?_
      refine op_fieldAddr rfl fo_30_1_TrG3 rfl ?_
      first | refine op_ldb rfl ag_23 rfl H (by first | exact at0 | exact at1 | exact at2 | exact at3 | exact at4 | exact at5 | exact at6 | exact at7 | exact at8 | exact at9) rfl ?_ | refine op_ld rfl ag_23 rfl ((by rw [cell_bl hb73]; rfl)) ?_
      refine op_call rfl ca_19_TrG3 (mayKey_ok m.ka m.s.key.length m.kc w3) rfl ?_
      rintro v w5 ⟨rfl, rfl⟩
      rw [← rk_key, hk]
      refine op_not rfl rfl ?_
      refine op_nil (at_then ?_)
      refine W_cond1 rfl ?_
      refine W_rseq ?_
      refine op_move rfl (.int _ _) rfl ?_
      refine op_move rfl (.slice _ _ _) rfl ?_
      refine op_move rfl (.int _ _) rfl ?_
      refine op_eql rfl rfl rfl ?_
      refine op_move rfl (.bool _) rfl ?_
      refine op_move rfl (.bool _) rfl ?_
      refine op_not rfl rfl ?_
      refine op_pick1 rfl rfl (.bool _) rfl ?_
      refine op_assign rfl (.int _ _) rfl ?_
      refine op_assign rfl (.slice _ _ _) rfl ?_
      refine op_assign rfl (.bool _) rfl ?_
      refine op_nil (at_then ?_)
      refine W_ret (ret_then (ret_then (leave3 (v1 := (.int _ _)) (v2 := (.slice _ _ _)) (v3 := (.bool _)) rfl rfl rfl rfl rfl ?_)))
      exact ⟨root, la, lc, A, P, F2, rfl, D3, g03, ⟨T, After.refl _ _ _, hon, hfew.mono (by omega)⟩, PL3⟩
    · skip
      have hst : stepL m.s L = cutP L m.s.key := by unfold stepL; rw [if_pos hA, if_pos hk]
      rw [hst, h1, h2]
      refine W_rseq ?_
      refine op_fieldAddr rfl fo_30_1_TrG3 rfl ?_
      first | refine op_ldb rfl ag_23 rfl H (by first | exact at0 | exact at1 | exact at2 | exact at3 | exact at4 | exact at5 | exact at6 | exact at7 | exact at8 | exact at9) rfl ?_ | refine op_ld rfl ag_23 rfl ((by rw [cell_bl hb73]; rfl)) ?_
      refine op_call rfl ca_19_TrG3 (mayKey_ok m.ka m.s.key.length m.kc w3) rfl ?_
      rintro v w5 ⟨rfl, rfl⟩
      rw [← rk_key, hk]
      refine op_not rfl rfl ?_
      refine op_nil (at_then ?_)
      refine W_cond0 rfl ?_
      refine W_skip (at_then ?_)
      refine W_seq ?_
      cases hg : (getP L m.s.key).isSome
      · rw [h3 hg]
        refine W_rseq ?_
        refine op_move rfl (.int _ _) rfl ?_
        refine op_neq rfl rfl rfl ?_
        refine op_move rfl (.bool _) rfl ?_
        refine op_move rfl (.bool _) rfl ?_
        refine op_move rfl (.bool _) rfl ?_
        refine op_neqb un_4_TrG3 rfl rfl rfl ?_
        refine op_pick0 rfl rfl (.bool _) rfl ?_
        refine op_move rfl (.bool _) rfl ?_
        refine op_move rfl (.bool _) rfl ?_
        refine op_not rfl rfl ?_
        refine op_move rfl (.bool _) rfl ?_
        refine op_move rfl (.int _ _) rfl ?_
        refine op_move rfl (.int _ _) rfl ?_
        refine op_neq rfl rfl rfl ?_
        rw [show (!decide (root = root)) = false from by simp]
        refine op_pick1 rfl rfl (.bool _) rfl ?_
        refine op_pick0 rfl rfl (.bool _) rfl ?_
        refine op_nil (at_then ?_)
        refine W_cond0 rfl ?_
        refine W_skip (at_then ?_)
        refine W_rseq ?_
        refine op_move rfl (.int _ _) rfl ?_
        refine op_move rfl (.slice _ _ _) rfl ?_
        refine op_fieldAddr rfl fo_30_1_TrG3 rfl ?_
        first | refine op_ldb rfl ag_23 rfl H (by first | exact at0 | exact at1 | exact at2 | exact at3 | exact at4 | exact at5 | exact at6 | exact at7 | exact at8 | exact at9) rfl ?_ | refine op_ld rfl ag_23 rfl ((by rw [cell_bl hb73]; rfl)) ?_
        refine op_call rfl ca_40_TrG3 (rcut7_ok D3.T.mlt PL3 (by omega) (hm.k.turn g03).1 rfl) rfl ?_
        rintro v w6 ⟨a6, c6, rfl, P6, hx6⟩
        refine op_assign rfl (.int _ _) rfl ?_
        refine op_assign rfl (.slice _ _ _) rfl ?_
        refine op_assign rfl (.bool _) rfl ?_
        refine op_nil (at_then ?_)
        refine W_ret (ret_then (leave3 (v1 := (.int _ _)) (v2 := (.slice _ _ _)) (v3 := (.bool _)) rfl rfl rfl rfl rfl ?_))
        rw [h3 hg] at h4
        exact ⟨root, a6, c6, ct.2.2.2.1, ct.2.2.2.2, F2, rfl, D3.call hx6, g03.trans (.call0 hx6), h4, P6⟩
      · skip
        refine W_rseq ?_
        refine op_move rfl (.int _ _) rfl ?_
        refine op_neq rfl rfl rfl ?_
        refine op_move rfl (.bool _) rfl ?_
        refine op_move rfl (.bool _) rfl ?_
        refine op_move rfl (.bool _) rfl ?_
        refine op_neqb un_4_TrG3 rfl rfl rfl ?_
        refine op_pick0 rfl rfl (.bool _) rfl ?_
        refine op_move rfl (.bool _) rfl ?_
        refine op_move rfl (.bool _) rfl ?_
        refine op_not rfl rfl ?_
        refine op_move rfl (.bool _) rfl ?_
        refine op_skip rfl ?_
        refine op_skip rfl ?_
        refine op_skip rfl ?_
        refine op_pick0 rfl rfl (.bool _) rfl ?_
        refine op_pick0 rfl rfl (.bool _) rfl ?_
        refine op_nil (at_then ?_)
        refine W_cond0 rfl ?_
        refine W_skip (at_then ?_)
        refine W_rseq ?_
        refine op_move rfl (.int _ _) rfl ?_
        refine op_move rfl (.slice _ _ _) rfl ?_
        refine op_fieldAddr rfl fo_30_1_TrG3 rfl ?_
        first | refine op_ldb rfl ag_23 rfl H (by first | exact at0 | exact at1 | exact at2 | exact at3 | exact at4 | exact at5 | exact at6 | exact at7 | exact at8 | exact at9) rfl ?_ | refine op_ld rfl ag_23 rfl ((by rw [cell_bl hb73]; rfl)) ?_
        refine op_call rfl ca_40_TrG3 (rcut7_ok D3.T.mlt PL3 (by omega) (hm.k.turn g03).1 rfl) rfl ?_
        rintro v w6 ⟨a6, c6, rfl, P6, hx6⟩
        refine op_assign rfl (.int _ _) rfl ?_
        refine op_assign rfl (.slice _ _ _) rfl ?_
        refine op_assign rfl (.bool _) rfl ?_
        refine op_nil (at_then ?_)
        refine W_ret (ret_then (leave3 (v1 := (.int _ _)) (v2 := (.slice _ _ _)) (v3 := (.bool _)) rfl rfl rfl rfl rfl ?_))
        exact ⟨ct.2.1, a6, c6, ct.2.2.2.1, ct.2.2.2.2, F2, rfl, D3.call hx6, g03.trans (.call0 hx6), h4, P6⟩
  · intro hA
    obtain ⟨w1, rfl⟩ : ∃ z, z = w := ⟨_, rfl⟩
    have hx1 := H.ext
    have D1 := D.call hx1
    have hb7 := H.get at0
    have hn7 : ¬ TM F ba bt bp [] b7 := fun h => by
      have h1 := hmlt _ h
      have h2 := (H.own _ (List.mem_cons_self ..)).elim (fun h => by cases h) id
      dsimp only at h2; omega
    have hdr := Grown.call0 (F := TM F ba bt bp []) (Ext.drew [] w1)
    have hkd : Rdx w1.drew (TM F ba bt bp []) m.ka m.s.key := (hm.k.call hx1).turn hdr
    have hvd : Rdx w1.drew (TM F ba bt bp []) m.va m.s.val := (hm.v.call hx1).turn hdr
    obtain ⟨ct, hct⟩ : ∃ ct, ct = putT 10 A P root m.s.key m.s.val := ⟨_, rfl⟩
    have hgood := put_good (key := m.s.key) (val := m.s.val) T hon hl hP hleft hfree hfew
    rw [← hct] at hgood
    have hok99 : (putT 10 A P root m.s.key m.s.val).1 ≠ 99 := by
      rw [← hct]
      rcases hgood with ⟨_, h⟩ | ⟨_, h, _⟩
      · rw [h]; simp
      · rw [h]; decide
    refine W_skip (at_then ?_)
    refine W_sseqz [([0, 1, 2, 3, 4, 5, 6, 7, 8], 9), ([10, 11, 12, 13], 14)] (fun z => z.heap[bx]? = some (Bl 36 [ptr bd, ptr bp, ptr bt]) ∧ z.heap[b7]? = some (Bl 30 m.enc)) [] mixed (by kernel_rfl) (⟨D1.dk, hb7⟩) ?_
    refine seg_cons rfl rfl ?_
    refine t_move rfl (.pointer _) rfl ?_
    refine t_nilCheck rfl rfl ?_
    refine t_fieldAddr rfl fo_36_2_TrG3 rfl ?_
    first | refine t_ldb rfl ag_34_TrG3 rfl (fun _ _ => Ctx.start _ []) (by first | exact at0 | exact at1 | exact at2 | exact at3 | exact at4 | exact at5 | exact at6 | exact at7 | exact at8 | exact at9) rfl ?_ | refine t_ld rfl ag_34_TrG3 rfl (fun _ hx => (by rw [cell_bl hx.1]; rfl)) ?_ | refine t_ld rfl ag_34_TrG3 rfl (fun _ hx => (by rw [cell_bl hx.2]; rfl)) ?_
    refine t_move rfl (.int _ _) rfl ?_
    refine t_fieldAddr rfl fo_30_1_TrG3 rfl ?_
    first | refine t_ldb rfl ag_23 rfl (fun _ _ => Ctx.start _ []) (by first | exact at0 | exact at1 | exact at2 | exact at3 | exact at4 | exact at5 | exact at6 | exact at7 | exact at8 | exact at9) rfl ?_ | refine t_ld rfl ag_23 rfl (fun _ hx => (by rw [cell_bl hx.1]; rfl)) ?_ | refine t_ld rfl ag_23 rfl (fun _ hx => (by rw [cell_bl hx.2]; rfl)) ?_
    refine t_fieldAddr rfl fo_30_2_TrG3 rfl ?_
    first | refine t_ldb rfl ag_23 rfl (fun _ _ => Ctx.start _ []) (by first | exact at0 | exact at1 | exact at2 | exact at3 | exact at4 | exact at5 | exact at6 | exact at7 | exact at8 | exact at9) rfl ?_ | refine t_ld rfl ag_23 rfl (fun _ hx => (by rw [cell_bl hx.1]; rfl)) ?_ | refine t_ld rfl ag_23 rfl (fun _ hx => (by rw [cell_bl hx.2]; rfl)) ?_
    refine t_nil ?_
    skip
    refine op_call rfl ca_26_TrG3 (put8_ok (by omega) (D1.call (Ext.drew [] w1)).T root (by omega) (by omega) m.ka m.va m.kc m.vc _ _ m.s.key m.s.val hkd hvd rfl rfl hm.kc hm.vc (by have := hm.kl; omega) hfew (by omega) hok99) rfl ?_
    rintro v w2 ⟨F2, rfl, T2, g2⟩
    rw [← hct] at T2
    rw [← hct]
    have g12 := hdr.trans g2
    have D2 := D1.step T2 g12
    have hb72 := g12.keep hb7 hn7
    refine op_nil (at_seg (⟨D2.dk, hb72⟩) ?_)
    refine seg_cons rfl rfl ?_
    refine t_move rfl (.tuple _) rfl ?_
    refine t_extract rfl rfl rfl ?_
    refine t_extract rfl rfl rfl ?_
    refine t_assign rfl (.int _ _) rfl ?_
    refine t_nil ?_
    refine op_assign rfl (.int _ _) rfl ?_
    refine op_nil (at_seg (⟨D2.dk, hb72⟩) ?_)
    refine seg_nil ?_
    refine W_seq ?_
    have g02 := (Grown.call0 (F := TM F ba bt bp []) hx1).trans g12
    have PL2 := PL.turn g02
    have H := Ctx.start w2 []
    rcases hgood with ⟨hk, hc⟩ | ⟨hk, h1, h4⟩
    · skip
      have hst : stepL m.s L = L := by unfold stepL; rw [if_neg (by rw [hA]; simp), if_neg (by rw [hk]; simp)]
      rw [hst]
      rw [hc] at T2 D2
      rw [hc]
      refine W_rseq (Wops_join (α := Unit) 158301582523618002652725510144 (fun _ => [(96, .bool (true))]) (fun _ w' => w2 = w') rfl ?_ ?_)
      · refine op_fieldAddr rfl fo_30_1_TrG3 rfl ?_
        first | refine op_ldb rfl ag_23 rfl H (by first | exact at0 | exact at1 | exact at2 | exact at3 | exact at4 | exact at5 | exact at6 | exact at7 | exact at8 | exact at9) rfl ?_ | refine op_ld rfl ag_23 rfl ((by rw [cell_bl hb72]; rfl)) ?_
        refine op_call rfl ca_19_TrG3 (mayKey_ok m.ka m.s.key.length m.kc w2) rfl ?_
        rintro v w5 ⟨rfl, rfl⟩
        refine op_not rfl rfl ?_
        refine op_move rfl (.bool _) rfl ?_
        refine Wops_split 91 rfl ?_ ?_
        · intro h1
          replace h1 := nvar_t h1
          refine op_skip rfl ?_
          refine op_skip rfl ?_
          refine op_skip rfl ?_
          refine op_skip rfl ?_
          refine op_pick1 rfl rfl (.bool _) rfl ?_
          refine op_nil ?_
          exact ⟨rfl, (), rfl, ⟨congrArg Value.bool (by first | rfl | exact rk_f hk h2), trivial⟩, rfl⟩
        · intro h2
          replace h2 := nvar_f h2
          refine op_fieldAddr rfl fo_30_2_TrG3 rfl ?_
          first | refine op_ldb rfl ag_23 rfl H (by first | exact at0 | exact at1 | exact at2 | exact at3 | exact at4 | exact at5 | exact at6 | exact at7 | exact at8 | exact at9) rfl ?_ | refine op_ld rfl ag_23 rfl ((by rw [cell_bl hb72]; rfl)) ?_
          refine op_call rfl ca_37_TrG3 (mayVal_ok m.va m.s.val.length m.vc w2) rfl ?_
          rintro v w5 ⟨rfl, rfl⟩
          refine op_not rfl rfl ?_
          refine op_pick0 rfl rfl (.bool _) rfl ?_
          refine op_nil ?_
          exact ⟨rfl, (), rfl, ⟨congrArg Value.bool (by first | rfl | exact rk_f hk h2), trivial⟩, rfl⟩
      rintro - j96 w rfl
      refine W_cond1 rfl ?_
      refine W_rseq ?_
      refine op_move rfl (.int _ _) rfl ?_
      refine op_move rfl (.slice _ _ _) rfl ?_
      refine op_move rfl (.int _ _) rfl ?_
      refine op_eql rfl rfl rfl ?_
      refine op_assign rfl (.int _ _) rfl ?_
      refine op_assign rfl (.slice _ _ _) rfl ?_
      refine op_assign rfl (.bool _) rfl ?_
      refine op_nil (at_then ?_)
      refine W_ret (ret_then (leave3 (v1 := (.int _ _)) (v2 := (.slice _ _ _)) (v3 := (.bool _)) rfl rfl rfl rfl rfl ?_))
      exact ⟨root, la, lc, A, P, F2, rfl, D2, g02, ⟨T, After.refl _ _ _, hon, hfew.mono (by omega)⟩, PL2⟩
    · skip
      have hst : stepL m.s L = putP L m.s.key m.s.val := by unfold stepL; rw [if_neg (by rw [hA]; simp), if_pos hk]
      rw [hst, h1]
      refine W_rseq (Wops_join (α := Unit) 158301582523618002652725510144 (fun _ => [(96, .bool (false))]) (fun _ w' => w2 = w') rfl ?_ ?_)
      · refine op_fieldAddr rfl fo_30_1_TrG3 rfl ?_
        first | refine op_ldb rfl ag_23 rfl H (by first | exact at0 | exact at1 | exact at2 | exact at3 | exact at4 | exact at5 | exact at6 | exact at7 | exact at8 | exact at9) rfl ?_ | refine op_ld rfl ag_23 rfl ((by rw [cell_bl hb72]; rfl)) ?_
        refine op_call rfl ca_19_TrG3 (mayKey_ok m.ka m.s.key.length m.kc w2) rfl ?_
        rintro v w5 ⟨rfl, rfl⟩
        refine op_not rfl rfl ?_
        refine op_move rfl (.bool _) rfl ?_
        refine Wops_split 91 rfl ?_ ?_
        · intro h3
          replace h3 := nvar_t h3
          refine op_skip rfl ?_
          refine op_skip rfl ?_
          refine op_skip rfl ?_
          refine op_skip rfl ?_
          refine op_pick1 rfl rfl (.bool _) rfl ?_
          refine op_nil ?_
          exact ⟨rfl, (), rfl, ⟨congrArg Value.bool (by first | exact (rk_t hk).2 | exact absurd ((rk_t hk).1.symm.trans h3) (by decide)), trivial⟩, rfl⟩
        · intro h4
          replace h4 := nvar_f h4
          refine op_fieldAddr rfl fo_30_2_TrG3 rfl ?_
          first | refine op_ldb rfl ag_23 rfl H (by first | exact at0 | exact at1 | exact at2 | exact at3 | exact at4 | exact at5 | exact at6 | exact at7 | exact at8 | exact at9) rfl ?_ | refine op_ld rfl ag_23 rfl ((by rw [cell_bl hb72]; rfl)) ?_
          refine op_call rfl ca_37_TrG3 (mayVal_ok m.va m.s.val.length m.vc w2) rfl ?_
          rintro v w5 ⟨rfl, rfl⟩
          refine op_not rfl rfl ?_
          refine op_pick0 rfl rfl (.bool _) rfl ?_
          refine op_nil ?_
          exact ⟨rfl, (), rfl, ⟨congrArg Value.bool (by first | exact (rk_t hk).2 | exact absurd ((rk_t hk).1.symm.trans h3) (by decide)), trivial⟩, rfl⟩
      rintro - j96 w rfl
      refine W_cond0 rfl ?_
      refine W_skip (at_then ?_)
      refine W_seq ?_
      refine W_rseq ?_
      refine op_move rfl (.int _ _) rfl ?_
      refine op_neq rfl rfl rfl ?_
      refine op_nil (at_then ?_)
      refine W_cond0 rfl ?_
      refine W_skip (at_then ?_)
      have hm2k := hm.k.turn g02
      have hm2v := hm.v.turn g02
      have hM2 := D2.T.mlt
      have fin : ∀ (z : World) (a1 : Option Addr) (c1 : Nat) (a2 : Option Addr) (c2 : Nat), Ext [] w2 z → Rdx z (TM F2 ba bt bp []) a1 m.s.key → m.s.key.length ≤ c1 → Rdx z (TM F2 ba bt bp []) a2 m.s.val → m.s.val.length ≤ c2 →
          Ret Tryz.prog 41 #[.slice la L.length lc, .slice a1 m.s.key.length c1, .slice a2 m.s.val.length c2] z fun v w' => ∃ a' c', v = .slice a' (putP L m.s.key m.s.val).length c' ∧ Prs w' (TM F2 ba bt bp []) a' (putP L m.s.key m.s.val).length c' (putP L m.s.key m.s.val) ∧ Ext [] z w' := fun z a1 c1 a2 c2 hz X1 h1 X2 h2 => rput7_ok (fun x h => Nat.lt_of_lt_of_le (hM2 x h) hz.size) (PL2.turn (.call0 hz)) (by omega) X1 rfl h1 X2 rfl h2 T.rise
      refine W_strz (.two [0, 1, 3, 4, 7, 8] 2 (.two [] 5 (.one [] 6 (.one [] 9 (.one [] 10 (.one [] 11 (.one [] 12 (.one [] 13 .stop)))))) 6 (.one [] 5 (.one [] 9 (.one [] 10 (.one [] 11 (.one [] 12 (.one [] 13 .stop))))))) 6 (.one [] 2 (.one [] 5 (.one [] 9 (.one [] 10 (.one [] 11 (.one [] 12 (.one [] 13 .stop)))))))) (fun z => Ext [] w2 z) mixed (by kernel_rfl) (Ext.drew [] w2) ?_
      refine tr_two rfl rfl rfl ?_
      refine t_move rfl (.int _ _) rfl ?_
      refine t_move rfl (.slice _ _ _) rfl ?_
      refine t_fieldAddr rfl fo_30_1_TrG3 rfl ?_
      first | refine t_ldb rfl ag_23 rfl (fun _ _ => Ctx.start _ []) (by first | exact at0 | exact at1 | exact at2 | exact at3 | exact at4 | exact at5 | exact at6 | exact at7 | exact at8 | exact at9) rfl ?_ | refine t_ld rfl ag_23 rfl (fun _ hx => (by rw [cell_bl (show _ = some (Bl 30 m.enc) from by rw [hx.block b7 (heap_lt hb72) (by simp)]; exact hb72)]; rfl)) ?_
      refine t_fieldAddr rfl fo_30_2_TrG3 rfl ?_
      first | refine t_ldb rfl ag_23 rfl (fun _ _ => Ctx.start _ []) (by first | exact at0 | exact at1 | exact at2 | exact at3 | exact at4 | exact at5 | exact at6 | exact at7 | exact at8 | exact at9) rfl ?_ | refine t_ld rfl ag_23 rfl (fun _ hx => (by rw [cell_bl (show _ = some (Bl 30 m.enc) from by rw [hx.block b7 (heap_lt hb72) (by simp)]; exact hb72)]; rfl)) ?_
      refine t_nil ?_
      have E := Ext.drew [] w2
      refine ⟨?_, ?_⟩
      · skip
        refine op_new8 rfl ?_
        rintro b1 wa Ea hn1 hb1
        have hs1a := E.size
        replace E := E.trans Ea
        refine op_nil (at_tr (E) ?_)
        refine tr_two rfl rfl rfl ?_
        refine t_nil ?_
        refine ⟨?_, ?_⟩
        · skip
          refine op_app8 rfl rfl rfl hb1 (hm2k.1.ext0 E) (by have := hm.kl; omega) ?_
          rintro a1 c1 wc Ec R1 hc1 hs1
          have hs3 := E.size
          have hf1 := app_fresh (w2 := w2) hs1 (by omega) hs3
          have hE1 := E
          replace E := E.then Ec (fun x h => .inr (by rw [List.mem_singleton.1 h]; omega))
          refine op_nil (at_tr (E) ?_)
          refine tr_one rfl rfl ?_
          refine t_nil ?_
          refine op_new8 rfl ?_
          rintro b2 wb Eb hn2 hb2
          have hs2a := E.size
          replace E := E.trans Eb
          have hne := app_ne R1 hn2
          replace R1 := R1.ext0 Eb
          refine op_nil (at_tr (E) ?_)
          refine tr_one rfl rfl ?_
          refine t_nil ?_
          refine op_app8 rfl rfl rfl hb2 (hm2v.1.ext0 E) (by have := hm.vl; omega) ?_
          rintro a2 c2 wd Ed R2 hc2 hs2
          have hs4 := E.size
          have hf2 := app_fresh (w2 := w2) hs2 (by omega) hs4
          replace R1 := app_keep R1 hne Ed
          replace E := E.then Ed (fun x h => .inr (by rw [List.mem_singleton.1 h]; omega))
          refine op_nil (at_tr (E) ?_)
          refine tr_one rfl rfl ?_
          refine t_nil ?_
          refine op_call rfl ca_41_TrG3 (fin _ _ _ _ _ E ⟨R1, hf1.imp id fun h hT => by have := hM2 _ hT; omega⟩ hc1 ⟨R2, hf2.imp id fun h hT => by have := hM2 _ hT; omega⟩ hc2) rfl ?_
          rintro v w6 ⟨a6, c6, rfl, P6, hx6⟩
          replace E := E.trans hx6
          refine op_nil (at_tr (E) ?_)
          refine tr_one rfl rfl ?_
          refine t_nil ?_
          refine op_assign rfl (.int _ _) rfl ?_
          refine op_nil (at_tr (E) ?_)
          refine tr_one rfl rfl ?_
          refine t_nil ?_
          refine op_assign rfl (.slice _ _ _) rfl ?_
          refine op_nil (at_tr (E) ?_)
          refine tr_one rfl rfl ?_
          refine t_nil ?_
          refine op_assign rfl (.bool _) rfl ?_
          refine op_nil (at_tr (E) ?_)
          refine tr_stop ?_
          refine W_ret (leave3 (v1 := (.int _ _)) (v2 := (.slice _ _ _)) (v3 := (.bool _)) rfl rfl rfl rfl rfl ?_)
          exact ⟨ct.2.1, a6, c6, ct.2.2.1, ct.2.2.2, F2, rfl, D2.call E, g02.trans (.call0 E), h4, P6⟩
        · skip
          refine op_new8 rfl ?_
          rintro b2 wb Eb hn2 hb2
          have hs2a := E.size
          replace E := E.trans Eb
          have h12 : b1 ≠ b2 := (by have := heap_lt hb1; omega)
          replace hb1 : wb.heap[b1]? = some (Bl 5 []) := (by rw [Eb.block b1 (heap_lt hb1) (by simp)]; exact hb1)
          refine op_nil (at_tr (E) ?_)
          refine tr_one rfl rfl ?_
          refine t_nil ?_
          refine op_app8 rfl rfl rfl hb1 (hm2k.1.ext0 E) (by have := hm.kl; omega) ?_
          rintro a1 c1 wc Ec R1 hc1 hs1
          have hs3 := E.size
          have hf1 := app_fresh (w2 := w2) hs1 (by omega) hs3
          have hE1 := E
          replace E := E.then Ec (fun x h => .inr (by rw [List.mem_singleton.1 h]; omega))
          have hne : m.s.key = [] ∨ (adr a1).block ≠ b2 := hs1.imp id (fun h => h.elim (fun h => by omega) fun h => by have := heap_lt hb2; omega)
          replace hb2 : wc.heap[b2]? = some (Bl 5 []) := (by rw [Ec.block b2 (heap_lt hb2) (by simpa using Ne.symm h12)]; exact hb2)
          refine op_nil (at_tr (E) ?_)
          refine tr_one rfl rfl ?_
          refine t_nil ?_
          refine op_app8 rfl rfl rfl hb2 (hm2v.1.ext0 E) (by have := hm.vl; omega) ?_
          rintro a2 c2 wd Ed R2 hc2 hs2
          have hs4 := E.size
          have hf2 := app_fresh (w2 := w2) hs2 (by omega) hs4
          replace R1 := app_keep R1 hne Ed
          replace E := E.then Ed (fun x h => .inr (by rw [List.mem_singleton.1 h]; omega))
          refine op_nil (at_tr (E) ?_)
          refine tr_one rfl rfl ?_
          refine t_nil ?_
          refine op_call rfl ca_41_TrG3 (fin _ _ _ _ _ E ⟨R1, hf1.imp id fun h hT => by have := hM2 _ hT; omega⟩ hc1 ⟨R2, hf2.imp id fun h hT => by have := hM2 _ hT; omega⟩ hc2) rfl ?_
          rintro v w6 ⟨a6, c6, rfl, P6, hx6⟩
          replace E := E.trans hx6
          refine op_nil (at_tr (E) ?_)
          refine tr_one rfl rfl ?_
          refine t_nil ?_
          refine op_assign rfl (.int _ _) rfl ?_
          refine op_nil (at_tr (E) ?_)
          refine tr_one rfl rfl ?_
          refine t_nil ?_
          refine op_assign rfl (.slice _ _ _) rfl ?_
          refine op_nil (at_tr (E) ?_)
          refine tr_one rfl rfl ?_
          refine t_nil ?_
          refine op_assign rfl (.bool _) rfl ?_
          refine op_nil (at_tr (E) ?_)
          refine tr_stop ?_
          refine W_ret (leave3 (v1 := (.int _ _)) (v2 := (.slice _ _ _)) (v3 := (.bool _)) rfl rfl rfl rfl rfl ?_)
          exact ⟨ct.2.1, a6, c6, ct.2.2.1, ct.2.2.2, F2, rfl, D2.call E, g02.trans (.call0 E), h4, P6⟩
      · skip
        refine op_new8 rfl ?_
        rintro b2 wb Eb hn2 hb2
        have hs2a := E.size
        replace E := E.trans Eb
        refine op_nil (at_tr (E) ?_)
        refine tr_one rfl rfl ?_
        refine t_nil ?_
        refine op_new8 rfl ?_
        rintro b1 wa Ea hn1 hb1
        have hs1a := E.size
        replace E := E.trans Ea
        have h12 : b1 ≠ b2 := (by have := heap_lt hb2; omega)
        replace hb2 : wa.heap[b2]? = some (Bl 5 []) := (by rw [Ea.block b2 (heap_lt hb2) (by simp)]; exact hb2)
        refine op_nil (at_tr (E) ?_)
        refine tr_one rfl rfl ?_
        refine t_nil ?_
        refine op_app8 rfl rfl rfl hb1 (hm2k.1.ext0 E) (by have := hm.kl; omega) ?_
        rintro a1 c1 wc Ec R1 hc1 hs1
        have hs3 := E.size
        have hf1 := app_fresh (w2 := w2) hs1 (by omega) hs3
        have hE1 := E
        replace E := E.then Ec (fun x h => .inr (by rw [List.mem_singleton.1 h]; omega))
        have hne : m.s.key = [] ∨ (adr a1).block ≠ b2 := hs1.imp id (fun h => h.elim (fun h => by omega) fun h => by have := heap_lt hb2; omega)
        replace hb2 : wc.heap[b2]? = some (Bl 5 []) := (by rw [Ec.block b2 (heap_lt hb2) (by simpa using Ne.symm h12)]; exact hb2)
        refine op_nil (at_tr (E) ?_)
        refine tr_one rfl rfl ?_
        refine t_nil ?_
        refine op_app8 rfl rfl rfl hb2 (hm2v.1.ext0 E) (by have := hm.vl; omega) ?_
        rintro a2 c2 wd Ed R2 hc2 hs2
        have hs4 := E.size
        have hf2 := app_fresh (w2 := w2) hs2 (by omega) hs4
        replace R1 := app_keep R1 hne Ed
        replace E := E.then Ed (fun x h => .inr (by rw [List.mem_singleton.1 h]; omega))
        refine op_nil (at_tr (E) ?_)
        refine tr_one rfl rfl ?_
        refine t_nil ?_
        refine op_call rfl ca_41_TrG3 (fin _ _ _ _ _ E ⟨R1, hf1.imp id fun h hT => by have := hM2 _ hT; omega⟩ hc1 ⟨R2, hf2.imp id fun h hT => by have := hM2 _ hT; omega⟩ hc2) rfl ?_
        rintro v w6 ⟨a6, c6, rfl, P6, hx6⟩
        replace E := E.trans hx6
        refine op_nil (at_tr (E) ?_)
        refine tr_one rfl rfl ?_
        refine t_nil ?_
        refine op_assign rfl (.int _ _) rfl ?_
        refine op_nil (at_tr (E) ?_)
        refine tr_one rfl rfl ?_
        refine t_nil ?_
        refine op_assign rfl (.slice _ _ _) rfl ?_
        refine op_nil (at_tr (E) ?_)
        refine tr_one rfl rfl ?_
        refine t_nil ?_
        refine op_assign rfl (.bool _) rfl ?_
        refine op_nil (at_tr (E) ?_)
        refine tr_stop ?_
        refine W_ret (leave3 (v1 := (.int _ _)) (v2 := (.slice _ _ _)) (v3 := (.bool _)) rfl rfl rfl rfl rfl ?_)
        exact ⟨ct.2.1, a6, c6, ct.2.2.1, ct.2.2.2, F2, rfl, D2.call E, g02.trans (.call0 E), h4, P6⟩

end Go.Proofs.YtbkadlngijkmmaaGreatDoor
