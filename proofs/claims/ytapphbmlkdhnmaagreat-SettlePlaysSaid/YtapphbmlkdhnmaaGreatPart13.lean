/- Part 13 of the proof. -/
import Derived.Test.YtapphbmlkdhnmaaGreatPart12
import Derived.Test.YtapphbmlkdhnmaaGreatPart8
/- The keys of the dues' map: gathered, sorted. -/
namespace Go.Proofs.YtapphbmlkdhnmaaGreat
open Go.GV
theorem ag_25_SnB : aggB Tryz.prog 25 = some false := by kernel_rfl
theorem by_24_SnB : tbytes Tryz.prog 24 = some 8 := by kernel_rfl
theorem ca_123_SnB : callable Tryz.prog 123 = true := by kernel_rfl
theorem el_25_SnB : elemT Tryz.prog 25 = some 24 := by kernel_rfl
theorem sz_24_SnB : tsize Tryz.prog 24 = some 1 := by kernel_rfl
theorem sz_25_SnB : tsize Tryz.prog 25 = some 1 := by kernel_rfl
theorem zc_24_SnB : zcells Tryz.prog 24 = some ([.int .u64 0]) := by kernel_rfl
attribute [local irreducible] Wops W Wq Wt

def u64v (x : Int) : Value := .int .u64 x
/-- A slice of numbers of 64 bits that the call has made. -/
structure FreshU (w w' : World) (v : Value) (l : List Int) : Prop where
  ex : ∃ a n c full, v = .slice a n c ∧ OS a n c 1 full (l.map u64v) ∧ (∀ x ∈ full, ∃ z, x = u64v z) ∧ ∀ x ∈ ent a 24 full, w'.heap[x.1]? = some x.2 ∧ w.heap.size ≤ x.1
  ext : Ext [] w w'
def keysF (bk : Nat) : Value := .func (.func 123) #[] #[ptr bk]
theorem keys_ok {b : Nat} (w : World) : Ret Tryz.prog 62 #[.map (some b)] w fun v w' => ∃ bk, v = keysF bk ∧ w'.heap[bk]? = some (Bl 121 [.map (some b)]) ∧ w.heap.size ≤ bk ∧ Ext [] w w' := by
  obtain ⟨w0, rfl⟩ : ∃ w0, w0 = w := ⟨_, rfl⟩
  have H := Ctx.start w0 []
  refine ret_of_W (fn := Tryz.f62) Tryz.func62 rfl [.map (some b)] rfl (by kernel_rfl) ?_
  refine W_rseq ?_
  refine op_box rfl _ (.map _) rfl rfl H ?_
  rintro b1 w - H
  refine op_assign rfl .nilFunc rfl ?_
  refine op_nil (at_then ?_)
  refine W_rseq ?_
  refine op_makeFuncL rfl [.pointer _] rfl ?_
  refine op_assign rfl (.func _ _ _) rfl ?_
  refine op_nil (at_then ?_)
  refine W_ret (leave1 (v := (.func _ _ _)) rfl rfl rfl ?_)
  exact ⟨_, rfl, H.get at0, (H.own _ (List.mem_cons_self ..)).elim (fun h => by cases h) id, H.ext⟩

/-- What the rounds leave. -/
def appJ (w0 : World) (bk b bb k : Nat) (o : Obj) (vis : List (Int × Value)) (M : Mt) (w : World) : Prop :=
  ∃ a c full, (M = fun y => y ∈ ((bb, Bl 25 [.slice a vis.length c]) :: ent a 24 full).map (·.1)) ∧ Ctx w0 [] w ((bb, Bl 25 [.slice a vis.length c]) :: ent a 24 full) ∧
    OS a vis.length c 1 full (vis.map fun p => u64v p.1) ∧ (∀ x ∈ full, ∃ z, x = u64v z) ∧ DueK bk b o w ∧ ∀ y ∈ ((bb, Bl 25 [.slice a vis.length c]) :: ent a 24 full).map (·.1), y ≠ k ∧ y ≠ k + 1
set_option maxRecDepth 20000 in
set_option maxHeartbeats 2000000 in
theorem appseq_ok {bk b : Nat} {o : Obj} {m : List (Int × Value)} (hM : MapO .u64 m o) (hm : m.length ≤ 1000000) (w : World) (K : DueK bk b o w) :
    Ret Tryz.prog 173 #[.slice none 0 0, keysF bk] w fun v w' => ∃ vis : List (Int × Value), vis.Perm m ∧ FreshU w w' v (vis.map (·.1)) := by
  obtain ⟨w0, rfl⟩ : ∃ w0, w0 = w := ⟨_, rfl⟩
  have H := Ctx.start w0 []
  have lk := heap_lt K.h2
  have lb := heap_lt K.hb
  refine ret_of_WM (fn := Tryz.f173) Tryz.func173 rfl [.slice none 0 0, .func (.func 123) #[] #[.pointer (some ⟨bk, 0, none⟩)]] rfl (by kernel_rfl) ?_
  refine W_rseq ?_
  refine op_box rfl _ (.slice _ _ _) rfl rfl H ?_
  rintro b2 w - H
  refine op_assign rfl (.slice _ _ _) rfl ?_
  refine op_nil (at_then ?_)
  refine W_seq ?_
  refine W_rseq ?_
  refine op_move rfl (.func _ _ _) rfl ?_
  refine op_nil (at_then ?_)
  refine W_block ?_
  obtain ⟨ws, rfl⟩ : ∃ z, z = w := ⟨_, rfl⟩
  have hb2 := (H.own _ (List.mem_cons_self ..)).elim (fun h => by cases h) id
  have l2 := H.lt at0
  have hsz := H.size
  dsimp only at hb2
  have K2 : DueK bk b o ws := ⟨H.ext.to K.h2 (by simp), H.ext.to K.hb (by simp)⟩
  refine W_rangeG (gf := 123) rfl ca_123_SnB (keys1_ok (b2 := bk) (b := b) hM) (by kernel_rfl) (by kernel_rfl) (fun vis v vis' h => by obtain ⟨p, -, rfl, -⟩ := h; rfl)
    (appJ w0 bk b b2 ws.heap.size o) (fun _ => False) (by simp) (fun _ _ => True.intro)
    (fun w2 hx2 _ => ⟨_, none, 0, [], rfl, H.call hx2, OS.nil, by simp, ⟨hx2.to K2.h2 (by simp), hx2.to K2.hb (by simp)⟩, by simp [ent]; omega⟩)
    (fun vis M w' w'' T hJ hT hx => ?_) (fun _ _ h _ => h) (fun vis M w' hJ => ?_) ?_ ?_ (fun _ h _ => h.elim)
  · obtain ⟨a, c, full, hMM, HJ, O, Z, KJ, hne⟩ := hJ
    refine ⟨a, c, full, hMM, HJ.step hx (fun y hy hy2 => (hT _ hy2).1 (by rw [hMM]; exact List.mem_map_of_mem (f := (·.1)) hy)) (fun x hx => .inr (by have := (hT x hx).2; omega)), O, Z, ⟨hx.to KJ.h2 (fun h => by have := (hT _ h).2; omega), hx.to KJ.hb (fun h => by have := (hT _ h).2; omega)⟩, hne⟩
  · obtain ⟨a, c, full, hMM, HJ, O, Z, KJ, hne⟩ := hJ
    refine ⟨fun x hx => ?_, KJ⟩
    rw [hMM] at hx
    obtain ⟨y, hy, rfl⟩ := List.mem_map.1 hx
    exact ⟨heap_lt (HJ.blk y hy), hne _ hx⟩
  · rintro vis v vis' M w ⟨p, rfl, rfl, hpm, hvl⟩ ⟨a, c, full, rfl, HJ, O, Z, KJ, hne⟩ hsz2
    obtain ⟨w1, rfl⟩ : ∃ z, z = w := ⟨_, rfl⟩
    refine W_region ?_
    refine op_assign rfl (.int _ _) rfl ?_
    refine op_nil ?_
    refine ⟨Ext.refl _ _, fun wB hxB => ?_⟩
    have HB := HJ.step hxB (fun y hy h => (hne _ (List.mem_map_of_mem (f := (·.1)) hy)).2 (List.mem_singleton.1 h)) (fun z hz => .inr (by rw [List.mem_singleton.1 hz]; omega))
    have KB : DueK bk b o wB := ⟨hxB.to KJ.h2 (by rw [List.mem_singleton]; omega), hxB.to KJ.hb (by rw [List.mem_singleton]; omega)⟩
    have hown : ∀ y ∈ ((b2, Bl 25 [.slice a vis.length c]) :: ent a 24 full).map (·.1), w0.heap.size ≤ y := fun y hy => by
      obtain ⟨z, hz, rfl⟩ := List.mem_map.1 hy
      exact (HJ.own z hz).elim (fun h => by cases h) id
    have hsB := hxB.size
    obtain ⟨w2, rfl⟩ : ∃ z, z = wB := ⟨_, rfl⟩
    rw [← List.append_nil ((b2, Bl 25 [.slice a vis.length c]) :: ent a 24 full)] at HB
    have H := Ctx.lend (L1 := (b2, Bl 25 [.slice a vis.length c]) :: ent a 24 full) (L2 := []) HB
    obtain ⟨SS, hSS⟩ : ∃ SS, SS = ((b2, Bl 25 [.slice a vis.length c]) :: ent a 24 full).map (·.1) := ⟨_, rfl⟩
    rw [← hSS] at H
    refine W_block ?_
    refine W_region ?_
    refine op_ldb rfl ag_25_SnB rfl H (by first | exact at0 | exact at1 | exact at2 | exact at3 | exact at4 | exact at5 | exact at6 | exact at7 | exact at8 | exact at9) rfl ?_
    refine op_move rfl (.int _ _) rfl ?_
    refine op_build1 _ (.int _ _) rfl el_25_SnB sz_24_SnB zc_24_SnB rfl (by decide) (by decide) rfl rfl rfl H ?_
    rintro b10 w - H
    refine op_appendbZ (L := [_]) rfl el_25_SnB el_25_SnB sz_24_SnB by_24_SnB zc_24_SnB rfl (by decide) rfl rfl H O rfl (by simp [oneCell]) (by omega) ?_
    rintro a' c' full' w H O Z2
    refine op_stb (.slice _ _ _) rfl sz_25_SnB rfl rfl rfl H (by first | exact at0 | exact at1 | exact at2 | exact at3 | exact at4 | exact at5 | exact at6 | exact at7 | exact at8 | exact at9) (by first | decide | (simp; done) | (simp; omega)) ?_
    rintro w H
    refine op_nil (at_block ?_)
    have hl : (vis ++ [p]).length = vis.length + 1 := by rw [List.length_append]; rfl
    rw [hSS] at H
    have HE := H.ext
    refine ⟨_, ⟨a', c', full', rfl, by rw [hl, ← List.append_nil (_ :: ent a' _ full')]; exact Ctx.back HB H, by rw [hl, List.map_append]; exact O, fun x hx => ?_, ⟨HE.to KB.h2 fun h => by have := hown _ h; omega, HE.to KB.hb fun h => by have := hown _ h; omega⟩, fun y hy => ?_⟩, fun y hy => ?_, _, HE, fun y hy => .inl hy⟩
    · rcases Z2 x hx with h | h | h
      · exact Z x h
      · exact ⟨_, List.mem_singleton.1 h⟩
      · exact ⟨_, List.mem_singleton.1 h⟩
    · rw [hl] at hy
      obtain ⟨z, hz, rfl⟩ := List.mem_map.1 hy
      rcases H.own z hz with h | h
      · exact hne _ h
      · omega
    · rw [hl] at hy
      obtain ⟨z, hz, rfl⟩ := List.mem_map.1 hy
      exact (H.own z hz).imp id fun h => by omega
  · rintro vis M w hp ⟨a, c, full, rfl, HJ, O, Z, KJ, hne⟩ hD
    have H := HJ
    refine at_block (at_then ?_)
    refine W_rseq ?_
    refine op_ldb rfl ag_25_SnB rfl H (by first | exact at0 | exact at1 | exact at2 | exact at3 | exact at4 | exact at5 | exact at6 | exact at7 | exact at8 | exact at9) rfl ?_
    refine op_assign rfl (.slice _ _ _) rfl ?_
    refine op_nil (at_then ?_)
    refine W_ret (leaveM1 (v := (.slice _ _ _)) rfl rfl ?_)
    refine marks_one hD rfl fun wF hxF => ?_
    have HF := H.step hxF (fun y hy h => (hne _ (List.mem_map_of_mem (f := (·.1)) hy)).1 (List.mem_singleton.1 h)) (fun z hz => .inr (by rw [List.mem_singleton.1 hz]; omega))
    refine ⟨vis, hp, ⟨a, vis.length, c, full, rfl, by rw [List.map_map]; exact O, Z, fun x hx => ⟨HF.blk x (List.mem_cons_of_mem _ hx), (HF.own x (List.mem_cons_of_mem _ hx)).elim (fun h => by cases h) id⟩⟩, HF.ext⟩
end Go.Proofs.YtapphbmlkdhnmaaGreat

/- The keys of the dues' map, sorted; the dues' amounts. -/
namespace Go.Proofs.YtapphbmlkdhnmaaGreat
open Go.GV
theorem ca_121_SnC : callable Tryz.prog 121 = true := by kernel_rfl
theorem ca_122_SnC : callable Tryz.prog 122 = true := by kernel_rfl
theorem ca_173_SnC : callable Tryz.prog 173 = true := by kernel_rfl
attribute [local irreducible] Wops W Wq Wt

theorem collect_ok {bk b : Nat} {o : Obj} {m : List (Int × Value)} (hM : MapO .u64 m o) (hm : m.length ≤ 1000000) (w : World) (K : DueK bk b o w) :
    Ret Tryz.prog 121 #[keysF bk] w fun v w' => ∃ vis : List (Int × Value), vis.Perm m ∧ FreshU w w' v (vis.map (·.1)) := by
  obtain ⟨w0, rfl⟩ : ∃ w0, w0 = w := ⟨_, rfl⟩
  refine ret_of_W (fn := Tryz.f121) Tryz.func121 rfl [.func (.func 123) #[] #[.pointer (some ⟨bk, 0, none⟩)]] rfl (by kernel_rfl) ?_
  refine W_rseq ?_
  refine op_assign rfl (.slice _ _ _) rfl ?_
  refine op_nil (at_then ?_)
  refine W_rseq ?_
  refine op_move rfl (.func _ _ _) rfl ?_
  refine op_call rfl ca_173_SnC (appseq_ok hM hm _ K) rfl ?_
  rintro v w ⟨vis, hp, F⟩
  obtain ⟨a, n, c, full, rfl, O, Z, hb⟩ := F.ex
  refine op_assign rfl (.slice _ _ _) rfl ?_
  refine op_nil (at_then ?_)
  refine W_ret (leave1 (v := (.slice _ _ _)) rfl rfl rfl ?_)
  exact ⟨vis, hp, F⟩
theorem u64v_inj {x y : Int} (h : u64v x = u64v y) : x = y := by unfold u64v at h; injection h
theorem all_u64 : ∀ (l : List Value), (∀ x ∈ l, ∃ z, x = u64v z) → ∃ zs : List Int, l = zs.map u64v
  | [], _ => ⟨[], rfl⟩
  | x :: l, h => by
    obtain ⟨z, rfl⟩ := h x (List.mem_cons_self ..)
    obtain ⟨zs, rfl⟩ := all_u64 l fun y hy => h y (List.mem_cons_of_mem _ hy)
    exact ⟨z :: zs, rfl⟩
theorem u64v_maps : ∀ {l m : List Int}, l.map u64v = m.map u64v → l = m
  | [], [], _ => rfl
  | [], _ :: _, h => by cases h
  | _ :: _, [], h => by cases h
  | x :: l, y :: m, h => by
    simp only [List.map_cons, List.cons.injEq] at h
    rw [u64v_inj h.1, u64v_maps h.2]
theorem tabU_tab (f : Nat → Int) (n : Nat) : tabU f n = (tab f n).map u64v := by unfold tab; rw [List.map_map]; rfl
theorem tab_take (f : Nat → Int) {n m : Nat} (h : n ≤ m) : (tab f m).take n = tab f n := by
  unfold tab
  rw [← List.map_take, List.take_range, Nat.min_eq_left h]
theorem srt_pw {g : Nat → Int} {n : Nat} (h : SrtU g 0 n) : (tab g n).Pairwise (· ≤ ·) := by
  rw [List.pairwise_iff_getElem]
  intro i j hi hj hij
  rw [tab_len] at hi hj
  have h1 := tab_get (f := g) hi
  have h2 := tab_get (f := g) hj
  rw [List.getElem?_eq_getElem (by rw [tab_len]; exact hi)] at h1
  rw [List.getElem?_eq_getElem (by rw [tab_len]; exact hj)] at h2
  injection h1 with h1
  injection h2 with h2
  rw [h1, h2]
  exact h i j (Nat.zero_le _) hij hj
theorem sortF {a : Option Addr} {n c : Nat} {full : List Value} {l : List Int} (w : World) (O : OS a n c 1 full (l.map u64v)) (Z : ∀ x ∈ full, ∃ z, x = u64v z) (hb : ∀ x ∈ ent a 24 full, w.heap[x.1]? = some x.2) (hn : n ≤ 1000000000) :
    Ret Tryz.prog 122 #[.slice a n c] w fun v w' => v = .tuple #[] ∧ ∃ (full' : List Value) (l' : List Int), l'.Perm l ∧ l'.Pairwise (· ≤ ·) ∧ OS a n c 1 full' (l'.map u64v) ∧ (∀ x ∈ full', ∃ z, x = u64v z) ∧ (∀ x ∈ ent a 24 full', w'.heap[x.1]? = some x.2) ∧ Ext ((ent a 24 full).map (·.1)) w w' := by
  cases a with
  | none =>
    obtain rfl : n = 0 := by have := O.none' rfl; have := O.le; omega
    have hl : l = [] := by have := O.llen; rw [List.length_map] at this; exact List.eq_nil_of_length_eq_zero (by omega)
    subst hl
    refine Ret.mono (sortU_none c w) ?_
    rintro v w' ⟨rfl, rfl⟩
    exact ⟨rfl, full, [], List.Perm.refl _, .nil, O, Z, hb, Ext.refl _ _⟩
  | some p =>
    have hp := O.zero p rfl
    obtain ⟨q, o, sp⟩ := p
    simp only [Addr.mk.injEq, true_and] at hp
    obtain ⟨rfl, rfl⟩ := hp
    obtain ⟨zs, rfl⟩ := all_u64 full Z
    have hlen := O.len
    rw [List.length_map, Nat.mul_one] at hlen
    have hpre := O.pre
    rw [Nat.mul_one, ← List.map_take] at hpre
    have hpre := u64v_maps hpre
    have hzs : tab (fun i => zs.getD i 0) c = zs := by rw [← hlen]; exact tab_of zs
    have hb0 : w.heap[q]? = some (Bl 24 (tabU (fun i => zs.getD i 0) c)) := by
      rw [tabU_tab, hzs]
      exact hb (q, Bl 24 (zs.map u64v)) (List.mem_singleton.2 rfl)
    refine Ret.mono (sortU_ok (c := c) hb0 O.le hn) ?_
    rintro v w' ⟨rfl, g, hP, hS, H⟩
    have hS0 : ((ent (some ⟨q, 0, none⟩) 24 (zs.map u64v)).map (·.1)) = [q] := by simp [ent]
    refine ⟨rfl, tabU g c, tab g n, ?_, srt_pw hS, ⟨O.zero, O.none', by simp, O.le, ?_⟩, fun x hx => ?_, fun x hx => ?_, by rw [hS0]; exact H.ext⟩
    · rw [← tab_take (fun i => zs.getD i 0) O.le, hzs, hpre] at hP
      exact hP
    · rw [Nat.mul_one, tabU_tab, ← List.map_take, tab_take g O.le]
    · rw [tabU_tab, List.mem_map] at hx
      obtain ⟨z, _, rfl⟩ := hx
      exact ⟨z, rfl⟩
    · simp only [ent, List.mem_singleton] at hx
      subst hx
      exact H.get at0
theorem sorted_ok {bk b : Nat} {o : Obj} {m : List (Int × Value)} (hM : MapO .u64 m o) (hm : m.length ≤ 1000000) (w : World) (K : DueK bk b o w) :
    Ret Tryz.prog 61 #[keysF bk] w fun v w' => ∃ l : List Int, l.Perm (m.map (·.1)) ∧ l.Pairwise (· ≤ ·) ∧ FreshU w w' v l := by
  obtain ⟨w0, rfl⟩ : ∃ w0, w0 = w := ⟨_, rfl⟩
  refine ret_of_W (fn := Tryz.f61) Tryz.func61 rfl [.func (.func 123) #[] #[.pointer (some ⟨bk, 0, none⟩)]] rfl (by kernel_rfl) ?_
  refine W_rseq ?_
  refine op_assign rfl (.slice _ _ _) rfl ?_
  refine op_nil (at_then ?_)
  refine W_rseq ?_
  refine op_move rfl (.func _ _ _) rfl ?_
  refine op_call rfl ca_121_SnC (collect_ok hM hm _ K) rfl ?_
  rintro v w ⟨vis, hp, F⟩
  obtain ⟨a, n, c, full, rfl, O, Z, hb⟩ := F.ex
  have hx5 := F.ext
  have hvn := O.llen
  have hvm := hp.length_eq
  rw [List.length_map, List.length_map] at hvn
  refine op_assign rfl (.slice _ _ _) rfl ?_
  refine op_nil (at_then ?_)
  refine W_rseq ?_
  refine op_move rfl (.slice _ _ _) rfl ?_
  refine op_call rfl ca_122_SnC (sortF _ O Z (fun x hx => (hb x hx).1) (by omega)) rfl ?_
  rintro v w ⟨rfl, full', l', hP, hS, O', Z', hb', hx7⟩
  refine op_nil (at_then ?_)
  refine W_rseq ?_
  refine op_move rfl (.slice _ _ _) rfl ?_
  refine op_assign rfl (.slice _ _ _) rfl ?_
  refine op_nil (at_then ?_)
  refine W_ret (leave1 (v := (.slice _ _ _)) rfl rfl rfl ?_)
  refine ⟨l', hP.trans (hp.map _), hS, ⟨_, _, _, _, rfl, O', Z', fun x hx => ⟨hb' x hx, ?_⟩⟩, hx5.then hx7 fun x hx => ?_⟩
  · cases a with
    | none => simp [ent] at hx
    | some p =>
      simp only [ent, List.mem_singleton] at hx
      subst hx
      exact (hb (p.block, Bl 24 full) (by simp [ent])).2
  · obtain ⟨y, hy, rfl⟩ := List.mem_map.1 hx
    exact .inr (hb y hy).2
end Go.Proofs.YtapphbmlkdhnmaaGreat

/- The dues: amounts. -/
namespace Go.Proofs.YtapphbmlkdhnmaaGreat
open Go.GV
theorem ag_121_SnD : aggB Tryz.prog 121 = some false := by kernel_rfl
theorem ag_2_SnD : aggB Tryz.prog 2 = some false := by kernel_rfl
theorem by_2_SnD : tbytes Tryz.prog 2 = some 8 := by kernel_rfl
theorem el_29_SnD : elemT Tryz.prog 29 = some 2 := by kernel_rfl
theorem fo_123_0_SnD : fieldO Tryz.prog 123 0 = some 0 := by kernel_rfl
theorem fo_62_3_SnD : fieldO Tryz.prog 62 3 = some 3 := by kernel_rfl
theorem mt_121_SnD : mapT Tryz.prog 121 = some (24, 62) := by kernel_rfl
theorem sz_2_SnD : tsize Tryz.prog 2 = some 1 := by kernel_rfl
theorem sz_62_SnD : tsize Tryz.prog 62 = some 7 := by kernel_rfl
theorem zc_2_SnD : zcells Tryz.prog 2 = some ([.int .i64 0]) := by kernel_rfl
theorem zc_62_SnD : zcells Tryz.prog 62 = some ([.int .u64 0, .int .i64 0, .int .i64 0, .int .i64 0, .int .i64 0, .int .i64 0, .bool false]) := by kernel_rfl
attribute [local irreducible] Wops W Wq Wt

structure Du where
  id : Int
  fr : Int
  to : Int
  am : Int
  we : Int
  un : Int
  held : Bool
instance : DecidableEq Du := fun x y => if h : x.id = y.id ∧ x.fr = y.fr ∧ x.to = y.to ∧ x.am = y.am ∧ x.we = y.we ∧ x.un = y.un ∧ x.held = y.held then isTrue (by cases x; cases y; simp_all) else isFalse fun e => h (by subst e; exact ⟨rfl, rfl, rfl, rfl, rfl, rfl, rfl⟩)
abbrev encD (d : Du) : List Value := [.int .u64 d.id, .int .i64 d.fr, .int .i64 d.to, .int .i64 d.am, .int .i64 d.we, .int .i64 d.un, .bool d.held]
abbrev dueV (d : Du) : Value := .agg #[.int .u64 d.id, .int .i64 d.fr, .int .i64 d.to, .int .i64 d.am, .int .i64 d.we, .int .i64 d.un, .bool d.held]
theorem encD_one (d : Du) : ∀ v ∈ encD d, oneCell v = true := by simp [encD, oneCell]
def dm (ds : List Du) : List (Int × Value) := ds.map fun d => (d.id, dueV d)
theorem dm_mem {ds : List Du} {p : Int × Value} (h : p ∈ dm ds) : ∃ d ∈ ds, p = (d.id, dueV d) := by
  obtain ⟨d, hd, rfl⟩ := List.mem_map.1 h
  exact ⟨d, hd, rfl⟩
def amV (p : Int × Value) : Int := match p.2 with
  | .agg vs => match vs.toList with | [_, _, _, .int _ x, _, _, _] => x | _ => 0
  | _ => 0
theorem amV_dm (ds : List Du) : (dm ds).map amV = ds.map (·.am) := by unfold dm; rw [List.map_map]; rfl
abbrev DU (b : Nat) (nx : Int) : List Value := [.map (some b), .int .u64 nx]
structure VSt where
  vis : List (Int × Value)
  it : Obj
  a : Option Addr
  c : Nat
  full : List Value
set_option maxRecDepth 20000 in
set_option maxHeartbeats 2000000 in
theorem amounts_ok {bd b : Nat} {nx : Int} {o : Obj} {ds : List Du} (w : World) (hd : w.heap[bd]? = some (Bl 123 (DU b nx))) (hb : w.heap[b]? = some o) (hM : MapO .u64 (dm ds) o) (hn : ds.length ≤ 1000000) :
    Ret Tryz.prog 113 #[ptr bd] w fun v w' => ∃ l : List Int, l.Perm (ds.map (·.am)) ∧ Fresh w w' 2 1 v (l.map i64v) := by
  obtain ⟨w0, rfl⟩ : ∃ w0, w0 = w := ⟨_, rfl⟩
  have H := Ctx.start w0 []
  have hdl : (dm ds).length = ds.length := by unfold dm; rw [List.length_map]
  refine ret_of_W (fn := Tryz.f113) Tryz.func113 rfl [.pointer (some ⟨bd, 0, none⟩)] rfl (by kernel_rfl) ?_
  refine W_rseq ?_
  refine op_assign rfl (.slice _ _ _) rfl ?_
  refine op_nil (at_then ?_)
  refine W_rseq ?_
  refine op_assign rfl (.slice _ _ _) rfl ?_
  refine op_nil (at_then ?_)
  refine W_seq ?_
  refine W_rseq ?_
  refine op_move rfl (.pointer _) rfl ?_
  refine op_nilCheck rfl rfl ?_
  refine op_fieldAddr rfl fo_123_0_SnD rfl ?_
  first | refine op_ldb rfl ag_121_SnD rfl H (by first | exact at0 | exact at1 | exact at2 | exact at3 | exact at4 | exact at5 | exact at6 | exact at7 | exact at8 | exact at9) rfl ?_ | refine op_ld rfl ag_121_SnD rfl ((by rw [cell_bl hd]; rfl)) ?_
  refine op_range rfl mt_121_SnD rfl H hb hM ?_
  rintro bi it w hV H
  refine op_nil (at_then ?_)
  refine W_block ?_
  refine W_loop 1046568 (α := VSt) (fun t => [(3, .slice t.a t.vis.length t.c)]) (fun t w' => VisO .u64 b (dm ds) t.vis o t.it ∧ OS t.a t.vis.length t.c 1 t.full ((t.vis.map amV).map i64v) ∧ Ctx w0 [] w' ((bi, t.it) :: ent t.a 2 t.full)) (fun t => (dm ds).length - t.vis.length) ⟨[], it, none, 0, []⟩ rfl ?_ ?_ ?_
  · exact ⟨rfl, trivial⟩
  · exact ⟨hV, OS.nil, H⟩
  · rintro ⟨vis, it, a, c, full⟩ j w ⟨hV, O, H⟩; dsimp only at hV O H; dsimp only
    refine W_rseq ?_
    refine op_next rfl (fun _ => rfl) rfl H (H.ext.to hb (by simp)) at0 hV ?_
    rintro vs more it' w hc H1
    clear H
    have H : Ctx w0 [] w ((bi, it') :: ent a 2 full) := H1
    clear H1
    skip
    refine op_nil (at_then ?_)
    refine W_seq ?_
    refine W_cond _ rfl ?_ ?_
    · intro h1
      obtain ⟨p, hV'⟩ : ∃ p, VisO .u64 b (dm ds) (vis ++ [p]) o it' := hc.elim (fun h => by rw [h.1] at h1; cases h1) fun h => h.2
      obtain ⟨d, hd2, rfl⟩ := dm_mem (hV'.mem p (by simp))
      have hle := hV'.le
      rw [hdl] at hle
      have hl1 : (vis ++ [(d.id, dueV d)]).length = vis.length + 1 := by rw [List.length_append]; rfl
      rw [hl1] at hle
      refine W_skip (at_then ?_)
      refine W_block ?_
      refine W_rseq ?_
      refine op_entry2 rfl rfl H (H.ext.to hb (by simp)) at0 hV' ?_
      refine op_extract rfl rfl rfl ?_
      refine op_alloc rfl zc_62_SnD H ?_
      rintro b5 w - H
      refine op_stb0 rfl sz_62_SnD rfl rfl rfl (by first | exact encD_one _ | simp [oneCell]) H (by first | exact at0 | exact at1 | exact at2 | exact at3 | exact at4 | exact at5 | exact at6 | exact at7 | exact at8 | exact at9) rfl ?_
      rintro w H
      refine op_nil (at_then ?_)
      refine W_region ?_
      refine op_move rfl (.slice _ _ _) rfl ?_
      refine op_fieldAddr rfl fo_62_3_SnD rfl ?_
      first | refine op_ldb rfl ag_2_SnD rfl H (by first | exact at0 | exact at1 | exact at2 | exact at3 | exact at4 | exact at5 | exact at6 | exact at7 | exact at8 | exact at9) rfl ?_ | refine op_ld rfl ag_2_SnD rfl ((by rw [cell_bl hd]; rfl)) ?_
      refine op_build1 _ (.int _ _) rfl el_29_SnD sz_2_SnD zc_2_SnD rfl (by decide) (by decide) rfl rfl rfl H ?_
      rintro b18 w - H
      refine op_appendb (L := [_, _]) rfl el_29_SnD el_29_SnD sz_2_SnD by_2_SnD zc_2_SnD rfl (by decide) rfl rfl H O rfl (by simp [oneCell]) (by omega) ?_
      rintro a' c' full' w H O
      refine op_assign rfl (.slice _ _ _) rfl ?_
      refine op_nil (at_block (at_then ?_))
      exact ⟨⟨vis ++ [(d.id, dueV d)], it', a', c', full'⟩, rfl, ⟨by dsimp only; rw [hl1]; rfl, trivial⟩, ⟨hV', by dsimp only; rw [hl1, List.map_append, List.map_append]; exact O, H.tail⟩, by dsimp only; rw [hl1, hdl]; omega⟩
    · intro h1
      obtain ⟨hp, rfl⟩ : vis.Perm (dm ds) ∧ it' = it := hc.elim (fun h => h.2) fun h => by rw [h.1] at h1; cases h1
      refine W_exit (exit_then (exit_then (exit_here (at_then ?_))))
      refine W_rseq ?_
      refine op_move rfl (.slice _ _ _) rfl ?_
      refine op_assign rfl (.slice _ _ _) rfl ?_
      refine op_nil (at_then ?_)
      refine W_ret (leave1 (v := (.slice _ _ _)) rfl rfl rfl ?_)
      refine ⟨vis.map amV, ?_, Ctx.fresh (L := [_]) H O⟩
      rw [← amV_dm]
      exact hp.map _
end Go.Proofs.YtapphbmlkdhnmaaGreat

/- The dues, listed. -/
namespace Go.Proofs.YtapphbmlkdhnmaaGreat
open Go.GV
theorem ag_121_SnE : aggB Tryz.prog 121 = some false := by kernel_rfl
theorem ag_24_SnE : aggB Tryz.prog 24 = some false := by kernel_rfl
theorem by_62_SnE : tbytes Tryz.prog 62 = some 56 := by kernel_rfl
theorem ca_61_SnE : callable Tryz.prog 61 = true := by kernel_rfl
theorem ca_62_SnE : callable Tryz.prog 62 = true := by kernel_rfl
theorem el_23_SnE : elemT Tryz.prog 23 = some 62 := by kernel_rfl
theorem el_25_SnE : elemT Tryz.prog 25 = some 24 := by kernel_rfl
theorem fo_123_0_SnE : fieldO Tryz.prog 123 0 = some 0 := by kernel_rfl
theorem mt_121_SnE : mapT Tryz.prog 121 = some (24, 62) := by kernel_rfl
theorem sz_24_SnE : tsize Tryz.prog 24 = some 1 := by kernel_rfl
theorem sz_62_SnE : tsize Tryz.prog 62 = some 7 := by kernel_rfl
theorem un_24_SnE : Tryz.prog.underlying 24 = some (.int .u64) := by kernel_rfl
theorem un_36_SnE : Tryz.prog.underlying 36 = some (.pointer 123) := by kernel_rfl
theorem zc_62_SnE : zcells Tryz.prog 62 = some ([.int .u64 0, .int .i64 0, .int .i64 0, .int .i64 0, .int .i64 0, .int .i64 0, .bool false]) := by kernel_rfl
theorem zv_62_SnE : (Tryz.prog.info? 62).bind (·.zero) = some (.agg #[.int .u64 0, .int .i64 0, .int .i64 0, .int .i64 0, .int .i64 0, .int .i64 0, .bool false]) := by kernel_rfl
attribute [local irreducible] Wops W Wq Wt

def d00 : Du := ⟨0, 0, 0, 0, 0, 0, false⟩
def lookD (ds : List Du) (k : Int) : Du := (ds.find? fun d => d.id == k).getD d00
theorem lookD_mem {d : Du} : ∀ {ds : List Du}, (ds.map (·.id)).Nodup → d ∈ ds → lookD ds d.id = d
  | x :: ds, hn, h => by
    simp only [List.map_cons, List.nodup_cons] at hn
    unfold lookD
    by_cases e : x.id = d.id
    · rcases List.mem_cons.1 h with rfl | h
      · simp
      · exact absurd (List.mem_map_of_mem (f := (·.id)) h) (by rw [← e]; exact hn.1)
    · rcases List.mem_cons.1 h with rfl | h
      · exact absurd rfl e
      · have := lookD_mem hn.2 h
        unfold lookD at this
        rw [List.find?_cons, show (x.id == d.id) = false by simpa using e]
        exact this
theorem look_map {ds : List Du} (hn : (ds.map (·.id)).Nodup) : (ds.map (·.id)).map (lookD ds) = ds := by
  rw [List.map_map]
  have : ds.map (lookD ds ∘ (·.id)) = ds.map id := List.map_congr_left fun d hd => lookD_mem hn hd
  rw [this, List.map_id]
theorem mget_dm {d : Du} : ∀ {ds : List Du}, (ds.map (·.id)).Nodup → d ∈ ds → mget (dm ds) d.id = some (dueV d)
  | x :: ds, hn, h => by
    simp only [List.map_cons, List.nodup_cons] at hn
    unfold dm mget
    rw [List.map_cons, List.find?_cons]
    by_cases e : x.id = d.id
    · rcases List.mem_cons.1 h with rfl | h
      · simp
      · exact absurd (List.mem_map_of_mem (f := (·.id)) h) (by rw [← e]; exact hn.1)
    · rcases List.mem_cons.1 h with rfl | h
      · exact absurd rfl e
      · have := mget_dm hn.2 h
        unfold dm mget at this
        rw [show (x.id == d.id) = false by simpa using e]
        exact this
/-- The dues, by their numbers. -/
def SortD (ds' ds : List Du) : Prop := ds'.Perm ds ∧ (ds'.map (·.id)).Pairwise (· < ·)
theorem sort_look {ds : List Du} {l : List Int} (hn : (ds.map (·.id)).Nodup) (hp : l.Perm ((dm ds).map (·.1))) (hs : l.Pairwise (· ≤ ·)) : SortD (l.map (lookD ds)) ds ∧ (l.map (lookD ds)).map (·.id) = l := by
  have h1 : (dm ds).map (·.1) = ds.map (·.id) := by unfold dm; rw [List.map_map]; rfl
  rw [h1] at hp
  have h2 : (l.map (lookD ds)).map (·.id) = l := by
    rw [List.map_map]
    have : l.map ((·.id) ∘ lookD ds) = l.map id := List.map_congr_left fun k hk => by
      obtain ⟨d, hd, rfl⟩ := List.mem_map.1 (hp.mem_iff.1 hk)
      show (lookD ds d.id).id = d.id
      rw [lookD_mem hn hd]
    rw [this, List.map_id]
  refine ⟨⟨?_, ?_⟩, h2⟩
  · have := hp.map (lookD ds)
    rwa [look_map hn] at this
  · rw [h2]
    have hnd := hp.nodup_iff.2 hn
    exact (hs.and (List.nodup_iff_pairwise_ne.1 hnd)).imp fun h => by omega
theorem flat_take {ds : List Du} {i : Nat} {d : Du} (h : ds[i]? = some d) : (ds.take (i + 1)).flatMap encD = (ds.take i).flatMap encD ++ encD d := by
  rw [List.take_succ, h, List.flatMap_append]
  simp
set_option maxRecDepth 20000 in
set_option maxHeartbeats 2000000 in
theorem dlist_ok {bd b : Nat} {nx : Int} {o : Obj} {ds : List Du} (w : World) (hd : w.heap[bd]? = some (Bl 123 (DU b nx))) (hb : w.heap[b]? = some o) (hM : MapO .u64 (dm ds) o) (hnd : (ds.map (·.id)).Nodup) (hn : ds.length ≤ 1000000) :
    Ret Tryz.prog 18 #[ptr bd] w fun v w' => ∃ ds' : List Du, SortD ds' ds ∧ Fresh w w' 62 7 v (ds'.flatMap encD) := by
  obtain ⟨w0, rfl⟩ : ∃ w0, w0 = w := ⟨_, rfl⟩
  have H := Ctx.start w0 []
  have hdl : (dm ds).length = ds.length := by unfold dm; rw [List.length_map]
  refine ret_of_W (fn := Tryz.f18) Tryz.func18 rfl [.pointer (some ⟨bd, 0, none⟩)] rfl (by kernel_rfl) ?_
  refine W_rseq ?_
  refine op_assign rfl (.slice _ _ _) rfl ?_
  refine op_nil (at_then ?_)
  refine W_seq ?_
  refine W_rseq ?_
  refine op_move rfl (.pointer _) rfl ?_
  refine op_eqlptr rfl un_36_SnE rfl ?_
  refine op_nil (at_then ?_)
  refine W_cond _ rfl ?_ ?_
  · intro h0
    cases h0
  · intro h0
    refine W_skip (at_then ?_)
    refine W_rseq ?_
    refine op_assign rfl (.slice _ _ _) rfl ?_
    refine op_nil (at_then ?_)
    refine W_seq ?_
    refine W_rseq ?_
    refine op_move rfl (.pointer _) rfl ?_
    refine op_nilCheck rfl rfl ?_
    refine op_fieldAddr rfl fo_123_0_SnE rfl ?_
    first | refine op_ldb rfl ag_121_SnE rfl H (by first | exact at0 | exact at1 | exact at2 | exact at3 | exact at4 | exact at5 | exact at6 | exact at7 | exact at8 | exact at9) rfl ?_ | refine op_ld rfl ag_121_SnE rfl ((by rw [cell_bl hd]; rfl)) ?_
    refine op_call rfl ca_62_SnE (keys_ok (b := b) _) rfl ?_
    rintro v w ⟨bk, rfl, hbk, -, hx12⟩
    replace H := H.call hx12
    refine op_call rfl ca_61_SnE (sorted_ok hM (by omega) _ ⟨hbk, H.ext.to hb (by simp)⟩) rfl ?_
    rintro v w ⟨l, hlp, hls, F⟩
    obtain ⟨ak, nk, ck, fk, rfl, OK, ZK, hbl⟩ := F.ex
    replace H := H.call F.ext
    refine op_len rfl el_25_SnE rfl ?_
    refine op_move rfl (.int _ _) rfl ?_
    refine op_nil (at_then ?_)
    refine W_block ?_
    obtain ⟨w1, rfl⟩ : ∃ z, z = w := ⟨_, rfl⟩
    have H0 := H.ext
    replace H := Ctx.start w1 []
    have R : Rd w1 ak 1 (fun x => [u64v x]) l := OK.rd1 fun x hx => (hbl x hx).1
    have hd1 := H0.to hd (by simp)
    have hb1 := H0.to hb (by simp)
    obtain ⟨hSD, hid⟩ := sort_look hnd hlp hls
    obtain ⟨ds', hds'⟩ : ∃ ds', ds' = l.map (lookD ds) := ⟨_, rfl⟩
    rw [← hds'] at hSD hid
    have hlen : ds'.length = l.length := by rw [hds', List.length_map]
    have hll : l.length = nk := by have := OK.llen; rw [List.length_map] at this; omega
    have hle : l.length = ds.length := by have := hlp.length_eq; rw [List.length_map] at this; omega
    subst hll
    refine W_loop 536838184 (α := LSt) (fun t => [(3, .slice t.a t.i t.c), (15, .int .i64 (t.i : Int))]) (fun t w' => t.i ≤ l.length ∧ OS t.a t.i t.c 7 t.full ((ds'.take t.i).flatMap encD) ∧ Ctx w1 [] w' (ent t.a 62 t.full)) (fun t => l.length - t.i) ⟨0, none, 0, []⟩ rfl ?_ ?_ ?_
    · exact ⟨rfl, rfl, trivial⟩
    · exact ⟨Nat.zero_le _, OS.nil, H⟩
    · rintro ⟨i, a, c, full⟩ j w ⟨hi, O, H⟩; dsimp only at hi O H; dsimp only
      refine W_rseq ?_
      refine op_lss rfl rfl rfl ?_
      refine op_nil (at_then ?_)
      refine W_seq ?_
      refine W_cond _ rfl ?_ ?_
      · intro h1
        replace h1 := dec_t h1
        obtain ⟨k, hk⟩ := get_some (l := l) (i := i) (by omega)
        obtain ⟨d, hdi⟩ := get_some (l := ds') (i := i) (by omega)
        have hkd : k = d.id := by
          have h7 : (ds'.map (·.id))[i]? = some d.id := by rw [List.getElem?_map, hdi]; rfl
          rw [hid, hk] at h7
          injection h7
        subst hkd
        have hmg := mget_dm hnd (hSD.1.mem_iff.1 (List.mem_of_getElem? hdi))
        refine W_skip (at_then ?_)
        refine W_seq ?_
        refine W_block ?_
        refine W_rseq ?_
        first | refine op_indexRd R rfl el_25_SnE sz_24_SnE rfl rfl (by omega) (by omega) (by first | rfl | omega) ?_ | refine op_indexAddr rfl el_25_SnE sz_24_SnE rfl rfl (by omega) (by omega) ?_
        first | refine op_ldb rfl ag_24_SnE rfl H (by first | exact at0 | exact at1 | exact at2 | exact at3 | exact at4 | exact at5 | exact at6 | exact at7 | exact at8 | exact at9) rfl ?_ | refine op_ld rfl ag_24_SnE rfl ((by rw [cell_bl hd]; rfl)) ?_ | refine op_ld rfl ag_24_SnE rfl (((R.ext0 H.ext).fld hk rfl (j := 0) rfl)) ?_ | refine op_ld rfl ag_24_SnE rfl ((H.old0 (by rw [cell_bl hd1]; rfl))) ?_
        refine op_assign rfl (.int _ _) rfl ?_
        refine op_nil (at_then ?_)
        refine W_region ?_
        refine op_move rfl (.slice _ _ _) rfl ?_
        refine op_move rfl (.pointer _) rfl ?_
        refine op_nilCheck rfl rfl ?_
        refine op_fieldAddr rfl fo_123_0_SnE rfl ?_
        first | refine op_ldb rfl ag_121_SnE rfl H (by first | exact at0 | exact at1 | exact at2 | exact at3 | exact at4 | exact at5 | exact at6 | exact at7 | exact at8 | exact at9) rfl ?_ | refine op_ld rfl ag_121_SnE rfl ((by rw [cell_bl hd]; rfl)) ?_ | refine op_ld rfl ag_121_SnE rfl (((R.ext0 H.ext).fld hk rfl (j := 0) rfl)) ?_ | refine op_ld rfl ag_121_SnE rfl ((H.old0 (by rw [cell_bl hd1]; rfl))) ?_
        refine op_move rfl (.int _ _) rfl ?_
        refine op_lookupH rfl mt_121_SnE un_24_SnE zv_62_SnE rfl rfl (H.ext.to hb1 (by simp)) hM ?_
        rw [hmg]
        rw [Option.getD_some]
        refine op_build1 _ (.agg _) rfl el_23_SnE sz_62_SnE zc_62_SnE rfl (by decide) (by decide) rfl rfl rfl H ?_
        rintro b26 w - H
        refine op_appendb (L := []) rfl el_23_SnE el_23_SnE sz_62_SnE by_62_SnE zc_62_SnE rfl (by decide) rfl rfl H O rfl (by simp [oneCell]) (by omega) ?_
        rintro a' c' full' w H O
        refine op_assign rfl (.slice _ _ _) rfl ?_
        refine op_nil (at_block (at_then ?_))
        refine W_region ?_
        refine op_add_i64 rfl rfl rfl (by omega) (by omega) ?_
        refine op_move rfl (.int _ _) rfl ?_
        refine op_nil (at_then ?_)
        exact ⟨⟨i + 1, a', c', full'⟩, rfl, ⟨rfl, rfl, trivial⟩, ⟨by dsimp only; omega, by dsimp only; rw [flat_take hdi]; exact O, H⟩, by dsimp only; omega⟩
      · intro h1
        replace h1 := dec_f h1
        refine W_exit (exit_then (exit_then (exit_here (at_then ?_))))
        refine W_rseq ?_
        refine op_move rfl (.slice _ _ _) rfl ?_
        refine op_assign rfl (.slice _ _ _) rfl ?_
        refine op_nil (at_then ?_)
        refine W_ret (leave1 (v := (.slice _ _ _)) rfl rfl rfl ?_)
        obtain rfl : i = l.length := by omega
        have FF := Ctx.fresh (L := []) H O
        rw [show ds'.take l.length = ds' by rw [← hlen, List.take_length]] at FF
        obtain ⟨⟨a2, n2, c2, f2, e1, e2, e3⟩, e4⟩ := FF
        exact ⟨ds', hSD, ⟨a2, n2, c2, f2, e1, e2, fun x hx => ⟨(e3 x hx).1, Nat.le_trans H0.size (e3 x hx).2⟩⟩, H0.trans e4⟩
end Go.Proofs.YtapphbmlkdhnmaaGreat

/- The dues: which may be. -/
namespace Go.Proofs.YtapphbmlkdhnmaaGreat
open Go.GV
theorem ag_2_SnF : aggB Tryz.prog 2 = some false := by kernel_rfl
theorem ag_3_SnF : aggB Tryz.prog 3 = some false := by kernel_rfl
theorem ca_109_SnF : callable Tryz.prog 109 = true := by kernel_rfl
theorem ca_161_SnF : callable Tryz.prog 161 = true := by kernel_rfl
theorem fo_62_1_SnF : fieldO Tryz.prog 62 1 = some 1 := by kernel_rfl
theorem fo_62_2_SnF : fieldO Tryz.prog 62 2 = some 2 := by kernel_rfl
theorem fo_62_3_SnF : fieldO Tryz.prog 62 3 = some 3 := by kernel_rfl
theorem fo_62_4_SnF : fieldO Tryz.prog 62 4 = some 4 := by kernel_rfl
theorem fo_62_5_SnF : fieldO Tryz.prog 62 5 = some 5 := by kernel_rfl
attribute [local irreducible] Wops W Wq Wt

def bankB (x : Int) : Bool := decide (0 ≤ x) && decide (x < 16)
theorem dbank_ok (x : Int) (w : World) : Ret Tryz.prog 161 #[.int .i64 x] w fun v w' => v = .bool (bankB x) ∧ w = w' := by
  obtain ⟨w0, rfl⟩ : ∃ w0, w0 = w := ⟨_, rfl⟩
  refine ret_of_W (fn := Tryz.f161) Tryz.func161 rfl [.int .i64 x] rfl (by kernel_rfl) ?_
  refine W_rseq ?_
  refine op_assign rfl (.bool _) rfl ?_
  refine op_nil (at_then ?_)
  refine W_rseq ?_
  refine op_move rfl (.int _ _) rfl ?_
  refine op_geq rfl rfl rfl ?_
  refine op_move rfl (.bool _) rfl ?_
  refine Wops_split 5 rfl ?_ ?_
  · intro h1
    replace h1 := dec_t h1
    refine op_move rfl (.int _ _) rfl ?_
    refine op_lss rfl rfl rfl ?_
    refine op_pick1 rfl rfl (.bool _) rfl ?_
    refine op_assign rfl (.bool _) rfl ?_
    refine op_nil (at_then ?_)
    refine W_ret (leave1 (v := (.bool _)) rfl rfl rfl ?_)
    exact ⟨congrArg Value.bool (by unfold bankB; rw [Bool.eq_iff_iff]; simp_all; try omega), rfl⟩
  · intro h2
    replace h2 := dec_f h2
    refine op_skip rfl ?_
    refine op_skip rfl ?_
    refine op_pick0 rfl rfl (.bool _) rfl ?_
    refine op_assign rfl (.bool _) rfl ?_
    refine op_nil (at_then ?_)
    refine W_ret (leave1 (v := (.bool _)) rfl rfl rfl ?_)
    exact ⟨congrArg Value.bool (by unfold bankB; rw [Bool.eq_iff_iff]; simp_all; try omega), rfl⟩
def mayD (d : Du) : Bool := (bankB d.fr && (bankB d.to && !decide (d.fr = d.to))) && (decide (1 ≤ d.am) && (mayM d.am && (decide (1 ≤ d.we) && (decide (d.we ≤ 1000) && decide (0 ≤ d.un)))))
set_option maxRecDepth 20000 in
set_option maxHeartbeats 2000000 in
theorem dmay_ok (d : Du) (w : World) : Ret Tryz.prog 112 #[dueV d] w fun v w' => v = .bool (mayD d) ∧ Ext [] w w' := by
  obtain ⟨w0, rfl⟩ : ∃ w0, w0 = w := ⟨_, rfl⟩
  have H := Ctx.start w0 []
  refine ret_of_W (fn := Tryz.f112) Tryz.func112 rfl [dueV d] rfl (by kernel_rfl) ?_
  refine W_rseq ?_
  refine op_box rfl (encD d) (.agg _) rfl rfl H ?_
  rintro b1 w - H
  refine op_assign rfl (.bool _) rfl ?_
  refine op_nil (at_then ?_)
  refine W_seq ?_
  refine W_block ?_
  refine W_seq ?_
  refine W_rseq ?_
  refine op_fieldAddr rfl fo_62_1_SnF rfl ?_
  refine op_ldb rfl ag_3_SnF rfl H (by first | exact at0 | exact at1 | exact at2 | exact at3 | exact at4 | exact at5 | exact at6 | exact at7 | exact at8 | exact at9) rfl ?_
  refine op_call rfl ca_161_SnF (dbank_ok d.fr _) rfl ?_
  rintro v w ⟨rfl, rfl⟩
  refine op_not rfl rfl ?_
  refine op_assign rfl (.bool _) rfl ?_
  refine op_nil (at_then ?_)
  refine W_csplit 3 rfl ?_ ?_
  · intro h1
    replace h1 := nvar_t h1
    refine W_skip (at_then ?_)
    refine W_cond1 rfl ?_
    refine W_rseq ?_
    refine op_assign rfl (.bool _) rfl ?_
    refine op_nil (at_then ?_)
    refine W_ret (ret_block (ret_then (leave1 (v := (.bool _)) rfl rfl rfl ?_)))
    exact ⟨congrArg Value.bool (by unfold mayD; rw [Bool.eq_iff_iff]; simp_all; try omega), H.ext⟩
  · intro h2
    replace h2 := nvar_f h2
    refine W_rseq ?_
    refine op_fieldAddr rfl fo_62_2_SnF rfl ?_
    refine op_ldb rfl ag_3_SnF rfl H (by first | exact at0 | exact at1 | exact at2 | exact at3 | exact at4 | exact at5 | exact at6 | exact at7 | exact at8 | exact at9) rfl ?_
    refine op_call rfl ca_161_SnF (dbank_ok d.to _) rfl ?_
    rintro v w ⟨rfl, rfl⟩
    refine op_not rfl rfl ?_
    refine op_assign rfl (.bool _) rfl ?_
    refine op_nil (at_then ?_)
    refine W_csplit 3 rfl ?_ ?_
    · intro h3
      replace h3 := nvar_t h3
      refine W_skip (at_then ?_)
      refine W_cond1 rfl ?_
      refine W_rseq ?_
      refine op_assign rfl (.bool _) rfl ?_
      refine op_nil (at_then ?_)
      refine W_ret (ret_block (ret_then (leave1 (v := (.bool _)) rfl rfl rfl ?_)))
      exact ⟨congrArg Value.bool (by unfold mayD; rw [Bool.eq_iff_iff]; simp_all; try omega), H.ext⟩
    · intro h4
      replace h4 := nvar_f h4
      refine W_region ?_
      refine op_fieldAddr rfl fo_62_1_SnF rfl ?_
      refine op_ldb rfl ag_3_SnF rfl H (by first | exact at0 | exact at1 | exact at2 | exact at3 | exact at4 | exact at5 | exact at6 | exact at7 | exact at8 | exact at9) rfl ?_
      refine op_fieldAddr rfl fo_62_2_SnF rfl ?_
      refine op_ldb rfl ag_3_SnF rfl H (by first | exact at0 | exact at1 | exact at2 | exact at3 | exact at4 | exact at5 | exact at6 | exact at7 | exact at8 | exact at9) rfl ?_
      refine op_eql rfl rfl rfl ?_
      refine op_assign rfl (.bool _) rfl ?_
      refine op_nil (at_then ?_)
      refine W_csplit 3 rfl ?_ ?_
      · intro h5
        replace h5 := dec_t h5
        refine W_rseq ?_
        refine op_assign rfl (.bool _) rfl ?_
        refine op_nil (at_then ?_)
        refine W_ret (ret_block (ret_then (leave1 (v := (.bool _)) rfl rfl rfl ?_)))
        exact ⟨congrArg Value.bool (by unfold mayD; rw [Bool.eq_iff_iff]; simp_all; try omega), H.ext⟩
      · intro h6
        replace h6 := dec_f h6
        refine W_seq ?_
        refine W_rseq ?_
        refine op_fieldAddr rfl fo_62_3_SnF rfl ?_
        refine op_ldb rfl ag_2_SnF rfl H (by first | exact at0 | exact at1 | exact at2 | exact at3 | exact at4 | exact at5 | exact at6 | exact at7 | exact at8 | exact at9) rfl ?_
        refine op_lss rfl rfl rfl ?_
        refine op_assign rfl (.bool _) rfl ?_
        refine op_nil (at_then ?_)
        refine W_csplit 17 rfl ?_ ?_
        · intro h7
          replace h7 := dec_t h7
          refine W_skip (at_then ?_)
          refine W_cond1 rfl ?_
          refine W_rseq ?_
          refine op_assign rfl (.bool _) rfl ?_
          refine op_nil (at_then ?_)
          refine W_ret (ret_block (ret_then (leave1 (v := (.bool _)) rfl rfl rfl ?_)))
          exact ⟨congrArg Value.bool (by unfold mayD; rw [Bool.eq_iff_iff]; simp_all; try omega), H.ext⟩
        · intro h8
          replace h8 := dec_f h8
          refine W_rseq ?_
          refine op_fieldAddr rfl fo_62_3_SnF rfl ?_
          refine op_ldb rfl ag_2_SnF rfl H (by first | exact at0 | exact at1 | exact at2 | exact at3 | exact at4 | exact at5 | exact at6 | exact at7 | exact at8 | exact at9) rfl ?_
          refine op_call rfl ca_109_SnF (may_ok d.am _) rfl ?_
          rintro v w ⟨rfl, rfl⟩
          refine op_not rfl rfl ?_
          refine op_assign rfl (.bool _) rfl ?_
          refine op_nil (at_then ?_)
          refine W_csplit 17 rfl ?_ ?_
          · intro h9
            replace h9 := nvar_t h9
            refine W_skip (at_then ?_)
            refine W_cond1 rfl ?_
            refine W_rseq ?_
            refine op_assign rfl (.bool _) rfl ?_
            refine op_nil (at_then ?_)
            refine W_ret (ret_block (ret_then (leave1 (v := (.bool _)) rfl rfl rfl ?_)))
            exact ⟨congrArg Value.bool (by unfold mayD; rw [Bool.eq_iff_iff]; simp_all; try omega), H.ext⟩
          · intro h10
            replace h10 := nvar_f h10
            refine W_rseq ?_
            refine op_fieldAddr rfl fo_62_4_SnF rfl ?_
            refine op_ldb rfl ag_2_SnF rfl H (by first | exact at0 | exact at1 | exact at2 | exact at3 | exact at4 | exact at5 | exact at6 | exact at7 | exact at8 | exact at9) rfl ?_
            refine op_lss rfl rfl rfl ?_
            refine op_assign rfl (.bool _) rfl ?_
            refine op_nil (at_then ?_)
            refine W_csplit 17 rfl ?_ ?_
            · intro h11
              replace h11 := dec_t h11
              refine W_skip (at_then ?_)
              refine W_cond1 rfl ?_
              refine W_rseq ?_
              refine op_assign rfl (.bool _) rfl ?_
              refine op_nil (at_then ?_)
              refine W_ret (ret_block (ret_then (leave1 (v := (.bool _)) rfl rfl rfl ?_)))
              exact ⟨congrArg Value.bool (by unfold mayD; rw [Bool.eq_iff_iff]; simp_all; try omega), H.ext⟩
            · intro h12
              replace h12 := dec_f h12
              refine W_rseq ?_
              refine op_fieldAddr rfl fo_62_4_SnF rfl ?_
              refine op_ldb rfl ag_2_SnF rfl H (by first | exact at0 | exact at1 | exact at2 | exact at3 | exact at4 | exact at5 | exact at6 | exact at7 | exact at8 | exact at9) rfl ?_
              refine op_gtr rfl rfl rfl ?_
              refine op_assign rfl (.bool _) rfl ?_
              refine op_nil (at_then ?_)
              refine W_csplit 17 rfl ?_ ?_
              · intro h13
                replace h13 := dec_t h13
                refine W_skip (at_then ?_)
                refine W_cond1 rfl ?_
                refine W_rseq ?_
                refine op_assign rfl (.bool _) rfl ?_
                refine op_nil (at_then ?_)
                refine W_ret (ret_block (ret_then (leave1 (v := (.bool _)) rfl rfl rfl ?_)))
                exact ⟨congrArg Value.bool (by unfold mayD; rw [Bool.eq_iff_iff]; simp_all; try omega), H.ext⟩
              · intro h14
                replace h14 := dec_f h14
                refine W_region ?_
                refine op_fieldAddr rfl fo_62_5_SnF rfl ?_
                refine op_ldb rfl ag_2_SnF rfl H (by first | exact at0 | exact at1 | exact at2 | exact at3 | exact at4 | exact at5 | exact at6 | exact at7 | exact at8 | exact at9) rfl ?_
                refine op_lss rfl rfl rfl ?_
                refine op_assign rfl (.bool _) rfl ?_
                refine op_nil (at_then ?_)
                refine W_csplit 17 rfl ?_ ?_
                · intro h15
                  replace h15 := dec_t h15
                  refine W_rseq ?_
                  refine op_assign rfl (.bool _) rfl ?_
                  refine op_nil (at_then ?_)
                  refine W_ret (ret_block (ret_then (leave1 (v := (.bool _)) rfl rfl rfl ?_)))
                  exact ⟨congrArg Value.bool (by unfold mayD; rw [Bool.eq_iff_iff]; simp_all; try omega), H.ext⟩
                · intro h16
                  replace h16 := dec_f h16
                  refine W_skip (at_block (at_then ?_))
                  refine W_rseq ?_
                  refine op_assign rfl (.bool _) rfl ?_
                  refine op_nil (at_then ?_)
                  refine W_ret (leave1 (v := (.bool _)) rfl rfl rfl ?_)
                  exact ⟨congrArg Value.bool (by unfold mayD; rw [Bool.eq_iff_iff]; simp_all; try omega), H.ext⟩
end Go.Proofs.YtapphbmlkdhnmaaGreat

/- The dues: Of. -/
namespace Go.Proofs.YtapphbmlkdhnmaaGreat
open Go.GV
theorem ag_121_SnG : aggB Tryz.prog 121 = some false := by kernel_rfl
theorem ag_24_SnG : aggB Tryz.prog 24 = some false := by kernel_rfl
theorem ag_62_SnG : aggB Tryz.prog 62 = some true := by kernel_rfl
theorem ca_110_SnG : callable Tryz.prog 110 = true := by kernel_rfl
theorem ca_112_SnG : callable Tryz.prog 112 = true := by kernel_rfl
theorem ca_113_SnG : callable Tryz.prog 113 = true := by kernel_rfl
theorem el_23_SnG : elemT Tryz.prog 23 = some 62 := by kernel_rfl
theorem fo_123_0_SnG : fieldO Tryz.prog 123 0 = some 0 := by kernel_rfl
theorem fo_62_0_SnG : fieldO Tryz.prog 62 0 = some 0 := by kernel_rfl
theorem mixed_SnG : Tryz.prog.follows .mixedOrders = true := by kernel_rfl
theorem mt_121_SnG : mapT Tryz.prog 121 = some (24, 62) := by kernel_rfl
theorem pl_123_SnG : placesB Tryz.prog 123 = some [(0, 1), (1, 1)] := by kernel_rfl
theorem sz_62_SnG : tsize Tryz.prog 62 = some 7 := by kernel_rfl
theorem un_24_SnG : Tryz.prog.underlying 24 = some (.int .u64) := by kernel_rfl
theorem zc_123_SnG : zcells Tryz.prog 123 = some ([.map none, .int .u64 0]) := by kernel_rfl
theorem zc_62_SnG : zcells Tryz.prog 62 = some ([.int .u64 0, .int .i64 0, .int .i64 0, .int .i64 0, .int .i64 0, .int .i64 0, .bool false]) := by kernel_rfl
theorem zv_62_SnG : (Tryz.prog.info? 62).bind (·.zero) = some (.agg #[.int .u64 0, .int .i64 0, .int .i64 0, .int .i64 0, .int .i64 0, .int .i64 0, .bool false]) := by kernel_rfl
attribute [local irreducible] Wops W Wq Wt

/-- Dues by their numbers, each of which may be. -/
def ascB (nx : Int) : Int → List Du → Bool
  | _, [] => true
  | ah, d :: ds => (mayD d && (decide (ah < d.id) && decide (d.id < nx))) && ascB nx d.id ds
def lastId (ah : Int) : List Du → Int
  | [] => ah
  | d :: ds => lastId d.id ds
theorem ascB_append (nx : Int) : ∀ (ah : Int) (ds es : List Du), ascB nx ah (ds ++ es) = (ascB nx ah ds && ascB nx (lastId ah ds) es)
  | _, [], _ => rfl
  | ah, d :: ds, es => by simp only [List.cons_append, ascB, lastId, ascB_append nx d.id ds es, Bool.and_assoc]
theorem lastId_append (ah : Int) (ds : List Du) (d : Du) : lastId ah (ds ++ [d]) = d.id := by
  induction ds generalizing ah with
  | nil => rfl
  | cons x ds ih => exact ih x.id
theorem asc_lt {nx : Int} : ∀ {ah : Int} {ds : List Du}, ascB nx ah ds = true → (∀ d ∈ ds, ah < d.id ∧ d.id ≤ lastId ah ds ∧ d.id < nx ∧ mayD d = true) ∧ (ds.map (·.id)).Pairwise (· < ·) ∧ ah ≤ lastId ah ds
  | _, [], _ => ⟨fun _ h => (by cases h), List.Pairwise.nil, Int.le_refl _⟩
  | ah, x :: ds, h => by
    simp only [ascB, Bool.and_eq_true, decide_eq_true_eq] at h
    obtain ⟨⟨hm, h1, h2⟩, h3⟩ := h
    obtain ⟨i1, i2, i3⟩ := asc_lt h3
    refine ⟨fun d hd => ?_, ?_, ?_⟩
    · rcases List.mem_cons.1 hd with rfl | hd
      · exact ⟨h1, i3, h2, hm⟩
      · obtain ⟨a, b, c, e⟩ := i1 d hd
        exact ⟨by omega, b, c, e⟩
    · rw [List.map_cons, List.pairwise_cons]
      refine ⟨fun k hk => ?_, i2⟩
      obtain ⟨d, hd, rfl⟩ := List.mem_map.1 hk
      exact (i1 d hd).1
    · show ah ≤ lastId x.id ds
      omega
/-- Of's code. -/
def ofC (ds : List Du) (nx : Int) : Int :=
  if 64 < ds.length then 6 else if (decide (1 ≤ nx) && decide (nx ≤ 4611686018427387904)) = false then 1 else if ascB nx 0 ds = false then 1 else (totM (ds.map (·.am))).2
theorem totM_perm {xs ys : List Int} (h : xs.Perm ys) : totM xs = totM ys := by
  have h1 : xs.all mayM = ys.all mayM := by
    rw [Bool.eq_iff_iff, List.all_eq_true, List.all_eq_true]
    exact ⟨fun g x hx => g x (h.mem_iff.2 hx), fun g x hx => g x (h.mem_iff.1 hx)⟩
  unfold totM
  rw [h1, sumM_perm h]
theorem mget_none {ds : List Du} {k : Int} (h : ∀ d ∈ ds, d.id ≠ k) : mget (dm ds) k = none := by
  induction ds with
  | nil => rfl
  | cons x ds ih =>
    unfold dm mget at ih ⊢
    rw [List.map_cons, List.find?_cons, show (x.id == k) = false by simpa using h x (List.mem_cons_self ..)]
    exact ih fun d hd => h d (List.mem_cons_of_mem _ hd)
theorem dm_app (ds : List Du) (d : Du) : dm ds ++ [(d.id, dueV d)] = dm (ds ++ [d]) := by unfold dm; rw [List.map_append]; rfl
theorem bl_cells {w : World} {b : Nat} {t : TypeId} {l : List Value} (h : w.heap[b]? = some (Bl t l)) : ∀ j v, l[j]? = some v → w.cell? ⟨b, 0 + j, none⟩ = some v := fun j v hv => by rw [cell_bl h, Nat.zero_add]; exact hv
structure OSt where
  i : Nat
  ah : Int
  o : Obj
set_option maxRecDepth 20000 in
set_option maxHeartbeats 4000000 in
theorem dof_ok (a : Option Addr) (n c : Nat) (ds : List Du) (nx : Int) (w : World) (R : Rd w a 7 encD ds) (hn : ds.length = n) (hn2 : n ≤ 1000000000) (hnx : 0 ≤ nx ∧ nx < 18446744073709551616) (hid : ∀ d ∈ ds, 0 ≤ d.id ∧ d.id < 18446744073709551616) :
    Ret Tryz.prog 57 #[.slice a n c, .int .u64 nx] w fun v w' => ∃ p, v = .tuple #[p, .int .i64 (ofC ds nx)] ∧ (ofC ds nx ≠ 0 → p = .pointer none) ∧ (ofC ds nx = 0 → ∃ bd b o, p = ptr bd ∧ w'.heap[bd]? = some (Bl 123 (DU b nx)) ∧ w'.heap[b]? = some o ∧ MapO .u64 (dm ds) o ∧ w.heap.size ≤ bd ∧ w.heap.size ≤ b ∧ bd ≠ b) ∧ Ext [] w w' := by
  subst hn
  obtain ⟨w0, rfl⟩ : ∃ w0, w0 = w := ⟨_, rfl⟩
  have H := Ctx.start w0 []
  refine ret_of_W (fn := Tryz.f57) Tryz.func57 rfl [.slice a ds.length c, .int .u64 nx] rfl (by kernel_rfl) ?_
  refine W_rseq ?_
  refine op_assign rfl (.pointer _) rfl ?_
  refine op_assign rfl (.int _ _) rfl ?_
  refine op_nil (at_then ?_)
  refine W_seq ?_
  refine W_rseq ?_
  refine op_move rfl (.slice _ _ _) rfl ?_
  refine op_len rfl el_23_SnG rfl ?_
  refine op_gtr rfl rfl rfl ?_
  refine op_nil (at_then ?_)
  refine W_cond _ rfl ?_ ?_
  · intro h1
    replace h1 := dec_t h1
    refine W_rseq ?_
    refine op_assign rfl (.pointer _) rfl ?_
    refine op_assign rfl (.int _ _) rfl ?_
    refine op_nil (at_then ?_)
    refine W_ret (ret_then (leave2 (v1 := (.pointer _)) (v2 := (.int _ _)) rfl rfl rfl rfl ?_))
    have h1' : ofC ds nx = 6 := by unfold ofC; rw [if_pos (by omega)]
    exact ⟨_, by rw [h1'], fun _ => rfl, (fun h => by omega), H.ext⟩
  · intro h1
    replace h1 := dec_f h1
    have h1' : ¬ 64 < ds.length := by omega
    refine W_skip (at_then ?_)
    refine W_seq ?_
    refine W_rseq (Wops_join (α := Unit) 2064384 (fun _ => [(20, .bool (!(decide (1 ≤ nx) && decide (nx ≤ 4611686018427387904))))]) (fun _ w' => w' = w0) rfl ?_ ?_)
    · refine op_move rfl (.int _ _) rfl ?_
      refine op_lss rfl rfl rfl ?_
      refine op_move rfl (.bool _) rfl ?_
      refine Wops_split 17 rfl ?_ ?_
      · intro h1
        replace h1 := dec_t h1
        refine op_skip rfl ?_
        refine op_skip rfl ?_
        refine op_pick1 rfl rfl (.bool _) rfl ?_
        refine op_nil ?_
        exact ⟨rfl, (), rfl, ⟨congrArg Value.bool (by rw [Bool.eq_iff_iff]; simp_all; try omega), trivial⟩, rfl⟩
      · intro h2
        replace h2 := dec_f h2
        refine op_move rfl (.int _ _) rfl ?_
        refine op_gtr rfl rfl rfl ?_
        refine op_pick0 rfl rfl (.bool _) rfl ?_
        refine op_nil ?_
        exact ⟨rfl, (), rfl, ⟨congrArg Value.bool (by rw [Bool.eq_iff_iff]; simp_all; try omega), trivial⟩, rfl⟩
    rintro - j20 w hw
    subst w
    refine W_cond _ rfl ?_ ?_
    · intro h2
      replace h2 := nvar_t h2
      refine W_rseq ?_
      refine op_assign rfl (.pointer _) rfl ?_
      refine op_assign rfl (.int _ _) rfl ?_
      refine op_nil (at_then ?_)
      refine W_ret (ret_then (leave2 (v1 := (.pointer _)) (v2 := (.int _ _)) rfl rfl rfl rfl ?_))
      have h2' : ofC ds nx = 1 := by unfold ofC; rw [if_neg h1', if_pos (by simpa using h2)]
      exact ⟨_, by rw [h2'], fun _ => rfl, (fun h => by omega), H.ext⟩
    · intro h2
      replace h2 := nvar_f h2
      have h2' : (decide (1 ≤ nx) && decide (nx ≤ 4611686018427387904)) = true := by simpa using h2
      have h2n : ¬ (decide (1 ≤ nx) && decide (nx ≤ 4611686018427387904)) = false := by rw [h2']; decide
      refine W_skip (at_then ?_)
      refine W_rseq ?_
      refine op_makeMap .u64 rfl H ?_
      rintro b o w hM H
      refine op_move rfl (.int _ _) rfl ?_
      refine op_buildS (DU b nx) rfl pl_123_SnG zc_123_SnG (by kernel_rfl) ?_
      refine op_box rfl (DU b nx) (.agg _) rfl rfl H ?_
      rintro b24 w - H
      refine op_assign rfl (.pointer _) rfl ?_
      refine op_nil (at_then ?_)
      refine W_rseq ?_
      refine op_assign rfl (.int _ _) rfl ?_
      refine op_nil (at_then ?_)
      refine W_seq ?_
      refine W_rseq ?_
      refine op_move rfl (.slice _ _ _) rfl ?_
      refine op_len rfl el_23_SnG rfl ?_
      refine op_move rfl (.int _ _) rfl ?_
      refine op_nil (at_then ?_)
      refine W_block ?_
      refine W_loop 288230376017494704 (α := OSt) (fun t => [(7, .int .u64 t.ah), (27, .int .i64 (t.i : Int))]) (fun t w' => t.i ≤ ds.length ∧ t.ah = lastId 0 (ds.take t.i) ∧ ascB nx 0 (ds.take t.i) = true ∧ MapO .u64 (dm (ds.take t.i)) t.o ∧ Ctx w0 [] w' [(b24, Bl 123 (DU b nx)), (b, t.o)]) (fun t => ds.length - t.i) ⟨0, 0, o⟩ rfl ?_ ?_ ?_
      · exact ⟨rfl, rfl, trivial⟩
      · exact ⟨Nat.zero_le _, rfl, rfl, hM, H⟩
      · rintro ⟨i, ah, o⟩ j w ⟨hi, hah, has, hM, H⟩; dsimp only at hi hah has hM H; dsimp only
        refine W_rseq ?_
        refine op_lss rfl rfl rfl ?_
        refine op_nil (at_then ?_)
        refine W_seq ?_
        refine W_cond _ rfl ?_ ?_
        · intro h3
          replace h3 := dec_t h3
          obtain ⟨d, hd⟩ := get_some (l := ds) (i := i) (by omega)
          have hdi := hid d (List.mem_of_getElem? hd)
          have htk : ds.take (i + 1) = ds.take i ++ [d] := by rw [List.take_succ, hd]; rfl
          have hasc : ascB nx 0 (ds.take (i + 1)) = (mayD d && (decide (ah < d.id) && decide (d.id < nx))) := by
            rw [htk, ascB_append, has, Bool.true_and, ← hah]
            show (_ && ascB nx d.id []) = _
            show (_ && true) = _
            rw [Bool.and_true]
          refine W_skip (at_then ?_)
          refine W_seq ?_
          refine W_block ?_
          refine W_rseq ?_
          first | refine op_indexRd R rfl el_23_SnG sz_62_SnG rfl rfl (by omega) (by omega) (by first | rfl | omega) ?_ | refine op_indexAddr rfl el_23_SnG sz_62_SnG rfl rfl (by omega) (by omega) ?_
          first | refine op_ldN _ rfl ag_62_SnG sz_62_SnG rfl rfl ((R.ext0 H.ext).row hd rfl) ?_ | refine op_ldbN rfl ag_62_SnG sz_62_SnG rfl H (by first | exact at0 | exact at1 | exact at2 | exact at3 | exact at4 | exact at5 | exact at6 | exact at7 | exact at8 | exact at9) rfl ?_
          refine op_alloc rfl zc_62_SnG H ?_
          rintro b9 w - H
          refine op_stb0 rfl sz_62_SnG rfl rfl rfl (by first | exact encD_one _ | simp [oneCell]) H (by first | exact at0 | exact at1 | exact at2 | exact at3 | exact at4 | exact at5 | exact at6 | exact at7 | exact at8 | exact at9) rfl ?_
          rintro w H
          refine op_nil (at_then ?_)
          refine W_seq ?_
          refine W_rseq (Wops_join (α := Unit) 70366596694016 (fun _ => [(45, .bool (!(mayD d && (decide (ah < d.id) && decide (d.id < nx)))))]) (fun _ w' => Ctx w0 [] w' [(b9, Bl 62 (encD d)), (b24, Bl 123 (DU b nx)), (b, o)]) rfl ?_ ?_)
          · first | refine op_ldN _ rfl ag_62_SnG sz_62_SnG rfl rfl ((R.ext0 H.ext).row hd rfl) ?_ | refine op_ldbN rfl ag_62_SnG sz_62_SnG rfl H (by first | exact at0 | exact at1 | exact at2 | exact at3 | exact at4 | exact at5 | exact at6 | exact at7 | exact at8 | exact at9) rfl ?_
            refine op_call rfl ca_112_SnG (dmay_ok d _) rfl ?_
            rintro v w ⟨rfl, hx32⟩
            replace H := H.call hx32
            refine op_not rfl rfl ?_
            refine op_move rfl (.bool _) rfl ?_
            refine Wops_split 34 rfl ?_ ?_
            · intro h3
              replace h3 := nvar_t h3
              refine op_skip rfl ?_
              refine op_skip rfl ?_
              refine op_skip rfl ?_
              refine op_skip rfl ?_
              refine op_pick1 rfl rfl (.bool _) rfl ?_
              refine op_move rfl (.bool _) rfl ?_
              refine op_skip rfl ?_
              refine op_skip rfl ?_
              refine op_skip rfl ?_
              refine op_skip rfl ?_
              refine op_pick1 rfl rfl (.bool _) rfl ?_
              refine op_nil ?_
              exact ⟨rfl, (), rfl, ⟨congrArg Value.bool (by clear hasc; rw [Bool.eq_iff_iff]; simp_all; try omega), trivial⟩, H⟩
            · intro h4
              replace h4 := nvar_f h4
              refine op_fieldAddr rfl fo_62_0_SnG rfl ?_
              refine op_ldb rfl ag_24_SnG rfl H (by first | exact at0 | exact at1 | exact at2 | exact at3 | exact at4 | exact at5 | exact at6 | exact at7 | exact at8 | exact at9) rfl ?_
              refine op_move rfl (.int _ _) rfl ?_
              refine op_leq rfl rfl rfl ?_
              refine op_pick0 rfl rfl (.bool _) rfl ?_
              refine op_move rfl (.bool _) rfl ?_
              refine Wops_split 40 rfl ?_ ?_
              · intro h5
                replace h5 := dec_t h5
                refine op_skip rfl ?_
                refine op_skip rfl ?_
                refine op_skip rfl ?_
                refine op_skip rfl ?_
                refine op_pick1 rfl rfl (.bool _) rfl ?_
                refine op_nil ?_
                exact ⟨rfl, (), rfl, ⟨congrArg Value.bool (by clear hasc; rw [Bool.eq_iff_iff]; simp_all; try omega), trivial⟩, H⟩
              · intro h6
                replace h6 := dec_f h6
                refine op_fieldAddr rfl fo_62_0_SnG rfl ?_
                refine op_ldb rfl ag_24_SnG rfl H (by first | exact at0 | exact at1 | exact at2 | exact at3 | exact at4 | exact at5 | exact at6 | exact at7 | exact at8 | exact at9) rfl ?_
                refine op_move rfl (.int _ _) rfl ?_
                refine op_geq rfl rfl rfl ?_
                refine op_pick0 rfl rfl (.bool _) rfl ?_
                refine op_nil ?_
                exact ⟨rfl, (), rfl, ⟨congrArg Value.bool (by clear hasc; rw [Bool.eq_iff_iff]; simp_all; try omega), trivial⟩, H⟩
          rintro - j45 w H
          refine W_cond _ rfl ?_ ?_
          · intro h4
            replace h4 := nvar_t h4
            refine W_rseq ?_
            refine op_assign rfl (.pointer _) rfl ?_
            refine op_assign rfl (.int _ _) rfl ?_
            refine op_nil (at_then ?_)
            refine W_ret (ret_then (ret_block (ret_then (ret_then (ret_block (ret_then (leave2 (v1 := (.pointer _)) (v2 := (.int _ _)) rfl rfl rfl rfl ?_)))))))
            have h4' : ofC ds nx = 1 := by
              unfold ofC
              rw [if_neg h1', if_neg h2n, if_pos]
              have h5 : ascB nx 0 ds = ascB nx 0 (ds.take (i + 1) ++ ds.drop (i + 1)) := by rw [List.take_append_drop]
              rw [h5, ascB_append, hasc, show (mayD d && (decide (ah < d.id) && decide (d.id < nx))) = false by simpa using h4]; rfl
            exact ⟨_, by rw [h4'], fun _ => rfl, (fun h => by omega), H.ext⟩
          · intro h4
            replace h4 := nvar_f h4
            have h4' : (mayD d && (decide (ah < d.id) && decide (d.id < nx))) = true := by simpa using h4
            have hgt : ah < d.id := by simp only [Bool.and_eq_true, decide_eq_true_eq] at h4'; exact h4'.2.1
            have hno : mget (dm (ds.take i)) d.id = none := mget_none fun x hx => by
              have := ((asc_lt has).1 x hx).2.1
              omega
            refine W_skip (at_then ?_)
            refine W_segz [([0, 1, 2, 3, 4, 5, 6, 7, 8], 9), ([10], 11), ([], 12)] (fun z => z.heap[b9]? = some (Bl 62 (encD d)) ∧ z.heap[b24]? = some (Bl 123 (DU b nx))) [] mixed_SnG (by kernel_rfl) (⟨H.drew.get at0, H.drew.get at1⟩) ?_
            refine seg_cons rfl rfl ?_
            refine t_move rfl (.pointer _) rfl ?_
            refine t_nilCheck rfl rfl ?_
            refine t_fieldAddr rfl fo_123_0_SnG rfl ?_
            first | refine t_ldb rfl ag_121_SnG rfl True.intro (by first | exact at0 | exact at1 | exact at2 | exact at3 | exact at4 | exact at5 | exact at6 | exact at7 | exact at8 | exact at9) rfl ?_ | refine t_ld rfl ag_121_SnG rfl (fun _ hx => (by rw [cell_bl hx.1]; rfl)) ?_ | refine t_ld rfl ag_121_SnG rfl (fun _ hx => (by rw [cell_bl hx.2]; rfl)) ?_
            refine t_fieldAddr rfl fo_62_0_SnG rfl ?_
            first | refine t_ldb rfl ag_24_SnG rfl True.intro (by first | exact at0 | exact at1 | exact at2 | exact at3 | exact at4 | exact at5 | exact at6 | exact at7 | exact at8 | exact at9) rfl ?_ | refine t_ld rfl ag_24_SnG rfl (fun _ hx => (by rw [cell_bl hx.1]; rfl)) ?_ | refine t_ld rfl ag_24_SnG rfl (fun _ hx => (by rw [cell_bl hx.2]; rfl)) ?_
            first | refine t_ldN _ rfl ag_62_SnG sz_62_SnG rfl rfl (fun _ hx => (R.ext0 H.ext).row hd rfl) ?_ | refine t_ldN _ rfl ag_62_SnG sz_62_SnG rfl rfl (fun _ hx => (bl_cells hx.1)) ?_ | refine t_ldbN rfl ag_62_SnG sz_62_SnG rfl True.intro (by first | exact at0 | exact at1 | exact at2 | exact at3 | exact at4 | exact at5 | exact at6 | exact at7 | exact at8 | exact at9) rfl ?_
            refine t_fieldAddr rfl fo_62_0_SnG rfl ?_
            first | refine t_ldb rfl ag_24_SnG rfl True.intro (by first | exact at0 | exact at1 | exact at2 | exact at3 | exact at4 | exact at5 | exact at6 | exact at7 | exact at8 | exact at9) rfl ?_ | refine t_ld rfl ag_24_SnG rfl (fun _ hx => (by rw [cell_bl hx.1]; rfl)) ?_ | refine t_ld rfl ag_24_SnG rfl (fun _ hx => (by rw [cell_bl hx.2]; rfl)) ?_
            refine t_nil ?_
            replace H := H.drew
            refine op_mapEntry rfl mt_121_SnG un_24_SnG zv_62_SnG rfl rfl H at2 hM hno ?_
            rintro st o1 w hE H
            refine op_nil (at_seg (⟨H.get at0, H.get at1⟩) ?_)
            refine seg_cons rfl rfl ?_
            refine t_extract rfl rfl rfl ?_
            refine t_nil ?_
            refine op_entryStore (dueV d) rfl rfl rfl rfl H at2 hE ?_
            rintro o2 w hM2 H
            refine op_nil (at_seg (⟨H.get at0, H.get at1⟩) ?_)
            refine seg_cons rfl rfl ?_
            refine t_nil ?_
            refine op_assign rfl (.int _ _) rfl ?_
            refine op_nil (at_seg (⟨H.get at0, H.get at1⟩) ?_)
            refine seg_nil ?_
            refine at_block (at_then ?_)
            refine W_region ?_
            refine op_add_i64 rfl rfl rfl (by omega) (by omega) ?_
            refine op_move rfl (.int _ _) rfl ?_
            refine op_nil (at_then ?_)
            exact ⟨⟨i + 1, d.id, o2⟩, rfl, ⟨rfl, rfl, trivial⟩, ⟨by dsimp only; omega, by dsimp only; rw [htk, lastId_append], by dsimp only; rw [hasc]; exact h4', by dsimp only; rw [htk, ← dm_app]; exact hM2, H.tail⟩, by dsimp only; omega⟩
        · intro h3
          replace h3 := dec_f h3
          obtain rfl : i = ds.length := by omega
          rw [List.take_length] at hM has
          have hC : ofC ds nx = (totM (ds.map (·.am))).2 := by
            unfold ofC; rw [if_neg h1', if_neg h2n, if_neg (by rw [has]; decide)]
          rw [hC]
          obtain ⟨tt, htt⟩ : ∃ tt, tt = totM (ds.map (·.am)) := ⟨_, rfl⟩
          rw [← htt]
          refine W_exit (exit_then (exit_then (exit_here (at_then ?_))))
          refine W_seq ?_
          refine W_rseq ?_
          refine op_move rfl (.pointer _) rfl ?_
          refine op_call rfl ca_113_SnG (amounts_ok _ (H.get at0) (H.get at1) hM (by omega)) rfl ?_
          rintro v w ⟨l, hlp, F⟩
          obtain ⟨a3, n3, c3, f3, rfl, O3, hb3⟩ := F.ex
          replace H := H.call F.ext
          have hl3 := O3.llen
          rw [List.length_map] at hl3
          have hlq := hlp.length_eq
          rw [List.length_map] at hlq
          refine op_call rfl ca_110_SnG (msum_ok a3 n3 c3 l _ (O3.rd1 fun x hx => (hb3 x hx).1) (by omega) (by omega)) rfl ?_
          rintro v w ⟨rfl, rfl⟩
          rw [totM_perm hlp]
          rw [← htt]
          refine op_move rfl (.tuple _) rfl ?_
          refine op_extract rfl rfl rfl ?_
          refine op_extract rfl rfl rfl ?_
          refine op_assign rfl (.int _ _) rfl ?_
          refine op_assign rfl (.int _ _) rfl ?_
          refine op_nil (at_then ?_)
          refine W_rseq ?_
          refine op_move rfl (.int _ _) rfl ?_
          refine op_neq rfl rfl rfl ?_
          refine op_nil (at_then ?_)
          refine W_cond _ rfl ?_ ?_
          · intro h5
            replace h5 := ndec_t h5
            refine W_rseq ?_
            refine op_move rfl (.int _ _) rfl ?_
            refine op_assign rfl (.pointer _) rfl ?_
            refine op_assign rfl (.int _ _) rfl ?_
            refine op_nil (at_then ?_)
            refine W_ret (ret_then (leave2 (v1 := (.pointer _)) (v2 := (.int _ _)) rfl rfl rfl rfl ?_))
            exact ⟨_, rfl, fun _ => rfl, (fun h => absurd h h5), H.ext⟩
          · intro h5
            replace h5 := ndec_f h5
            refine W_skip (at_then ?_)
            refine W_rseq ?_
            refine op_move rfl (.pointer _) rfl ?_
            refine op_assign rfl (.pointer _) rfl ?_
            refine op_assign rfl (.int _ _) rfl ?_
            refine op_nil (at_then ?_)
            refine W_ret (leave2 (v1 := (.pointer _)) (v2 := (.int _ _)) rfl rfl rfl rfl ?_)
            have h5' : tt.2 = 0 := by omega
            refine ⟨_, by rw [h5'], (fun h => absurd h5' h), (fun _ => ⟨b24, b, o, rfl, H.get at0, H.get at1, hM, ?_, ?_, H.ne at0 at1 (by decide)⟩), H.ext⟩
            · exact (H.own (b24, _) (List.mem_of_getElem? (i := 0) rfl)).elim (fun h => by cases h) id
            · exact (H.own (b, _) (List.mem_of_getElem? (i := 1) rfl)).elim (fun h => by cases h) id
end Go.Proofs.YtapphbmlkdhnmaaGreat

/- The accounts: Of, their balances, their rooms. -/
namespace Go.Proofs.YtapphbmlkdhnmaaGreat
open Go.GV
theorem ag_22_SnH : aggB Tryz.prog 22 = some false := by kernel_rfl
theorem ag_2_SnH : aggB Tryz.prog 2 = some false := by kernel_rfl
theorem ag_64_SnH : aggB Tryz.prog 64 = some true := by kernel_rfl
theorem by_2_SnH : tbytes Tryz.prog 2 = some 8 := by kernel_rfl
theorem by_64_SnH : tbytes Tryz.prog 64 = some 16 := by kernel_rfl
theorem ca_16_SnH : callable Tryz.prog 16 = true := by kernel_rfl
theorem ca_60_SnH : callable Tryz.prog 60 = true := by kernel_rfl
theorem el_22_SnH : elemT Tryz.prog 22 = some 64 := by kernel_rfl
theorem el_29_SnH : elemT Tryz.prog 29 = some 2 := by kernel_rfl
theorem fo_116_0_SnH : fieldO Tryz.prog 116 0 = some 0 := by kernel_rfl
theorem fo_64_0_SnH : fieldO Tryz.prog 64 0 = some 0 := by kernel_rfl
theorem fo_64_1_SnH : fieldO Tryz.prog 64 1 = some 1 := by kernel_rfl
theorem sz_2_SnH : tsize Tryz.prog 2 = some 1 := by kernel_rfl
theorem sz_64_SnH : tsize Tryz.prog 64 = some 2 := by kernel_rfl
theorem un_35_SnH : Tryz.prog.underlying 35 = some (.pointer 116) := by kernel_rfl
theorem zc_2_SnH : zcells Tryz.prog 2 = some ([.int .i64 0]) := by kernel_rfl
theorem zc_64_SnH : zcells Tryz.prog 64 = some ([.int .i64 0, .int .i64 0]) := by kernel_rfl
attribute [local irreducible] Wops W Wq Wt

structure Ac where
  ba : Int
  re : Int
instance : DecidableEq Ac := fun x y => if h : x.ba = y.ba ∧ x.re = y.re then isTrue (by cases x; cases y; simp_all) else isFalse fun e => h (by subst e; exact ⟨rfl, rfl⟩)
abbrev encA (a : Ac) : List Value := [.int .i64 a.ba, .int .i64 a.re]
theorem encA_one (a : Ac) : ∀ v ∈ encA a, oneCell v = true := by simp [encA, oneCell]
theorem encA_ones (acs : List Ac) : ∀ v ∈ acs.flatMap encA, oneCell v = true := fun v hv => by
  obtain ⟨a, _, h⟩ := List.mem_flatMap.1 hv
  exact encA_one a v h
theorem encA_len (acs : List Ac) : (acs.flatMap encA).length = acs.length * 2 := by
  induction acs with
  | nil => rfl
  | cons a acs ih =>
    rw [List.flatMap_cons, List.length_append, ih]
    show 2 + acs.length * 2 = (acs.length + 1) * 2
    omega
theorem aclone_ok (a : Option Addr) (n c : Nat) (acs : List Ac) (w : World) (R : Rd w a 2 encA acs) (hn : acs.length = n) (hm : n ≤ 1000000000) :
    Ret Tryz.prog 60 #[.slice a n c] w fun v w' => Fresh w w' 64 2 v (acs.flatMap encA) := by
  subst hn
  obtain ⟨w0, rfl⟩ : ∃ w0, w0 = w := ⟨_, rfl⟩
  have H := Ctx.start w0 []
  refine ret_of_W (fn := Tryz.f60) Tryz.func60 rfl [.slice a acs.length c] rfl (by kernel_rfl) ?_
  refine W_rseq ?_
  refine op_assign rfl (.slice _ _ _) rfl ?_
  refine op_nil (at_then ?_)
  refine W_seq ?_
  refine W_rseq ?_
  refine op_move rfl (.slice _ _ _) rfl ?_
  refine op_eqlnil rfl el_22_SnH rfl ?_
  refine op_nil (at_then ?_)
  refine W_cond _ rfl ?_ ?_
  · intro h1
    have ha : a = none := by simpa using h1
    subst ha
    have hxs : acs = [] := by
      cases acs with
      | nil => rfl
      | cons x xs => obtain ⟨b, o, h⟩ := R.some' (by simp); cases h
    subst hxs
    refine W_rseq ?_
    refine op_assign rfl (.slice _ _ _) rfl ?_
    refine op_nil (at_then ?_)
    refine W_ret (ret_then (leave1 (v := (.slice _ _ _)) rfl rfl rfl ?_))
    exact Fresh.nil H _ _
  · intro h1
    refine W_skip (at_then ?_)
    refine W_rseq ?_
    refine op_build0 rfl el_22_SnH sz_64_SnH H ?_
    rintro b5 w H O
    refine op_move rfl (.slice _ _ _) rfl ?_
    refine op_append rfl el_22_SnH el_22_SnH sz_64_SnH by_64_SnH zc_64_SnH rfl (by decide) (acs.flatMap encA) rfl rfl H O (encA_len acs) (encA_ones acs) ((R.ext0 H.ext).app (fun _ _ => rfl) (by omega)) (by omega) ?_
    rintro a7 c7 full7 w H O
    refine op_assign rfl (.slice _ _ _) rfl ?_
    refine op_nil (at_then ?_)
    refine W_ret (leave1 (v := (.slice _ _ _)) rfl rfl rfl ?_)
    exact H.fresh O
set_option maxRecDepth 20000 in
theorem alist_ok {bd : Nat} (a : Option Addr) (n c : Nat) (acs : List Ac) (w : World) (hd : w.heap[bd]? = some (Bl 116 [.slice a n c])) (R : Rd w a 2 encA acs) (hn : acs.length = n) (hm : n ≤ 1000000000) :
    Ret Tryz.prog 16 #[ptr bd] w fun v w' => Fresh w w' 64 2 v (acs.flatMap encA) := by
  obtain ⟨w0, rfl⟩ : ∃ w0, w0 = w := ⟨_, rfl⟩
  have H := Ctx.start w0 []
  refine ret_of_W (fn := Tryz.f16) Tryz.func16 rfl [.pointer (some ⟨bd, 0, none⟩)] rfl (by kernel_rfl) ?_
  refine W_rseq ?_
  refine op_assign rfl (.slice _ _ _) rfl ?_
  refine op_nil (at_then ?_)
  refine W_seq ?_
  refine W_rseq ?_
  refine op_move rfl (.pointer _) rfl ?_
  refine op_eqlptr rfl un_35_SnH rfl ?_
  refine op_nil (at_then ?_)
  refine W_cond _ rfl ?_ ?_
  · intro h0
    cases h0
  · intro h0
    refine W_skip (at_then ?_)
    refine W_rseq ?_
    refine op_move rfl (.pointer _) rfl ?_
    refine op_nilCheck rfl rfl ?_
    refine op_fieldAddr rfl fo_116_0_SnH rfl ?_
    first | refine op_ldb rfl ag_22_SnH rfl H (by first | exact at0 | exact at1 | exact at2 | exact at3 | exact at4 | exact at5 | exact at6 | exact at7 | exact at8 | exact at9) rfl ?_ | refine op_ld rfl ag_22_SnH rfl ((by rw [cell_bl hd]; rfl)) ?_
    refine op_call rfl ca_60_SnH (aclone_ok a n c acs _ R hn hm) rfl ?_
    rintro v w F
    obtain ⟨a9, n9, c9, full9, rfl, O9, hb9⟩ := F.ex
    refine op_assign rfl (.slice _ _ _) rfl ?_
    refine op_nil (at_then ?_)
    refine W_ret (leave1 (v := (.slice _ _ _)) rfl rfl rfl ?_)
    exact F
theorem take_map {α β : Type} {f : α → β} {l : List α} {i : Nat} {x : α} (h : l[i]? = some x) : (l.take (i + 1)).map f = (l.take i).map f ++ [f x] := by
  rw [List.take_succ, h, List.map_append]; rfl
set_option maxRecDepth 20000 in
set_option maxHeartbeats 2000000 in
theorem balances_ok {bd : Nat} (a : Option Addr) (n c : Nat) (acs : List Ac) (w : World) (hd : w.heap[bd]? = some (Bl 116 [.slice a n c])) (R : Rd w a 2 encA acs) (hn : acs.length = n) (hm : n ≤ 1000000) :
    Ret Tryz.prog 111 #[ptr bd] w fun v w' => Fresh w w' 2 1 v ((acs.map (·.ba)).map i64v) := by
  subst hn
  obtain ⟨w0, rfl⟩ : ∃ w0, w0 = w := ⟨_, rfl⟩
  have H := Ctx.start w0 []
  refine ret_of_W (fn := Tryz.f111) Tryz.func111 rfl [.pointer (some ⟨bd, 0, none⟩)] rfl (by kernel_rfl) ?_
  refine W_rseq ?_
  refine op_assign rfl (.slice _ _ _) rfl ?_
  refine op_nil (at_then ?_)
  refine W_rseq ?_
  refine op_assign rfl (.slice _ _ _) rfl ?_
  refine op_nil (at_then ?_)
  refine W_seq ?_
  refine W_rseq ?_
  refine op_move rfl (.pointer _) rfl ?_
  refine op_nilCheck rfl rfl ?_
  refine op_fieldAddr rfl fo_116_0_SnH rfl ?_
  first | refine op_ldb rfl ag_22_SnH rfl H (by first | exact at0 | exact at1 | exact at2 | exact at3 | exact at4 | exact at5 | exact at6 | exact at7 | exact at8 | exact at9) rfl ?_ | refine op_ld rfl ag_22_SnH rfl ((by rw [cell_bl hd]; rfl)) ?_
  refine op_len rfl el_22_SnH rfl ?_
  refine op_move rfl (.int _ _) rfl ?_
  refine op_nil (at_then ?_)
  refine W_block ?_
  refine W_loop 2095144 (α := LSt) (fun t => [(3, .slice t.a t.i t.c), (11, .int .i64 (t.i : Int))]) (fun t w' => t.i ≤ acs.length ∧ OS t.a t.i t.c 1 t.full (((acs.take t.i).map (·.ba)).map i64v) ∧ Ctx w0 [] w' (ent t.a 2 t.full)) (fun t => acs.length - t.i) ⟨0, none, 0, []⟩ rfl ?_ ?_ ?_
  · exact ⟨rfl, rfl, trivial⟩
  · exact ⟨Nat.zero_le _, OS.nil, H⟩
  · rintro ⟨i, a2, c2, full⟩ j w ⟨hi, O, H⟩; dsimp only at hi O H; dsimp only
    refine W_rseq ?_
    refine op_lss rfl rfl rfl ?_
    refine op_nil (at_then ?_)
    refine W_seq ?_
    refine W_cond _ rfl ?_ ?_
    · intro h1
      replace h1 := dec_t h1
      obtain ⟨x, hx⟩ := get_some (l := acs) (i := i) (by omega)
      refine W_skip (at_then ?_)
      refine W_seq ?_
      refine W_block ?_
      refine W_rseq ?_
      first | refine op_indexRd R rfl el_22_SnH sz_64_SnH rfl rfl (by omega) (by omega) (by first | rfl | omega) ?_ | refine op_indexAddr rfl el_22_SnH sz_64_SnH rfl rfl (by omega) (by omega) ?_
      first | refine op_ldN _ rfl ag_64_SnH sz_64_SnH rfl rfl ((R.ext0 H.ext).row hx rfl) ?_ | refine op_ldbN rfl ag_64_SnH sz_64_SnH rfl H (by first | exact at0 | exact at1 | exact at2 | exact at3 | exact at4 | exact at5 | exact at6 | exact at7 | exact at8 | exact at9) rfl ?_
      refine op_alloc rfl zc_64_SnH H ?_
      rintro b5 w - H
      refine op_stb0 rfl sz_64_SnH rfl rfl rfl (by first | exact encA_one _ | simp [oneCell]) H (by first | exact at0 | exact at1 | exact at2 | exact at3 | exact at4 | exact at5 | exact at6 | exact at7 | exact at8 | exact at9) rfl ?_
      rintro w H
      refine op_nil (at_then ?_)
      refine W_region ?_
      refine op_move rfl (.slice _ _ _) rfl ?_
      refine op_fieldAddr rfl fo_64_0_SnH rfl ?_
      first | refine op_ldb rfl ag_2_SnH rfl H (by first | exact at0 | exact at1 | exact at2 | exact at3 | exact at4 | exact at5 | exact at6 | exact at7 | exact at8 | exact at9) rfl ?_ | refine op_ld rfl ag_2_SnH rfl ((by rw [cell_bl hd]; rfl)) ?_
      refine op_build1 _ (.int _ _) rfl el_29_SnH sz_2_SnH zc_2_SnH rfl (by decide) (by decide) rfl rfl rfl H ?_
      rintro b18 w - H
      refine op_appendb (L := [_]) rfl el_29_SnH el_29_SnH sz_2_SnH by_2_SnH zc_2_SnH rfl (by decide) rfl rfl H O rfl (by simp [oneCell]) (by omega) ?_
      rintro a' c' full' w H O
      refine op_assign rfl (.slice _ _ _) rfl ?_
      refine op_nil (at_block (at_then ?_))
      refine W_region ?_
      refine op_add_i64 rfl rfl rfl (by omega) (by omega) ?_
      refine op_move rfl (.int _ _) rfl ?_
      refine op_nil (at_then ?_)
      exact ⟨⟨i + 1, a', c', full'⟩, rfl, ⟨rfl, rfl, trivial⟩, ⟨by dsimp only; omega, by dsimp only; rw [take_map hx, List.map_append]; exact O, H.tail⟩, by dsimp only; omega⟩
    · intro h1
      replace h1 := dec_f h1
      refine W_exit (exit_then (exit_then (exit_here (at_then ?_))))
      refine W_rseq ?_
      refine op_move rfl (.slice _ _ _) rfl ?_
      refine op_assign rfl (.slice _ _ _) rfl ?_
      refine op_nil (at_then ?_)
      refine W_ret (leave1 (v := (.slice _ _ _)) rfl rfl rfl ?_)
      obtain rfl : i = acs.length := by omega
      rw [List.take_length] at O
      exact Ctx.fresh (L := []) H O
def roomV (a : Ac) : Int := max 0 (a.ba - a.re)
def acMay (a : Ac) : Bool := mayM a.ba && mayM a.re
set_option maxRecDepth 20000 in
set_option maxHeartbeats 2000000 in
theorem rooms_ok {bd : Nat} (a : Option Addr) (n c : Nat) (acs : List Ac) (w : World) (hd : w.heap[bd]? = some (Bl 116 [.slice a n c])) (R : Rd w a 2 encA acs) (hn : acs.length = n) (hm : n ≤ 1000000) (hmay : ∀ x ∈ acs, acMay x = true) :
    Ret Tryz.prog 26 #[ptr bd] w fun v w' => Fresh w w' 2 1 v ((acs.map roomV).map i64v) := by
  obtain ⟨w0, rfl⟩ : ∃ w0, w0 = w := ⟨_, rfl⟩
  refine ret_of_W (fn := Tryz.f26) Tryz.func26 rfl [.pointer (some ⟨bd, 0, none⟩)] rfl (by kernel_rfl) ?_
  refine W_rseq ?_
  refine op_assign rfl (.slice _ _ _) rfl ?_
  refine op_nil (at_then ?_)
  refine W_rseq ?_
  refine op_assign rfl (.slice _ _ _) rfl ?_
  refine op_nil (at_then ?_)
  refine W_seq ?_
  refine W_rseq ?_
  refine op_move rfl (.pointer _) rfl ?_
  refine op_call rfl ca_16_SnH (alist_ok a n c acs _ hd R hn (by omega)) rfl ?_
  rintro v w F
  obtain ⟨a7, n7, c7, full7, rfl, O7, hb7⟩ := F.ex
  have hl7 := O7.llen
  rw [encA_len] at hl7
  obtain rfl : acs.length = n7 := by omega
  refine op_len rfl el_22_SnH rfl ?_
  refine op_move rfl (.int _ _) rfl ?_
  refine op_nil (at_then ?_)
  refine W_block ?_
  obtain ⟨w1, rfl⟩ : ∃ z, z = w := ⟨_, rfl⟩
  have H := Ctx.start w1 []
  have R7 : Rd w1 a7 2 encA acs := OS.rd O7 (fun x hx => (hb7 x hx).1) (fun _ _ => rfl) (by omega)
  refine W_loop 8388136 (α := LSt) (fun t => [(3, .slice t.a t.i t.c), (9, .int .i64 (t.i : Int))]) (fun t w' => t.i ≤ acs.length ∧ OS t.a t.i t.c 1 t.full (((acs.take t.i).map roomV).map i64v) ∧ Ctx w1 [] w' (ent t.a 2 t.full)) (fun t => acs.length - t.i) ⟨0, none, 0, []⟩ rfl ?_ ?_ ?_
  · exact ⟨rfl, rfl, trivial⟩
  · exact ⟨Nat.zero_le _, OS.nil, H⟩
  · rintro ⟨i, a2, c2, full⟩ j w ⟨hi, O, H⟩; dsimp only at hi O H; dsimp only
    refine W_rseq ?_
    refine op_lss rfl rfl rfl ?_
    refine op_nil (at_then ?_)
    refine W_seq ?_
    refine W_cond _ rfl ?_ ?_
    · intro h1
      replace h1 := dec_t h1
      obtain ⟨x, hx⟩ := get_some (l := acs) (i := i) (by omega)
      have hxm := hmay x (List.mem_of_getElem? hx)
      have hx2 : (0 ≤ x.ba ∧ x.ba ≤ 4503599627370496) ∧ 0 ≤ x.re ∧ x.re ≤ 4503599627370496 := by
        unfold acMay at hxm
        rw [Bool.and_eq_true, mayM_iff, mayM_iff] at hxm
        exact hxm
      refine W_skip (at_then ?_)
      refine W_seq ?_
      refine W_block ?_
      refine W_rseq ?_
      first | refine op_indexRd R7 rfl el_22_SnH sz_64_SnH rfl rfl (by omega) (by omega) (by first | rfl | omega) ?_ | refine op_indexAddr rfl el_22_SnH sz_64_SnH rfl rfl (by omega) (by omega) ?_
      first | refine op_ldN _ rfl ag_64_SnH sz_64_SnH rfl rfl ((R7.ext0 H.ext).row hx rfl) ?_ | refine op_ldbN rfl ag_64_SnH sz_64_SnH rfl H (by first | exact at0 | exact at1 | exact at2 | exact at3 | exact at4 | exact at5 | exact at6 | exact at7 | exact at8 | exact at9) rfl ?_
      refine op_alloc rfl zc_64_SnH H ?_
      rintro b5 w - H
      refine op_stb0 rfl sz_64_SnH rfl rfl rfl (by first | exact encA_one _ | simp [oneCell]) H (by first | exact at0 | exact at1 | exact at2 | exact at3 | exact at4 | exact at5 | exact at6 | exact at7 | exact at8 | exact at9) rfl ?_
      rintro w H
      refine op_nil (at_then ?_)
      refine W_region ?_
      refine op_move rfl (.slice _ _ _) rfl ?_
      refine op_fieldAddr rfl fo_64_0_SnH rfl ?_
      refine op_ldb rfl ag_2_SnH rfl H (by first | exact at0 | exact at1 | exact at2 | exact at3 | exact at4 | exact at5 | exact at6 | exact at7 | exact at8 | exact at9) rfl ?_
      refine op_fieldAddr rfl fo_64_1_SnH rfl ?_
      refine op_ldb rfl ag_2_SnH rfl H (by first | exact at0 | exact at1 | exact at2 | exact at3 | exact at4 | exact at5 | exact at6 | exact at7 | exact at8 | exact at9) rfl ?_
      refine op_sub_i64 rfl rfl rfl (by omega) (by omega) ?_
      refine op_max2 rfl rfl rfl ?_
      refine op_build1 _ (.int _ _) rfl el_29_SnH sz_2_SnH zc_2_SnH rfl (by decide) (by decide) rfl rfl rfl H ?_
      rintro b20 w - H
      refine op_appendb (L := [_]) rfl el_29_SnH el_29_SnH sz_2_SnH by_2_SnH zc_2_SnH rfl (by decide) rfl rfl H O rfl (by simp [oneCell]) (by omega) ?_
      rintro a' c' full' w H O
      refine op_assign rfl (.slice _ _ _) rfl ?_
      refine op_nil (at_block (at_then ?_))
      refine W_region ?_
      refine op_add_i64 rfl rfl rfl (by omega) (by omega) ?_
      refine op_move rfl (.int _ _) rfl ?_
      refine op_nil (at_then ?_)
      exact ⟨⟨i + 1, a', c', full'⟩, rfl, ⟨rfl, rfl, trivial⟩, ⟨by dsimp only; omega, by dsimp only; rw [take_map hx, List.map_append]; exact O, H.tail⟩, by dsimp only; omega⟩
    · intro h1
      replace h1 := dec_f h1
      refine W_exit (exit_then (exit_then (exit_here (at_then ?_))))
      refine W_rseq ?_
      refine op_move rfl (.slice _ _ _) rfl ?_
      refine op_assign rfl (.slice _ _ _) rfl ?_
      refine op_nil (at_then ?_)
      refine W_ret (leave1 (v := (.slice _ _ _)) rfl rfl rfl ?_)
      obtain rfl : i = acs.length := by omega
      rw [List.take_length] at O
      obtain ⟨⟨a3, n3, c3, f3, e1, e2, e3⟩, e4⟩ := Ctx.fresh (L := []) H O
      exact ⟨⟨a3, n3, c3, f3, e1, e2, fun x hx => ⟨(e3 x hx).1, Nat.le_trans F.ext.size (e3 x hx).2⟩⟩, F.ext.trans e4⟩
end Go.Proofs.YtapphbmlkdhnmaaGreat

/- The accounts: Of, Shift. -/
namespace Go.Proofs.YtapphbmlkdhnmaaGreat
open Go.GV
theorem ag_2_SnI : aggB Tryz.prog 2 = some false := by kernel_rfl
theorem ag_64_SnI : aggB Tryz.prog 64 = some true := by kernel_rfl
theorem ca_109_SnI : callable Tryz.prog 109 = true := by kernel_rfl
theorem ca_110_SnI : callable Tryz.prog 110 = true := by kernel_rfl
theorem ca_111_SnI : callable Tryz.prog 111 = true := by kernel_rfl
theorem ca_60_SnI : callable Tryz.prog 60 = true := by kernel_rfl
theorem el_22_SnI : elemT Tryz.prog 22 = some 64 := by kernel_rfl
theorem fo_64_0_SnI : fieldO Tryz.prog 64 0 = some 0 := by kernel_rfl
theorem fo_64_1_SnI : fieldO Tryz.prog 64 1 = some 1 := by kernel_rfl
theorem pl_116_SnI : placesB Tryz.prog 116 = some [(0, 1)] := by kernel_rfl
theorem sz_64_SnI : tsize Tryz.prog 64 = some 2 := by kernel_rfl
theorem zc_116_SnI : zcells Tryz.prog 116 = some ([.slice none 0 0]) := by kernel_rfl
theorem zc_64_SnI : zcells Tryz.prog 64 = some ([.int .i64 0, .int .i64 0]) := by kernel_rfl
attribute [local irreducible] Wops W Wq Wt

/-- Of's code. -/
def aofC (acs : List Ac) : Int := if 16 < acs.length then 6 else if acs.all acMay = false then 1 else (totM (acs.map Ac.ba)).2
set_option maxRecDepth 20000 in
set_option maxHeartbeats 4000000 in
theorem aof_ok (a : Option Addr) (n c : Nat) (acs : List Ac) (w : World) (R : Rd w a 2 encA acs) (hn : acs.length = n) (hm : n ≤ 1000000000) :
    Ret Tryz.prog 50 #[.slice a n c] w fun v w' => ∃ p, v = .tuple #[p, .int .i64 (aofC acs)] ∧ (aofC acs ≠ 0 → p = .pointer none) ∧ (aofC acs = 0 → ∃ bd a' c' full, p = ptr bd ∧ w'.heap[bd]? = some (Bl 116 [.slice a' acs.length c']) ∧ OS a' acs.length c' 2 full (acs.flatMap encA) ∧
      (∀ x ∈ ent a' 64 full, w'.heap[x.1]? = some x.2 ∧ w.heap.size ≤ x.1 ∧ x.1 ≠ bd) ∧ w.heap.size ≤ bd) ∧ Ext [] w w' := by
  subst hn
  obtain ⟨w0, rfl⟩ : ∃ w0, w0 = w := ⟨_, rfl⟩
  have H := Ctx.start w0 []
  refine ret_of_W (fn := Tryz.f50) Tryz.func50 rfl [.slice a acs.length c] rfl (by kernel_rfl) ?_
  refine W_rseq ?_
  refine op_assign rfl (.pointer _) rfl ?_
  refine op_assign rfl (.int _ _) rfl ?_
  refine op_nil (at_then ?_)
  refine W_seq ?_
  refine W_rseq ?_
  refine op_move rfl (.slice _ _ _) rfl ?_
  refine op_len rfl el_22_SnI rfl ?_
  refine op_gtr rfl rfl rfl ?_
  refine op_nil (at_then ?_)
  refine W_cond _ rfl ?_ ?_
  · intro h1
    replace h1 := dec_t h1
    refine W_rseq ?_
    refine op_assign rfl (.pointer _) rfl ?_
    refine op_assign rfl (.int _ _) rfl ?_
    refine op_nil (at_then ?_)
    refine W_ret (ret_then (leave2 (v1 := (.pointer _)) (v2 := (.int _ _)) rfl rfl rfl rfl ?_))
    have h1' : aofC acs = 6 := by unfold aofC; rw [if_pos (by omega)]
    exact ⟨_, by rw [h1'], fun _ => rfl, (fun h => by omega), H.ext⟩
  · intro h1
    replace h1 := dec_f h1
    have h1' : ¬ 16 < acs.length := by omega
    refine W_skip (at_then ?_)
    refine W_rseq ?_
    refine op_move rfl (.slice _ _ _) rfl ?_
    refine op_call rfl ca_60_SnI (aclone_ok a acs.length c acs _ R rfl hm) rfl ?_
    rintro v w F
    obtain ⟨a3, n3, c3, full3, rfl, O3, hb3⟩ := F.ex
    have hx13 := F.ext
    replace H := H.call hx13
    have hl3 := O3.llen
    rw [encA_len] at hl3
    obtain rfl : acs.length = n3 := by omega
    obtain ⟨w13, rfl⟩ : ∃ z, z = w := ⟨_, rfl⟩
    replace H := Ctx.start w13 []
    refine op_buildS [.slice a3 acs.length c3] rfl pl_116_SnI zc_116_SnI (by kernel_rfl) ?_
    refine op_box rfl [.slice a3 acs.length c3] (.agg _) rfl rfl H ?_
    rintro b15 w - H
    refine op_assign rfl (.pointer _) rfl ?_
    refine op_nil (at_then ?_)
    refine W_seq ?_
    refine W_rseq ?_
    refine op_move rfl (.slice _ _ _) rfl ?_
    refine op_len rfl el_22_SnI rfl ?_
    refine op_move rfl (.int _ _) rfl ?_
    refine op_nil (at_then ?_)
    refine W_block ?_
    refine W_loop 8589672524 (α := Nat) (fun i => [(18, .int .i64 (i : Int))]) (fun i w' => i ≤ acs.length ∧ Ctx w13 [] w' [(b15, Bl 116 [.slice a3 acs.length c3])] ∧ (∀ (k : Nat) (x : Ac), k < i → acs[k]? = some x → acMay x = true)) (fun i => acs.length - i) 0 rfl ?_ ?_ ?_
    · exact ⟨rfl, trivial⟩
    · exact ⟨Nat.zero_le _, H, (fun k x h => absurd h (Nat.not_lt_zero _))⟩
    · rintro i j w ⟨hi, H, hall⟩
      obtain ⟨w1, rfl⟩ : ∃ z, z = w := ⟨_, rfl⟩
      have R1 := R.ext0 (hx13.trans H.ext)
      have hd1 := H.get at0
      have H1 := H
      clear H
      have H := Ctx.start w1 []
      refine W_rseq ?_
      refine op_lss rfl rfl rfl ?_
      refine op_nil (at_then ?_)
      refine W_seq ?_
      refine W_cond _ rfl ?_ ?_
      · intro h2
        replace h2 := dec_t h2
        obtain ⟨x, hx⟩ := get_some (l := acs) (i := i) (by omega)
        refine W_skip (at_then ?_)
        refine W_seq ?_
        refine W_block ?_
        refine W_rseq ?_
        first | refine op_indexRd R1 rfl el_22_SnI sz_64_SnI rfl rfl (by omega) (by omega) (by first | rfl | omega) ?_ | refine op_indexAddr rfl el_22_SnI sz_64_SnI rfl rfl (by omega) (by omega) ?_
        first | refine op_ldN _ rfl ag_64_SnI sz_64_SnI rfl rfl ((R1.ext0 H.ext).row hx rfl) ?_ | refine op_ldbN rfl ag_64_SnI sz_64_SnI rfl H (by first | exact at0 | exact at1 | exact at2 | exact at3 | exact at4 | exact at5 | exact at6 | exact at7 | exact at8 | exact at9) rfl ?_
        refine op_alloc rfl zc_64_SnI H ?_
        rintro b6 w - H
        refine op_stb0 rfl sz_64_SnI rfl rfl rfl (by first | exact encA_one _ | simp [oneCell]) H (by first | exact at0 | exact at1 | exact at2 | exact at3 | exact at4 | exact at5 | exact at6 | exact at7 | exact at8 | exact at9) rfl ?_
        rintro w H
        refine op_nil (at_then ?_)
        refine W_rseq (Wops_join (α := Unit) 4290772992 (fun _ => [(31, .bool (!acMay x))]) (fun _ w' => Ctx w1 [] w' [(b6, Bl 64 (encA x))]) rfl ?_ ?_)
        · refine op_fieldAddr rfl fo_64_0_SnI rfl ?_
          refine op_ldb rfl ag_2_SnI rfl H (by first | exact at0 | exact at1 | exact at2 | exact at3 | exact at4 | exact at5 | exact at6 | exact at7 | exact at8 | exact at9) rfl ?_
          refine op_call rfl ca_109_SnI (may_ok x.ba _) rfl ?_
          rintro v w ⟨rfl, rfl⟩
          refine op_not rfl rfl ?_
          refine op_move rfl (.bool _) rfl ?_
          refine Wops_split 26 rfl ?_ ?_
          · intro h1
            replace h1 := nvar_t h1
            refine op_skip rfl ?_
            refine op_skip rfl ?_
            refine op_skip rfl ?_
            refine op_skip rfl ?_
            refine op_pick1 rfl rfl (.bool _) rfl ?_
            refine op_nil ?_
            exact ⟨rfl, (), rfl, ⟨congrArg Value.bool (by unfold acMay; rw [Bool.eq_iff_iff]; simp_all; try omega), trivial⟩, H⟩
          · intro h2
            replace h2 := nvar_f h2
            refine op_fieldAddr rfl fo_64_1_SnI rfl ?_
            refine op_ldb rfl ag_2_SnI rfl H (by first | exact at0 | exact at1 | exact at2 | exact at3 | exact at4 | exact at5 | exact at6 | exact at7 | exact at8 | exact at9) rfl ?_
            refine op_call rfl ca_109_SnI (may_ok x.re _) rfl ?_
            rintro v w ⟨rfl, rfl⟩
            refine op_not rfl rfl ?_
            refine op_pick0 rfl rfl (.bool _) rfl ?_
            refine op_nil ?_
            exact ⟨rfl, (), rfl, ⟨congrArg Value.bool (by unfold acMay; rw [Bool.eq_iff_iff]; simp_all; try omega), trivial⟩, H⟩
        rintro - j31 w H
        refine W_cond _ rfl ?_ ?_
        · intro h3
          replace h3 := nvar_t h3
          refine W_rseq ?_
          refine op_assign rfl (.pointer _) rfl ?_
          refine op_assign rfl (.int _ _) rfl ?_
          refine op_nil (at_then ?_)
          refine W_ret (ret_block (ret_then (ret_then (ret_block (ret_then (leave2 (v1 := (.pointer _)) (v2 := (.int _ _)) rfl rfl rfl rfl ?_))))))
          have h3' : aofC acs = 1 := by unfold aofC; rw [if_neg h1', if_pos (all_false hx (by simpa using h3))]
          exact ⟨_, by rw [h3'], fun _ => rfl, (fun h => by omega), (hx13.trans H1.ext).trans H.ext⟩
        · intro h3
          replace h3 := nvar_f h3
          refine W_skip (at_block (at_then ?_))
          refine W_region ?_
          refine op_add_i64 rfl rfl rfl (by omega) (by omega) ?_
          refine op_move rfl (.int _ _) rfl ?_
          refine op_nil (at_then ?_)
          refine ⟨i + 1, rfl, ⟨rfl, trivial⟩, ⟨by omega, H1.call H.ext, (fun k y hk hy => ?_)⟩, by omega⟩
          rcases Nat.lt_or_ge k i with h7 | h7
          · exact hall k y h7 hy
          · obtain rfl : k = i := by omega
            rw [hx] at hy
            cases hy
            simpa using h3
      · intro h2
        replace h2 := dec_f h2
        obtain rfl : i = acs.length := by omega
        have hal : acs.all acMay = true := all_true fun k x hk hx => hall k x hk hx
        have hb3' : ∀ x ∈ ent a3 64 full3, w1.heap[x.1]? = some x.2 ∧ w0.heap.size ≤ x.1 ∧ x.1 ≠ b15 := fun x hx => by
          have h9 := hb3 x hx
          have h8 := heap_lt h9.1
          have h7 := (H1.own (b15, _) (List.mem_of_getElem? (i := 0) rfl)).elim (fun h => by cases h) id
          dsimp only at h7
          exact ⟨H1.ext.to h9.1 (by simp), h9.2, by omega⟩
        have R3 : Rd w1 a3 2 encA acs := OS.rd O3 (fun x hx => (hb3' x hx).1) (fun _ _ => rfl) (by omega)
        obtain ⟨tt, htt⟩ : ∃ tt, tt = totM (acs.map Ac.ba) := ⟨_, rfl⟩
        have hC : aofC acs = tt.2 := by unfold aofC; rw [if_neg h1', if_neg (by rw [hal]; decide), htt]
        rw [hC]
        refine W_exit (exit_then (exit_then (exit_here (at_then ?_))))
        refine W_seq ?_
        refine W_rseq ?_
        refine op_move rfl (.pointer _) rfl ?_
        refine op_call rfl ca_111_SnI (balances_ok a3 acs.length c3 acs _ hd1 R3 rfl (by omega)) rfl ?_
        rintro v w F4
        obtain ⟨a4, n4, c4, f4, rfl, O4, hb4⟩ := F4.ex
        replace H := H.call F4.ext
        have hl4 := O4.llen
        rw [List.length_map, List.length_map] at hl4
        refine op_call rfl ca_110_SnI (msum_ok a4 n4 c4 (acs.map Ac.ba) _ (O4.rd1 fun x hx => (hb4 x hx).1) (by rw [List.length_map]; omega) (by omega)) rfl ?_
        rintro v w ⟨rfl, rfl⟩
        rw [← htt]
        refine op_move rfl (.tuple _) rfl ?_
        refine op_extract rfl rfl rfl ?_
        refine op_extract rfl rfl rfl ?_
        refine op_assign rfl (.int _ _) rfl ?_
        refine op_assign rfl (.int _ _) rfl ?_
        refine op_nil (at_then ?_)
        refine W_rseq ?_
        refine op_move rfl (.int _ _) rfl ?_
        refine op_neq rfl rfl rfl ?_
        refine op_nil (at_then ?_)
        refine W_cond _ rfl ?_ ?_
        · intro h5
          replace h5 := ndec_t h5
          refine W_rseq ?_
          refine op_move rfl (.int _ _) rfl ?_
          refine op_assign rfl (.pointer _) rfl ?_
          refine op_assign rfl (.int _ _) rfl ?_
          refine op_nil (at_then ?_)
          refine W_ret (ret_then (leave2 (v1 := (.pointer _)) (v2 := (.int _ _)) rfl rfl rfl rfl ?_))
          exact ⟨_, rfl, fun _ => rfl, (fun h => absurd h h5), (hx13.trans H1.ext).trans H.ext⟩
        · intro h5
          replace h5 := ndec_f h5
          refine W_skip (at_then ?_)
          refine W_rseq ?_
          refine op_move rfl (.pointer _) rfl ?_
          refine op_assign rfl (.pointer _) rfl ?_
          refine op_assign rfl (.int _ _) rfl ?_
          refine op_nil (at_then ?_)
          refine W_ret (leave2 (v1 := (.pointer _)) (v2 := (.int _ _)) rfl rfl rfl rfl ?_)
          have h5' : tt.2 = 0 := by omega
          refine ⟨_, by rw [h5'], (fun h => absurd h5' h), (fun _ => ⟨b15, a3, c3, full3, rfl, H.ext.to hd1 (by simp), O3, fun x hx => ⟨H.ext.to (hb3' x hx).1 (by simp), (hb3' x hx).2⟩, ?_⟩), (hx13.trans H1.ext).trans H.ext⟩
          exact Nat.le_trans hx13.size ((H1.own (b15, _) (List.mem_of_getElem? (i := 0) rfl)).elim (fun h => by cases h) id)
end Go.Proofs.YtapphbmlkdhnmaaGreat

/- The accounts: Shift. -/
namespace Go.Proofs.YtapphbmlkdhnmaaGreat
open Go.GV
theorem ag_22_SnJ : aggB Tryz.prog 22 = some false := by kernel_rfl
theorem ag_2_SnJ : aggB Tryz.prog 2 = some false := by kernel_rfl
theorem ca_111_SnJ : callable Tryz.prog 111 = true := by kernel_rfl
theorem ca_140_SnJ : callable Tryz.prog 140 = true := by kernel_rfl
theorem el_22_SnJ : elemT Tryz.prog 22 = some 64 := by kernel_rfl
theorem el_29_SnJ : elemT Tryz.prog 29 = some 2 := by kernel_rfl
theorem fo_116_0_SnJ : fieldO Tryz.prog 116 0 = some 0 := by kernel_rfl
theorem fo_64_0_SnJ : fieldO Tryz.prog 64 0 = some 0 := by kernel_rfl
theorem sz_2_SnJ : tsize Tryz.prog 2 = some 1 := by kernel_rfl
theorem sz_64_SnJ : tsize Tryz.prog 64 = some 2 := by kernel_rfl
theorem un_35_SnJ : Tryz.prog.underlying 35 = some (.pointer 116) := by kernel_rfl
attribute [local irreducible] Wops W Wq Wt

def a00 : Ac := ⟨0, 0⟩
/-- The accounts, of which the first have new balances. -/
def acZ (acs : List Ac) (z : Nat → Int) (k i : Nat) : Ac := if i < k then ⟨z i, (acs.getD i a00).re⟩ else acs.getD i a00
def acsZ (acs : List Ac) (z : Nat → Int) (k : Nat) : List Ac := (List.range acs.length).map (acZ acs z k)
theorem acsZ_len (acs : List Ac) (z : Nat → Int) (k : Nat) : (acsZ acs z k).length = acs.length := by unfold acsZ; simp
theorem acsZ_get {acs : List Ac} {z : Nat → Int} {k i : Nat} (h : i < acs.length) : (acsZ acs z k)[i]? = some (acZ acs z k i) := range_get h
theorem acsZ_zero (acs : List Ac) (z : Nat → Int) : acsZ acs z 0 = acs := by
  refine List.ext_getElem? fun i => ?_
  rcases Nat.lt_or_ge i acs.length with h | h
  · obtain ⟨e, he⟩ := get_some h
    rw [acsZ_get h, he]
    unfold acZ
    rw [if_neg (by omega), getD_of he]
  · rw [List.getElem?_eq_none (by rw [acsZ_len]; exact h), List.getElem?_eq_none h]
theorem acsZ_set {acs : List Ac} {z : Nat → Int} {i : Nat} : (acsZ acs z i).set i (acZ acs z (i + 1) i) = acsZ acs z (i + 1) := by
  unfold acsZ
  refine range_set rfl fun j hj hn => ?_
  unfold acZ
  by_cases h : j < i
  · rw [if_pos h, if_pos (by omega)]
  · rw [if_neg h, if_neg (by omega)]
def shA (acs : List Ac) (ys : List Int) : List Ac := if shiftC (acs.map Ac.ba) ys = 0 then List.zipWith (fun a y => ⟨a.ba + y, a.re⟩) acs ys else acs
/-- What comes back of money's Shift. -/
def shZ (acs : List Ac) (ys : List Int) : List Int := if shiftC (acs.map Ac.ba) ys = 0 then shiftM (acs.map Ac.ba) ys else []
theorem shiftC_len {xs ys : List Int} (h : shiftC xs ys = 0) : xs.length = ys.length := by
  unfold shiftC at h
  split at h
  · omega
  · rename_i h1
    have h2 : (decide (xs.length = ys.length) && (xs.all mayM && evenM ys)) = true := by simpa using h1
    simp only [Bool.and_eq_true, decide_eq_true_eq] at h2
    exact h2.1
theorem shZ_le (acs : List Ac) (ys : List Int) : (shZ acs ys).length ≤ acs.length := by
  unfold shZ
  split
  · unfold shiftM; rw [List.length_zipWith, List.length_map]; omega
  · simp
theorem shA_of (acs : List Ac) (ys : List Int) : acsZ acs (fun i => (shZ acs ys).getD i 0) (shZ acs ys).length = shA acs ys := by
  unfold shA shZ
  by_cases h : shiftC (acs.map Ac.ba) ys = 0
  · rw [if_pos h, if_pos h]
    have hl := shiftC_len h
    rw [List.length_map] at hl
    have hsl : (shiftM (acs.map Ac.ba) ys).length = acs.length := by unfold shiftM; rw [List.length_zipWith, List.length_map]; omega
    refine List.ext_getElem? fun i => ?_
    rcases Nat.lt_or_ge i acs.length with h7 | h7
    · obtain ⟨e, he⟩ := get_some h7
      obtain ⟨y, hy⟩ := get_some (l := ys) (i := i) (by omega)
      rw [acsZ_get h7, List.getElem?_zipWith, he, hy]
      unfold acZ
      dsimp only
      rw [if_pos (by omega), getD_of he, getD_of (shift_at (xs := acs.map Ac.ba) (x := e.ba) (by rw [List.getElem?_map, he]; rfl) hy)]
    · rw [List.getElem?_eq_none (by rw [acsZ_len]; exact h7), List.getElem?_eq_none (by rw [List.length_zipWith]; omega)]
  · rw [if_neg h, if_neg h]
    exact acsZ_zero _ _
theorem shZ_rd {acs : List Ac} {ys zs : List Int} {v' : Value} {w0 w1 w : World} (hz : zs = shZ acs ys) (hx : Ext [] w0 w1) (h1 : shiftC (acs.map Ac.ba) ys ≠ 0 → v' = .slice none 0 0) (h2 : shiftC (acs.map Ac.ba) ys = 0 → Fresh w1 w 2 1 v' ((shiftM (acs.map Ac.ba) ys).map i64v)) :
    ∃ a4 n4 c4, v' = .slice a4 n4 c4 ∧ zs.length = n4 ∧ Rd w a4 1 I1 zs ∧ (zs ≠ [] → w0.heap.size ≤ (adr a4).block) := by
  subst hz
  unfold shZ
  by_cases h : shiftC (acs.map Ac.ba) ys = 0
  · rw [if_pos h]
    obtain ⟨a, n, c, full, rfl, O, hb⟩ := (h2 h).ex
    have hl := O.llen
    rw [List.length_map] at hl
    refine ⟨a, n, c, rfl, by omega, O.rd1 fun x hx => (hb x hx).1, fun hne => ?_⟩
    have hpos : 0 < n := by
      have := List.length_pos_iff.2 hne; omega
    obtain ⟨q, rfl⟩ := O.form hpos
    exact Nat.le_trans hx.size (hb (q, Bl 2 full) (List.mem_singleton.2 rfl)).2
  · rw [if_neg h]
    exact ⟨none, 0, 0, h1 h, rfl, Rd.nil, fun h => absurd rfl h⟩
structure HSt where
  i : Nat
  full : List Value
set_option maxRecDepth 20000 in
set_option maxHeartbeats 4000000 in
theorem ashift_ok {bd : Nat} (a b : Option Addr) (c m d : Nat) (full : List Value) (acs : List Ac) (ys : List Int) (w : World) (hd : w.heap[bd]? = some (Bl 116 [.slice a acs.length c])) (O : OS a acs.length c 2 full (acs.flatMap encA))
    (hb : ∀ x ∈ ent a 64 full, w.heap[x.1]? = some x.2 ∧ x.1 ≠ bd) (hn : acs.length ≤ 1000000) (Ry : Rd w b 1 I1 ys) (hm : ys.length = m) (hm2 : m ≤ 1000000) :
    Ret Tryz.prog 71 #[ptr bd, .slice b m d] w fun v w' => v = .int .i64 (shiftC (acs.map Ac.ba) ys) ∧ ∃ full', OS a acs.length c 2 full' ((shA acs ys).flatMap encA) ∧ (∀ x ∈ ent a 64 full', w'.heap[x.1]? = some x.2) ∧ Ext ((ent a 64 full).map (·.1)) w w' := by
  obtain ⟨w0, rfl⟩ : ∃ w0, w0 = w := ⟨_, rfl⟩
  have R : Rd w0 a 2 encA acs := OS.rd O (fun x hx => (hb x hx).1) (fun _ _ => rfl) (by omega)
  obtain ⟨code, hcode⟩ : ∃ code, code = shiftC (acs.map Ac.ba) ys := ⟨_, rfl⟩
  obtain ⟨zs, hzs⟩ : ∃ zs, zs = shZ acs ys := ⟨_, rfl⟩
  have hzl : zs.length ≤ acs.length := by rw [hzs]; exact shZ_le acs ys
  rw [← shA_of, ← hzs, ← hcode]
  refine ret_of_W (fn := Tryz.f71) Tryz.func71 rfl [.pointer (some ⟨bd, 0, none⟩), .slice b m d] rfl (by kernel_rfl) ?_
  refine W_rseq ?_
  refine op_assign rfl (.int _ _) rfl ?_
  refine op_nil (at_then ?_)
  refine W_seq ?_
  refine W_rseq ?_
  refine op_move rfl (.pointer _) rfl ?_
  refine op_eqlptr rfl un_35_SnJ rfl ?_
  refine op_nil (at_then ?_)
  refine W_cond _ rfl ?_ ?_
  · intro h0
    cases h0
  · intro h0
    refine W_skip (at_then ?_)
    refine W_rseq ?_
    refine op_move rfl (.pointer _) rfl ?_
    refine op_call rfl ca_111_SnJ (balances_ok a acs.length c acs _ hd R rfl hn) rfl ?_
    rintro v w F
    obtain ⟨a3, n3, c3, f3, rfl, O3, hb3⟩ := F.ex
    have hl3 := O3.llen
    rw [List.length_map, List.length_map] at hl3
    refine op_move rfl (.slice _ _ _) rfl ?_
    refine op_call rfl ca_140_SnJ (mshift_ok a3 b n3 c3 m d (acs.map Ac.ba) ys _ (O3.rd1 fun x hx => (hb3 x hx).1) (by rw [List.length_map]; omega) (by omega) (Ry.ext0 F.ext) hm hm2) rfl ?_
    rintro v w ⟨v', rfl, hv1, hv2, hx15⟩
    rw [← hcode]
    obtain ⟨a4, n4, c4, rfl, hn4, R4, hbz⟩ : ∃ a4 n4 c4, v' = .slice a4 n4 c4 ∧ zs.length = n4 ∧ Rd w a4 1 I1 zs ∧ (zs ≠ [] → w0.heap.size ≤ (adr a4).block) := shZ_rd hzs F.ext hv1 hv2
    refine op_move rfl (.tuple _) rfl ?_
    refine op_extract rfl rfl rfl ?_
    refine op_extract rfl rfl rfl ?_
    refine op_assign rfl (.slice _ _ _) rfl ?_
    refine op_assign rfl (.int _ _) rfl ?_
    refine op_nil (at_then ?_)
    refine W_seq ?_
    refine W_rseq ?_
    refine op_move rfl (.slice _ _ _) rfl ?_
    refine op_len rfl el_29_SnJ rfl ?_
    refine op_move rfl (.int _ _) rfl ?_
    refine op_nil (at_then ?_)
    refine W_block ?_
    subst hn4
    obtain ⟨w1, rfl⟩ : ∃ z, z = w := ⟨_, rfl⟩
    have hx1 := F.ext.trans hx15
    have hb1 : ∀ x ∈ ent a 64 full, w1.heap[x.1]? = some x.2 := fun x hx => hx1.to (hb x hx).1 (by simp)
    obtain ⟨ids, hids⟩ : ∃ ids, ids = (ent a 64 full).map (·.1) := ⟨_, rfl⟩
    have hidl : ∀ y ∈ ids, y < w0.heap.size ∧ y ≠ bd := fun y hy => by
      rw [hids] at hy
      obtain ⟨x, hx, rfl⟩ := List.mem_map.1 hy
      exact ⟨heap_lt (hb x hx).1, (hb x hx).2⟩
    have H : Ctx w1 ids w1 (ent a 64 full) := ⟨Ext.refl _ _, hb1, ent_nd, fun x hx => .inl (by rw [hids]; exact List.mem_map_of_mem (f := (·.1)) hx)⟩
    have hd1 := hx1.to hd (by simp)
    rw [← hids]
    refine W_loop 17178820992 (α := HSt) (fun t => [(20, .int .i64 (t.i : Int))]) (fun t w' => t.i ≤ zs.length ∧ OS a acs.length c 2 t.full ((acsZ acs (fun i => zs.getD i 0) t.i).flatMap encA) ∧ Ctx w1 ids w' (ent a 64 t.full)) (fun t => zs.length - t.i) ⟨0, full⟩ rfl ?_ ?_ ?_
    · exact ⟨rfl, trivial⟩
    · exact ⟨Nat.zero_le _, by dsimp only; rw [acsZ_zero]; exact O, H⟩
    · rintro ⟨i, fu⟩ j w ⟨hi, O, H⟩; dsimp only at hi O H; dsimp only
      refine W_rseq ?_
      refine op_lss rfl rfl rfl ?_
      refine op_nil (at_then ?_)
      refine W_seq ?_
      refine W_cond _ rfl ?_ ?_
      · intro h1
        replace h1 := dec_t h1
        obtain ⟨z, hz⟩ := get_some (l := zs) (i := i) (by omega)
        have hzne : zs ≠ [] := fun h => by rw [h] at hz; cases hz
        have hz0 : zs.getD i 0 = z := getD_of hz
        obtain ⟨q, rfl⟩ := O.form (by omega)
        have hil : i < acs.length := by omega
        obtain ⟨ac, hac⟩ := get_some hil
        have hOl := O.len
        have hqn := O.le
        have hzb : (adr a4).block ∉ ids := fun h => by have := hidl _ h; have := hbz hzne; omega
        refine W_skip (at_then ?_)
        refine W_seq ?_
        refine W_block ?_
        refine W_rseq ?_
        refine op_move rfl (.int _ _) rfl ?_
        first | refine op_indexRd R4 rfl el_29_SnJ sz_2_SnJ rfl rfl (by omega) (by omega) (by first | rfl | omega) ?_ | refine op_indexAddr rfl el_29_SnJ sz_2_SnJ rfl rfl (by omega) (by omega) ?_
        first | refine op_ldb rfl ag_2_SnJ rfl H (by first | exact at0 | exact at1 | exact at2 | exact at3 | exact at4 | exact at5 | exact at6 | exact at7 | exact at8 | exact at9) rfl ?_ | refine op_ld rfl ag_2_SnJ rfl (((R4.ext H.ext hzb).fld hz rfl (j := 0) rfl)) ?_ | refine op_ld rfl ag_2_SnJ rfl ((H.old (cell_bl hd1 _) (fun h => (hidl _ h).2 rfl))) ?_
        refine op_assign rfl (.int _ _) rfl ?_
        refine op_assign rfl (.int _ _) rfl ?_
        refine op_nil (at_then ?_)
        refine W_region ?_
        refine op_move rfl (.pointer _) rfl ?_
        refine op_nilCheck rfl rfl ?_
        refine op_fieldAddr rfl fo_116_0_SnJ rfl ?_
        first | refine op_ldb rfl ag_22_SnJ rfl H (by first | exact at0 | exact at1 | exact at2 | exact at3 | exact at4 | exact at5 | exact at6 | exact at7 | exact at8 | exact at9) rfl ?_ | refine op_ld rfl ag_22_SnJ rfl (((R4.ext H.ext hzb).fld hz rfl (j := 0) rfl)) ?_ | refine op_ld rfl ag_22_SnJ rfl ((H.old (cell_bl hd1 _) (fun h => (hidl _ h).2 rfl))) ?_
        refine op_move rfl (.int _ _) rfl ?_
        refine op_move rfl (.int _ _) rfl ?_
        first | refine op_indexRd R4 rfl el_22_SnJ sz_64_SnJ rfl rfl (by omega) (by omega) (by first | rfl | omega) ?_ | refine op_indexAddr rfl el_22_SnJ sz_64_SnJ rfl rfl (by omega) (by omega) ?_
        refine op_fieldAddr rfl fo_64_0_SnJ rfl ?_
        refine op_stb (.int _ _) rfl sz_2_SnJ rfl rfl rfl H at0 (by omega) ?_
        rintro w H
        refine op_nil (at_block (at_then ?_))
        refine W_region ?_
        refine op_add_i64 rfl rfl rfl (by omega) (by omega) ?_
        refine op_move rfl (.int _ _) rfl ?_
        refine op_nil (at_then ?_)
        rw [show 0 + ((i : Int)).toNat * 2 + 0 = i * 2 + 0 by omega] at H
        have O1 := OS.setf O (y := acZ acs (fun i => zs.getD i 0) (i + 1) i) (j := 0) (v := .int .i64 z) (fun _ => rfl) (acsZ_get hil) (by decide) (by unfold acZ encA; dsimp only; rw [if_pos (by omega), if_neg (by omega), hz0]; rfl)
        rw [acsZ_set] at O1
        exact ⟨⟨i + 1, _⟩, rfl, ⟨rfl, trivial⟩, ⟨by dsimp only; omega, O1, H⟩, by dsimp only; omega⟩
      · intro h1
        replace h1 := dec_f h1
        refine W_exit (exit_then (exit_then (exit_here (at_then ?_))))
        refine W_rseq ?_
        refine op_move rfl (.int _ _) rfl ?_
        refine op_assign rfl (.int _ _) rfl ?_
        refine op_nil (at_then ?_)
        refine W_ret (leave1 (v := (.int _ _)) rfl rfl rfl ?_)
        obtain rfl : i = zs.length := by omega
        exact ⟨rfl, fu, O, fun x hx => H.blk x hx, (hx1.mono (by simp)).trans H.ext⟩
end Go.Proofs.YtapphbmlkdhnmaaGreat
