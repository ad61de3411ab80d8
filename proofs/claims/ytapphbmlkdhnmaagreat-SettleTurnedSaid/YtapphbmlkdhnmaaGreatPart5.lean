/- Part 5 of the proof. -/
import Derived.Test.YtapphbmlkdhnmaaGreatPart2
import Derived.Test.YtapphbmlkdhnmaaGreatPart4
import Derived.Test.YtapphbmlkdhnmaaGreatPart3
/- Heaps of things: nothing but which things there are: the walks. -/
namespace Go.Proofs.YtapphbmlkdhnmaaGreat
open Go.GV
attribute [local irreducible] AL W Wq Wt

/-! ### Rows of a block -/
theorem EC {α:Type} {enc:α→List Value} {s:Nat}:∀ {L:List α},(∀ x∈L,(enc x).length=s)→(L.flatMap enc).length=L.length*s
 | [],_=>by simp
 | x::L,h=>by
  rw [List.flatMap_cons,List.length_append,h x (List.mem_cons_self ..),EC fun y hy=>h y (List.mem_cons_of_mem _ hy),List.length_cons,Nat.add_mul,Nat.one_mul,Nat.add_comm]
theorem Od {α:Type} {L:List α} {i:Nat} {x:α} (hx:L[i]? = some x) (y:α):L=L.take i++x::L.drop (i+1)∧L.set i y=L.take i++y::L.drop (i+1):=by
 have hi:=Cr hx
 have hg:L[i]=x:=by rw [List.getElem?_eq_getElem hi] at hx; exact Option.some.inj hx
 refine ⟨?_,?_⟩
 ·rw [← hg,← List.drop_eq_getElem_cons hi,List.take_append_drop]
 ·rw [List.set_eq_take_append_cons_drop,if_pos hi]
theorem Wu {α:Type} {enc:α→List Value} {s:Nat} {L:List α} (hs:∀ x∈L,(enc x).length=s) {i:Nat} {x y:α} (hx:L[i]? = some x) (hy:(enc y).length=s) (r:List Value):over (L.flatMap enc++r) (i*s) (enc y)=(L.set i y).flatMap enc++r:=by
 obtain ⟨h1,h2⟩:=Od hx y
 have hi:=Cr hx
 have hl:((L.take i).flatMap enc).length=i*s:=by rw [EC fun z hz=>hs z (List.mem_of_mem_take hz),List.length_take,Nat.min_eq_left (by omega)]
 rw [h2]
 conv=>lhs; rw [h1]
 rw [List.flatMap_append,List.flatMap_append,List.flatMap_cons,List.flatMap_cons,List.append_assoc,List.append_assoc,← hl,Vs _ _ _ _ (by rw [hs x (List.mem_of_getElem? hx),hy])]
 simp only [List.append_assoc]
theorem Yf {α:Type} {enc:α→List Value} {s:Nat} {L:List α} (hs:∀ x∈L,(enc x).length=s) {i j:Nat} {x y:α} {v:Value} (hx:L[i]? = some x) (hj:j<s) (hy:enc y=(enc x).set j v) (r:List Value):(L.flatMap enc++r).set (i*s+j) v=(L.set i y).flatMap enc++r:=by
 obtain ⟨h1,h2⟩:=Od hx y
 have hi:=Cr hx
 have hl:((L.take i).flatMap enc).length=i*s:=by rw [EC fun z hz=>hs z (List.mem_of_mem_take hz),List.length_take,Nat.min_eq_left (by omega)]
 have hxl:=hs x (List.mem_of_getElem? hx)
 rw [h2]
 conv=>lhs; rw [h1]
 rw [List.flatMap_append,List.flatMap_append,List.flatMap_cons,List.flatMap_cons,List.append_assoc,List.append_assoc,← hl,List.set_append_right _ _ (by omega),Nat.add_sub_cancel_left,List.append_assoc,List.append_assoc,List.set_append_left _ _ (by omega),hy]
theorem OS.over {α:Type} {a:Option Addr} {n c s:Nat} {full:List Value} {enc:α→List Value} {L:List α} (O:OS a n c s full (L.flatMap enc)) (hs:∀ x,(enc x).length=s) {i:Nat} {x:α} (hx:L[i]? = some x) (y:α):OS a n c s (over full (i*s) (enc y)) ((L.set i y).flatMap enc):=by
 refine ⟨O.zero,O.none',by rw [EN]; exact O.len,O.le,?_⟩
 rw [O.split,Wu (fun z _=>hs z) hx (hs y)]
 have h1:=O.llen
 rw [EC fun z _=>hs z] at h1
 exact List.take_left' (by rw [EC fun z _=>hs z,List.length_set,h1])
theorem Lk {α:Type} {L:List α} {i j:Nat} {x y:α} (hx:L[i]? = some x) (hy:L[j]? = some y):((L.set i y).set j x).Perm L:=by
 obtain ⟨hi,rfl⟩:=List.getElem?_eq_some_iff.1 hx
 obtain ⟨hj,rfl⟩:=List.getElem?_eq_some_iff.1 hy
 exact List.set_set_perm hi hj

/-! ### Things -/
def ED (x:Int × Nat):List Value:=[.int .i64 x.1,.int .i64 (x.2:Int)]
theorem HV (x:Int × Nat):∀ v∈ED x,Bm v=true:=fun v hv=>by
 simp only [ED,List.mem_cons,List.not_mem_nil,or_false] at hv
 rcases hv with rfl | rfl <;> rfl
theorem MU (x y:Int × Nat) (w:World):Ret Tryz.prog 226 #[.agg (ED x).toArray,.agg (ED y).toArray] w fun v w'=>v = .bool (decide (lt7 x y))∧Ext [] w w':=by
 obtain ⟨w0,rfl⟩:∃ w0,w0=w:=⟨_,rfl⟩
 have H:=Ctx.start w0 []
 refine A9 (fn:=Tryz.f226) Tryz.func226 rfl [.agg (ED x).toArray,.agg (ED y).toArray] rfl (by kernel_rfl) ?_
 refine Af (BC rfl (ED x) (.agg _) rfl rfl H ?_)
 rintro b2 w - H
 refine BC rfl (ED y) (.agg _) rfl rfl H ?_
 rintro b3 w - H
 refine Ai rfl rfl (Ab (Aa (Af (Ah rfl Jj rfl (AN rfl Bt rfl H at1 rfl (Ah rfl Jj rfl (AN rfl Bt rfl H at0 rfl (AZ rfl rfl rfl (Aw rfl rfl (AE 10 rfl ?_ ?_))))))))))
 ·intro h1
  replace h1:=AF h1
  refine Ag rfl (Ag rfl (Ag rfl (Ag rfl (Ag rfl (Ag rfl (Ag rfl (Ag rfl (Ag rfl (Ag rfl ?_)))))))))
  refine Ag rfl (Ag rfl (AA rfl rfl (.bool _) rfl (Ai rfl rfl (Ab (Aa (A8 (AB (v:=(.bool _)) rfl rfl rfl ?_)))))))
  exact ⟨congrArg Value.bool (by unfold lt7; rw [Bool.eq_iff_iff]; simp_all; try omega),H.ext⟩
 ·intro h2
  replace h2:=AG h2
  refine Ah rfl Jj rfl (AN rfl Bt rfl H at1 rfl (Ah rfl Jj rfl (AN rfl Bt rfl H at0 rfl (Cu rfl rfl rfl (Aw rfl rfl (AE 16 rfl ?_ ?_))))))
  ·intro h3
   replace h3:=AF h3
   refine Ah rfl MN rfl (AN rfl BV rfl H at1 rfl (Ah rfl MN rfl (AN rfl BV rfl H at0 rfl (AZ rfl rfl rfl (AA rfl rfl (.bool _) rfl (A6 rfl rfl (.bool _) rfl (Ai rfl rfl (Ab (Aa (A8 (AB (v:=(.bool _)) rfl rfl rfl ?_)))))))))))
   exact ⟨congrArg Value.bool (by unfold lt7; rw [Bool.eq_iff_iff]; simp_all; try omega),H.ext⟩
  ·intro h4
   replace h4:=AG h4
   refine Ag rfl (Ag rfl (Ag rfl (Ag rfl (Ag rfl (A6 rfl rfl (.bool _) rfl (A6 rfl rfl (.bool _) rfl (Ai rfl rfl (Ab (Aa (A8 (AB (v:=(.bool _)) rfl rfl rfl ?_)))))))))))
   exact ⟨congrArg Value.bool (by unfold lt7; rw [Bool.eq_iff_iff]; simp_all; try omega),H.ext⟩
theorem adr0 (q:Nat):(adr (some ⟨q,0,none⟩)).off=0:=rfl
/-- The blocks of a heap. -/
abbrev HB (bh:Nat) (a:Option Addr) (n c:Nat) (full:List Value):List (Nat × Obj):=(bh,Bl 255 [.slice a n c])::ent a 258 full

set_option maxRecDepth 20000 in
set_option maxHeartbeats 4000000 in
theorem up_ok {w:World} {bh q n c:Nat} {full:List Value} {L:List (Int × Nat)} (H0:Ctx w [bh,q] w (HB bh (some ⟨q,0,none⟩) n c full)) (O:OS (some ⟨q,0,none⟩) n c 2 full (L.flatMap ED)) (k:Nat) (hk:k<n) (hn:n≤1000000000) (hU:UpI L k) :
  Ret Tryz.prog 225 #[ptr bh,.int .i64 (k:Int)] w fun v w'=>v = .tuple #[]∧∃ (L':List (Int × Nat)) (full':List Value),L'.Perm L∧HeapL L'∧OS (some ⟨q,0,none⟩) n c 2 full' (L'.flatMap ED)∧Ctx w [bh,q] w' (HB bh (some ⟨q,0,none⟩) n c full'):=by
 obtain ⟨w0,rfl⟩:∃ w0,w0=w:=⟨_,rfl⟩
 have H:=H0
 refine A9 (fn:=Tryz.f225) Tryz.func225 rfl [.pointer (some ⟨bh,0,none⟩),.int .i64 (k:Int)] rfl (by kernel_rfl) ?_
 refine OZ (An (OY (Aa (Au (Bf 9007199254740978 (α:=Nat × List (Int × Nat) × List Value) (fun s=>[(1,.int .i64 (s.1:Int))]) (fun s w'=>s.1<n∧s.2.1.Perm L∧UpI s.2.1 s.1∧OS (some ⟨q,0,none⟩) n c 2 s.2.2 (s.2.1.flatMap ED)∧Ctx w0 [bh,q] w' (HB bh (some ⟨q,0,none⟩) n c s.2.2)) (fun s=>s.1) (k,L,full) rfl ?_ ?_ ?_)))))
 ·exact ⟨rfl,trivial⟩
 ·exact ⟨hk,.refl _,hU,O,H⟩
 ·rintro ⟨k,L',f'⟩ j w ⟨hk,hp,hU,O,H⟩; dsimp only at hk hp hU O H; dsimp only
  have hnum:n=L'.length:=O.numN (fun _ _=>rfl) (by decide)
  refine An (Af (Ad rfl rfl (Ck rfl rfl rfl (Ab (Aa (Aq _ rfl ?_ ?_))))))
  ·intro h1
   replace h1:=AF h1
   obtain ⟨o,ho⟩:∃ o,o=(k - 1) / 2:=⟨_,rfl⟩
   obtain ⟨x,hxk⟩:=A0 (l:=L') (i:=k) (by omega)
   obtain ⟨y,hyo⟩:=A0 (l:=L') (i:=o) (by omega)
   have Rk:=O.rd (w:=w.drew) (t:=258) (fun y hy=>H.drew.blk y (List.mem_cons_of_mem _ hy)) (fun _ _=>rfl) (by decide)
   refine Ao (Aa (Au (Af (Ad rfl rfl (Be rfl rfl rfl (by omega) (by omega) ?_)))))
   refine Hw rfl rfl rfl (by omega) (by omega) (show _≤(9223372036854775807:Int) by omega) ?_
   rw [show ((k:Int) - 1) / 2=(o:Int) by omega]
   refine Ae rfl rfl (Ab (Aa (An (DK 14 B0 (by kernel_rfl) rfl rfl ?_))))
   refine BS rfl rfl (Bh rfl rfl (A7 rfl C5 rfl (Cd rfl Dx rfl (by rintro _ rfl; exact H.drew) at0 rfl ?_)))
   refine AP rfl rfl (Bs Rk rfl Ds CM rfl rfl (by omega) (by omega) (by omega) ?_)
   refine FM _ rfl GL CM rfl rfl (by rintro _ rfl; exact (Rk.row hxk rfl)) ?_
   refine BS rfl rfl (Bh rfl rfl (A7 rfl C5 rfl (Cd rfl Dx rfl (by rintro _ rfl; exact H.drew) at0 rfl ?_)))
   refine AP rfl rfl (Bs Rk rfl Ds CM rfl rfl (by omega) (by omega) (by omega) ?_)
   refine FM _ rfl GL CM rfl rfl (by rintro _ rfl; exact (Rk.row hyo rfl)) ?_
   refine BJ ?_
   replace H:=H.drew
   refine Am rfl Sg (MU x y _) rfl ?_
   rintro v w ⟨rfl,hx24⟩
   replace H:=H.call hx24
   refine B1 rfl rfl (Ab (Aa (Aq _ rfl ?_ ?_)))
   ·intro h2
    replace h2:=Bv h2
    refine Bc (Ak (EX rfl (Ak (AD (Kp (Db rfl rfl ?_))))))
    have hnl:¬ lt7 x y:=by simpa using h2
    exact ⟨rfl,L',f',hp,hU.done fun a b _ ha hb=>by
     rw [hxk] at ha
     rw [← ho,hyo] at hb
     cases ha; cases hb
     exact Sp hnl,O,H⟩
   ·intro h2
    replace h2:=Bw h2
    obtain ⟨w7,rfl⟩:∃ z,z=w:=⟨_,rfl⟩
    have R7:=O.rd (w:=w7.drew) (t:=258) (fun y hy=>H.drew.blk y (List.mem_cons_of_mem _ hy)) (fun _ _=>rfl) (by decide)
    have hol:=O.len
    have hole:=O.le
    refine Ao (Aa (CP [([0,1,2,3,4,5,6,7,8,9,10,11,12,13,14,15,16,17,18,19,20,21,22,23,24],25),([26],27)] (fun z=>z=World.drew w7) [25,27] B0 (by kernel_rfl) (rfl) ?_))
    refine AU rfl rfl ?_
    refine Ch rfl rfl (B3 rfl rfl (AH rfl C5 rfl (JN rfl Dx rfl (by rintro _ rfl; exact H.drew) at0 rfl ?_)))
    refine AS rfl rfl (Ch rfl rfl (B3 rfl rfl (AH rfl C5 rfl (JN rfl Dx rfl (by rintro _ rfl; exact H.drew) at0 rfl ?_))))
    refine AS rfl rfl (Ch rfl rfl (B3 rfl rfl (AH rfl C5 rfl (JN rfl Dx rfl (by rintro _ rfl; exact H.drew) at0 rfl ?_))))
    refine AS rfl rfl (BT R7 rfl Ds CM rfl rfl (by omega) (by omega) (by omega) ?_)
    refine GJ _ rfl GL CM rfl rfl (fun _ hx=>(by subst hx; exact R7.row hyo rfl)) ?_
    refine Ch rfl rfl (B3 rfl rfl (AH rfl C5 rfl (JN rfl Dx rfl (by rintro _ rfl; exact H.drew) at0 rfl ?_)))
    refine AS rfl rfl (BT R7 rfl Ds CM rfl rfl (by omega) (by omega) (by omega) ?_)
    refine GJ _ rfl GL CM rfl rfl (fun _ hx=>(by subst hx; exact R7.row hxk rfl)) ?_
    refine BT R7 rfl Ds CM rfl rfl (by omega) (by omega) (by omega) ?_
    refine Ba ?_
    replace H:=H.drew
    refine Iq (vs:=ED y) rfl CM rfl rfl rfl (HV y) H at1 (by show 0+(k:Int).toNat*2+2≤_; omega) ?_
    rintro w H
    refine Ab (BW rfl (AU rfl rfl ?_))
    refine BT R7 rfl Ds CM rfl rfl (by omega) (by omega) (by omega) ?_
    refine Ba (Iq (vs:=ED x) rfl CM rfl rfl rfl (HV x) H at1 (by rw [EN]; show 0+(o:Int).toNat*2+2≤_; omega) ?_)
    rintro w H
    refine Ab (BW rfl (BO (Av (Ad rfl rfl (Ae rfl rfl (Ab (A5 (Aa ?_))))))))
    have hne:k≠o:=by omega
    refine ⟨(o,(L'.set k y).set o x,over (over f' (k*2) (ED y)) (o*2) (ED x)),rfl,⟨rfl,trivial⟩,⟨by dsimp only; omega,(Lk hxk hyo).trans hp,by dsimp only; rw [ho]; exact hU.step (by omega) hxk (by rw [← ho]; exact hyo) (by simpa using h2),OS.over (OS.over O (fun _=>rfl) hxk y) (fun _=>rfl) (by rw [List.getElem?_set_ne hne]; exact hyo) x,?_⟩,by dsimp only; omega⟩
    simp only [adr0,Int.toNat_natCast,Nat.zero_add] at H
    exact H
  ·intro h1
   replace h1:=AG h1
   refine Bc (Ak (Ak (AD (Kp (Db rfl rfl ?_)))))
   exact ⟨rfl,L',f',hp,hU.done fun a b h0=>absurd h0 (by omega),O,H⟩

set_option maxRecDepth 20000 in
set_option maxHeartbeats 4000000 in
theorem Yg {w:World} {bh q n c:Nat} {full:List Value} {L:List (Int × Nat)} (H0:Ctx w [bh,q] w (HB bh (some ⟨q,0,none⟩) n c full)) (O:OS (some ⟨q,0,none⟩) n c 2 full (L.flatMap ED)) (hn:n≤1000000000) (hD:DownI L 0) :
  Ret Tryz.prog 215 #[ptr bh,.int .i64 0] w fun v w'=>v = .tuple #[]∧∃ (L':List (Int × Nat)) (full':List Value),L'.Perm L∧HeapL L'∧OS (some ⟨q,0,none⟩) n c 2 full' (L'.flatMap ED)∧Ctx w [bh,q] w' (HB bh (some ⟨q,0,none⟩) n c full'):=by
 obtain ⟨w0,rfl⟩:∃ w0,w0=w:=⟨_,rfl⟩
 have H:=H0
 refine A9 (fn:=Tryz.f215) Tryz.func215 rfl [.pointer (some ⟨bh,0,none⟩),.int .i64 0] rfl (by kernel_rfl) ?_
 refine OZ (An (OY (Aa (Au (Bf 77371252455336267181195250 (α:=Nat × List (Int × Nat) × List Value) (fun s=>[(1,.int .i64 (s.1:Int))]) (fun s w'=>s.1≤n∧s.2.1.Perm L∧DownI s.2.1 s.1∧OS (some ⟨q,0,none⟩) n c 2 s.2.2 (s.2.1.flatMap ED)∧Ctx w0 [bh,q] w' (HB bh (some ⟨q,0,none⟩) n c s.2.2)) (fun s=>n - s.1) (0,L,full) rfl ?_ ?_ ?_)))))
 ·exact ⟨rfl,trivial⟩
 ·exact ⟨Nat.zero_le _,.refl _,hD,O,H⟩
 ·rintro ⟨k,L',f'⟩ j w ⟨hk,hp,hD,O,H⟩; dsimp only at hk hp hD O H; dsimp only
  have hnum:n=L'.length:=O.numN (fun _ _=>rfl) (by decide)
  have hol:=O.len
  have hole:=O.le
  obtain ⟨m,hm⟩:∃ m,m=2*k+1:=⟨_,rfl⟩
  refine Au (Af (Ad rfl rfl (Dd rfl rfl rfl (by omega) (by omega) ?_)))
  refine Ap rfl rfl rfl (by omega) (by omega) ?_
  rw [show (2*(k:Int)+1)=(m:Int) by omega]
  refine Ae rfl rfl (Ab (Aa (An (Af (Ad rfl rfl (A2 rfl rfl (AJ rfl rfl (Ah rfl C5 rfl (AN rfl Dx rfl H at0 rfl (AV rfl Ds rfl ?_))))))))))
  refine Cx rfl rfl rfl (Ab (Aa (Aq _ rfl ?_ ?_)))
  ·intro h1
   replace h1:=AF h1
   refine Bc (Ak (EX rfl (Ak (AD (Kp (Db rfl rfl ?_))))))
   exact ⟨rfl,L',f',hp,hD.none (by omega),O,H⟩
  ·intro h1
   replace h1:=AG h1
   obtain ⟨x,hxm⟩:=A0 (l:=L') (i:=m) (by omega)
   refine Ao (Aa (An (El 2199023222784 (α:=Bool) (fun z=>[(40,.bool z)]) (fun z w'=>(z=true→∃ y,L'[m+1]? = some y∧lt7 y x)∧(z=false→∀ y,L'[m+1]? = some y→¬ lt7 y x)∧Ctx w0 [bh,q] w' (HB bh (some ⟨q,0,none⟩) n c f')) rfl ?_ ?_)))
   ·skip
    have Rk:=O.rd (w:=w.drew) (t:=258) (fun y hy=>H.drew.blk y (List.mem_cons_of_mem _ hy)) (fun _ _=>rfl) (by decide)
    obtain ⟨y,hy7⟩:∃ y,m+1<n→L'[m+1]? = some y:=by
     by_cases h:m+1<n
     ·obtain ⟨y,hy⟩:=A0 (l:=L') (i:=m+1) (by omega)
      exact ⟨y,fun _=>hy⟩
     ·exact ⟨x,fun h'=>absurd h' h⟩
    refine EM 24 B0 (by kernel_rfl) rfl rfl ?_
    refine AP rfl rfl (C7 rfl rfl rfl (by omega) (by omega) ?_)
    refine BS rfl rfl (Bh rfl rfl (A7 rfl C5 rfl (Cd rfl Dx rfl (by rintro _ rfl; exact H.drew) at0 rfl ?_)))
    refine Vm rfl Ds rfl (IH rfl rfl rfl (CW rfl rfl (Dg 23 rfl ?_ ?_)))
    ·intro h2
     replace h2:=AF h2
     refine BS rfl rfl (Bh rfl rfl (A7 rfl C5 rfl (Cd rfl Dx rfl (by rintro _ rfl; exact H.drew) at0 rfl ?_)))
     refine AP rfl rfl (C7 rfl rfl rfl (by omega) (by omega) ?_)
     refine Bs Rk rfl Ds CM rfl rfl (by omega) (by omega) (by omega) ?_
     refine FM _ rfl GL CM rfl rfl (by rintro _ rfl; exact (Rk.row (hy7 (by omega)) rfl)) ?_
     refine BS rfl rfl (Bh rfl rfl (A7 rfl C5 rfl (Cd rfl Dx rfl (by rintro _ rfl; exact H.drew) at0 rfl ?_)))
     refine AP rfl rfl (Bs Rk rfl Ds CM rfl rfl (by omega) (by omega) (by omega) ?_)
     refine FM _ rfl GL CM rfl rfl (by rintro _ rfl; exact (Rk.row hxm rfl)) ?_
     refine BJ ?_
     replace H:=H.drew
     refine Am rfl Sg (MU y x _) rfl ?_
     rintro v w ⟨rfl,hx39⟩
     replace H:=H.call hx39
     refine AA rfl rfl (.bool _) rfl (Ab (Aa ?_))
     exact ⟨decide (lt7 y x),rfl,⟨rfl,trivial⟩,fun h=>⟨y,hy7 (by omega),of_decide_eq_true h⟩,fun h z hz=>by
      rw [hy7 (by omega)] at hz
      cases hz
      exact of_decide_eq_false h,H⟩
    ·intro h2
     replace h2:=AG h2
     refine Ax rfl (Ax rfl (Ax rfl (Ax rfl (Ax rfl (Ax rfl (Ax rfl (Ax rfl (Ax rfl (Ax rfl ?_)))))))))
     refine Ax rfl (Ax rfl (Ax rfl (Ax rfl (Ax rfl (BJ ?_)))))
     replace H:=H.drew
     refine Ag rfl (A6 rfl rfl (.bool _) rfl (Ab (Aa ?_)))
     exact ⟨false,rfl,⟨rfl,trivial⟩,(fun h=>by cases h),(fun _ z hz=>by have:=Cr hz; omega),H⟩
   ·rintro z j2 w ⟨hzt,hzf,H⟩
    refine EI 6597069766672 (α:=Nat) (fun z=>[(4,.int .i64 (z:Int))]) (fun z w'=>(∃ y,Sq L' k z y)∧Ctx w0 [bh,q] w' (HB bh (some ⟨q,0,none⟩) n c f')) rfl ?_ ?_
    ·skip
     refine Aq _ rfl ?_ ?_
     ·intro h2
      obtain ⟨y,hy,hlt⟩:=hzt h2
      have hz':=Cr hy
      refine Av (Ad rfl rfl (Ap rfl rfl rfl (by omega) (by omega) ?_))
      refine Ae rfl rfl (Ab (Aa ?_))
      refine ⟨m+1,rfl,⟨rfl,trivial⟩,⟨y,.inr (by omega),hy,fun i a hi h0 ha=>?_⟩,H⟩
      have:i=m∨i=m+1:=by omega
      rcases this with rfl | rfl
      ·rw [hxm] at ha; cases ha; exact hlt.le
      ·rw [hy] at ha; cases ha; exact .inr ⟨rfl,Nat.le_refl _⟩
     ·intro h2
      refine Ao (Aa ?_)
      refine ⟨m,rfl,⟨rfl,trivial⟩,⟨x,.inl (by omega),hxm,fun i a hi h0 ha=>?_⟩,H⟩
      have:i=m∨i=m+1:=by omega
      rcases this with rfl | rfl
      ·rw [hxm] at ha; cases ha; exact .inr ⟨rfl,Nat.le_refl _⟩
      ·exact Sp (hzf h2 a ha)
    ·rintro o j3 w ⟨⟨y,hl2⟩,H⟩
     obtain ⟨x,hxk⟩:=A0 (l:=L') (i:=k) (by omega)
     have hyo:=hl2.2.1
     have hon:=Cr hyo
     have hko:k<o:=by have:=hl2.1; omega
     have Rk:=O.rd (w:=w.drew) (t:=258) (fun y hy=>H.drew.blk y (List.mem_cons_of_mem _ hy)) (fun _ _=>rfl) (by decide)
     refine An (DK 14 B0 (by kernel_rfl) rfl rfl ?_)
     refine BS rfl rfl (Bh rfl rfl (A7 rfl C5 rfl (Cd rfl Dx rfl (by rintro _ rfl; exact H.drew) at0 rfl ?_)))
     refine AP rfl rfl (Bs Rk rfl Ds CM rfl rfl (by omega) (by omega) (by omega) ?_)
     refine FM _ rfl GL CM rfl rfl (by rintro _ rfl; exact (Rk.row hyo rfl)) ?_
     refine BS rfl rfl (Bh rfl rfl (A7 rfl C5 rfl (Cd rfl Dx rfl (by rintro _ rfl; exact H.drew) at0 rfl ?_)))
     refine AP rfl rfl (Bs Rk rfl Ds CM rfl rfl (by omega) (by omega) (by omega) ?_)
     refine FM _ rfl GL CM rfl rfl (by rintro _ rfl; exact (Rk.row hxk rfl)) ?_
     refine BJ ?_
     replace H:=H.drew
     refine Am rfl Sg (MU y x _) rfl ?_
     rintro v w ⟨rfl,hx57⟩
     replace H:=H.call hx57
     refine B1 rfl rfl (Ab (Aa (Aq _ rfl ?_ ?_)))
     ·intro h2
      replace h2:=Bv h2
      refine Bc (Ak (EX rfl (Ak (AD (Kp (Db rfl rfl ?_))))))
      exact ⟨rfl,L',f',hp,hD.done hxk hl2 (by simpa using h2),O,H⟩
     ·intro h2
      replace h2:=Bw h2
      obtain ⟨w7,rfl⟩:∃ z,z=w:=⟨_,rfl⟩
      have R7:=O.rd (w:=w7.drew) (t:=258) (fun y hy=>H.drew.blk y (List.mem_cons_of_mem _ hy)) (fun _ _=>rfl) (by decide)
      refine Ao (Aa (CP [([0,1,2,3,4,5,6,7,8,9,10,11,12,13,14,15,16,17,18,19,20,21,22,23,24],25),([26],27)] (fun z=>z=World.drew w7) [25,27] B0 (by kernel_rfl) (rfl) ?_))
      refine AU rfl rfl ?_
      refine Ch rfl rfl (B3 rfl rfl (AH rfl C5 rfl (JN rfl Dx rfl (by rintro _ rfl; exact H.drew) at0 rfl ?_)))
      refine AS rfl rfl (Ch rfl rfl (B3 rfl rfl (AH rfl C5 rfl (JN rfl Dx rfl (by rintro _ rfl; exact H.drew) at0 rfl ?_))))
      refine AS rfl rfl (Ch rfl rfl (B3 rfl rfl (AH rfl C5 rfl (JN rfl Dx rfl (by rintro _ rfl; exact H.drew) at0 rfl ?_))))
      refine AS rfl rfl (BT R7 rfl Ds CM rfl rfl (by omega) (by omega) (by omega) ?_)
      refine GJ _ rfl GL CM rfl rfl (fun _ hx=>(by subst hx; exact R7.row hyo rfl)) ?_
      refine Ch rfl rfl (B3 rfl rfl (AH rfl C5 rfl (JN rfl Dx rfl (by rintro _ rfl; exact H.drew) at0 rfl ?_)))
      refine AS rfl rfl (BT R7 rfl Ds CM rfl rfl (by omega) (by omega) (by omega) ?_)
      refine GJ _ rfl GL CM rfl rfl (fun _ hx=>(by subst hx; exact R7.row hxk rfl)) ?_
      refine BT R7 rfl Ds CM rfl rfl (by omega) (by omega) (by omega) ?_
      refine Ba ?_
      replace H:=H.drew
      refine Iq (vs:=ED y) rfl CM rfl rfl rfl (HV y) H at1 (by show 0+(k:Int).toNat*2+2≤_; omega) ?_
      rintro w H
      refine Ab (BW rfl (AU rfl rfl ?_))
      refine BT R7 rfl Ds CM rfl rfl (by omega) (by omega) (by omega) ?_
      refine Ba (Iq (vs:=ED x) rfl CM rfl rfl rfl (HV x) H at1 (by rw [EN]; show 0+(o:Int).toNat*2+2≤_; omega) ?_)
      rintro w H
      refine Ab (BW rfl (BO (Av (Ad rfl rfl (Ae rfl rfl (Ab (A5 (Aa ?_))))))))
      have hne:k≠o:=by omega
      refine ⟨(o,(L'.set k y).set o x,over (over f' (k*2) (ED y)) (o*2) (ED x)),rfl,⟨rfl,trivial⟩,⟨by dsimp only; omega,(Lk hxk hyo).trans hp,hD.step hxk hl2 (by simpa using h2),OS.over (OS.over O (fun _=>rfl) hxk y) (fun _=>rfl) (by rw [List.getElem?_set_ne hne]; exact hyo) x,?_⟩,by dsimp only; omega⟩
      simp only [adr0,Int.toNat_natCast,Nat.zero_add] at H
      exact H

theorem Yh (w:World):Ret Tryz.prog 190 #[] w fun v w'=>∃ b,v=ptr b∧w.heap.size≤b∧w'.heap[b]? = some (Bl 255 [.slice none 0 0])∧Ext [] w w':=by
 obtain ⟨w0,rfl⟩:∃ w0,w0=w:=⟨_,rfl⟩
 have H:=Ctx.start w0 []
 refine A9 (fn:=Tryz.f190) Tryz.func190 rfl [] rfl (by kernel_rfl) ?_
 refine Af (AW rfl rfl (Ab (Aa (Af (CE [.slice none 0 0] rfl Abf Abo (by kernel_rfl) ?_)))))
 refine BC rfl [.slice none 0 0] (.agg _) rfl rfl H ?_
 rintro b2 w - H
 refine AW rfl rfl (Ab (Aa (A8 (AB (v:=(.pointer _)) rfl rfl rfl ?_))))
 exact ⟨b2,rfl,(H.own _ (List.mem_cons_self ..)).elim (fun h=>by cases h) id,H.get at0,H.ext⟩
theorem Yi {w:World} {bh:Nat} {a:Option Addr} {n c:Nat} (hb:w.heap[bh]? = some (Bl 255 [.slice a n c])):Ret Tryz.prog 192 #[ptr bh] w fun v w'=>v = .int .i64 (n:Int)∧w=w':=by
 obtain ⟨w0,rfl⟩:∃ w0,w0=w:=⟨_,rfl⟩
 refine A9 (fn:=Tryz.f192) Tryz.func192 rfl [.pointer (some ⟨bh,0,none⟩)] rfl (by kernel_rfl) ?_
 refine Af (Ae rfl rfl (Ab (Aa (An (Af (A2 rfl rfl (CK rfl Sj rfl ?_)))))))
 refine Ab (Aa (Aq _ rfl ?_ ?_))
 ·intro h1
  cases h1
 ·intro h1
  refine Ao (Aa (Af (A2 rfl rfl (AJ rfl rfl (Ah rfl C5 rfl (Bb rfl Dx rfl ((by rw [Ay hb]; rfl)) ?_))))))
  refine AV rfl Ds rfl (Ae rfl rfl (Ab (Aa (A8 (AB (v:=(.int _ _)) rfl rfl rfl ?_)))))
  exact ⟨rfl,rfl⟩
theorem Yj {w:World} {bh:Nat} {a:Option Addr} {n c:Nat} {x:Int × Nat} {L:List (Int × Nat)} (hb:w.heap[bh]? = some (Bl 255 [.slice a n c])) (R:Rd w a 2 ED (x::L)) (hn:n=L.length+1):Ret Tryz.prog 214 #[ptr bh] w fun v w'=>v = .tuple #[.int .i64 x.1,.int .i64 (x.2:Int),.int .i64 0]∧Ext [] w w':=by
 obtain ⟨w0,rfl⟩:∃ w0,w0=w:=⟨_,rfl⟩
 have H:=Ctx.start w0 []
 have hbd:w0.drew.heap[bh]? = some (Bl 255 [.slice a n c]):=hb
 have Rd':=R.ext0 (Ext.drew [] w0)
 refine A9 (fn:=Tryz.f214) Tryz.func214 rfl [.pointer (some ⟨bh,0,none⟩)] rfl (by kernel_rfl) ?_
 refine Af (Ae rfl rfl (Ae rfl rfl (Ae rfl rfl (Ab (Aa (An (Au (Af (A2 rfl rfl (CK rfl Sj rfl ?_))))))))))
 refine Ai rfl rfl (Ab (Aa (Aq _ rfl ?_ ?_)))
 ·intro h1
  cases h1
 ·intro h1
  refine Af (A2 rfl rfl (AJ rfl rfl (Ah rfl C5 rfl (Bb rfl Dx rfl ((by rw [Ay hb]; rfl)) ?_))))
  refine AV rfl Ds rfl (Cu rfl rfl rfl (Ai rfl rfl (Ab (Aa (Aq _ rfl ?_ ?_)))))
  ·intro h2
   replace h2:=AF h2
   omega
  ·intro h2
   replace h2:=AG h2
   refine Ao (A5 (Aa (DE (fun x=>x=_) B0 (by kernel_rfl) rfl ?_)))
   refine BS rfl rfl (Bh rfl rfl (A7 rfl C5 rfl (BR rfl Dx rfl (by rintro _ rfl; exact ((by rw [Ay hbd]; rfl))) ?_)))
   refine Bs Rd' rfl Ds CM rfl rfl (by omega) (by omega) (by omega) ?_
   refine A7 rfl Jj rfl (BR rfl Bt rfl (by rintro _ rfl; exact ((Rd'.fld (i:=0) rfl rfl (j:=0) rfl))) ?_)
   refine BS rfl rfl (Bh rfl rfl (A7 rfl C5 rfl (BR rfl Dx rfl (by rintro _ rfl; exact ((by rw [Ay hbd]; rfl))) ?_)))
   refine Bs Rd' rfl Ds CM rfl rfl (by omega) (by omega) (by omega) ?_
   refine A7 rfl MN rfl (BR rfl BV rfl (by rintro _ rfl; exact ((Rd'.fld (i:=0) rfl rfl (j:=1) rfl))) ?_)
   refine C8 rfl rfl (C8 rfl rfl (C8 rfl rfl (BJ ?_)))
   rintro _ rfl
   replace H:=H.drew
   refine A8 (IW (v1:=(.int _ _)) (v2:=(.int _ _)) (v3:=(.int _ _)) rfl rfl rfl rfl rfl ?_)
   exact ⟨rfl,H.ext⟩

end Go.Proofs.YtapphbmlkdhnmaaGreat

/- Heaps: what is put and taken: the walks. -/
namespace Go.Proofs.YtapphbmlkdhnmaaGreat
open Go.GV
attribute [local irreducible] AL W Wq Wt

set_option maxRecDepth 20000 in
set_option maxHeartbeats 2000000 in
theorem T7 {w:World} {bh n c:Nat} {a:Option Addr} {full:List Value} {L:List (Int × Nat)} (H0:Ctx w ((HB bh a n c full).map (·.1)) w (HB bh a n c full)) (O:OS a n c 2 full (L.flatMap ED)) (hn:n≤100000000) (hH:HeapL L) (key:Int) (item:Nat) :
  Ret Tryz.prog 213 #[ptr bh,.int .i64 key,.int .i64 (item:Int)] w fun v w'=>v = .int .i64 0∧∃ (a':Option Addr) (c':Nat) (full':List Value) (L':List (Int × Nat)),L'.Perm ((key,item)::L)∧HeapL L'∧OS a' (n+1) c' 2 full' (L'.flatMap ED)∧Ctx w ((HB bh a n c full).map (·.1)) w' (HB bh a' (n+1) c' full'):=by
 obtain ⟨w0,rfl⟩:∃ w0,w0=w:=⟨_,rfl⟩
 have H:=H0
 refine A9 (fn:=Tryz.f213) Tryz.func213 rfl [.pointer (some ⟨bh,0,none⟩),.int .i64 key,.int .i64 (item:Int)] rfl (by kernel_rfl) ?_
 refine Af (Ae rfl rfl (Ab (Aa (An (Af (A2 rfl rfl (CK rfl Sj rfl ?_)))))))
 refine Ab (Aa (Aq _ rfl ?_ ?_))
 ·intro h1
  cases h1
 ·intro h1
  refine Ao (Aa (Af (A2 rfl rfl (A2 rfl rfl (AJ rfl rfl (Ah rfl C5 rfl (AN rfl Dx rfl H at0 rfl (Ad rfl rfl (Ad rfl rfl (CE (ED (key,item)) rfl Abg Sk (by kernel_rfl) ?_))))))))))
  refine C3 (ED (key,item)) (.agg _) rfl Ds CM Sk rfl (by decide) (by decide) rfl rfl rfl H ?_
  rintro b17 w - H
  refine Cl (L:=[(bh,_)]) rfl Ds Ds CM Z1 Sk rfl (by decide) rfl rfl H O rfl (HV _) (by omega) ?_
  rintro a18 c18 f18 w H O18
  have O8:OS a18 (n+1) c18 2 f18 ((L++[(key,item)]).flatMap ED):=by rw [List.flatMap_append]; simpa using O18
  refine AJ rfl rfl (Ah rfl C5 rfl (Cy (.slice _ _ _) rfl VW rfl rfl rfl H at0 (by (simp; done)) ?_))
  rintro w H
  refine Ab (Aa (Af (A2 rfl rfl (A2 rfl rfl (AJ rfl rfl (Ah rfl C5 rfl (AN rfl Dx rfl H at0 rfl (AV rfl Ds rfl (Be rfl rfl rfl (by omega) (by omega) ?_)))))))))
  rw [show (((n+1:Nat):Int) - 1)=(n:Int) by omega]
  obtain ⟨q,rfl⟩:=O8.form (by omega)
  refine Am rfl Abb (up_ok (Ctx.lend (L2:=[]) H.app_nil) O8 n (by omega) (by omega) (by have hnum:n=L.length:=O.numN (fun _ _=>rfl) (by decide); rw [hnum]; exact hH.snoc _)) rfl ?_
  rintro v w ⟨rfl,L',f',hp,hH',O',H'⟩
  replace H:=(Ctx.back (L2:=[]) H.app_nil H').nil_app
  refine Ab (Aa (Af (Ae rfl rfl (Ab (Aa (A8 (AB (v:=(.int _ _)) rfl rfl rfl ?_)))))))
  exact ⟨rfl,some ⟨q,0,none⟩,c18,f',L',hp.trans (List.perm_append_singleton _ _),hH',O',H⟩
theorem OS.short {α:Type} {a:Option Addr} {n c s:Nat} {full:List Value} {enc:α→List Value} {L:List α} (O:OS a n c s full (L.flatMap enc)) (hs:∀ x,(enc x).length=s) {m:Nat} (hm:m≤n):OS a m c s full ((L.take m).flatMap enc):=by
 refine ⟨O.zero,O.none',O.len,Nat.le_trans hm O.le,?_⟩
 have h1:=O.pre
 have h2:full.take (m*s)=(full.take (n*s)).take (m*s):=by rw [List.take_take,Nat.min_eq_left (Nat.mul_le_mul_right _ hm)]
 have hl:=O.llen
 rw [EC fun z _=>hs z] at hl
 rw [h2,h1]
 conv=>lhs; rw [← List.take_append_drop m L,List.flatMap_append]
 by_cases h0:s=0
 ·subst h0
  have hz:∀ M:List α,M.flatMap enc=[]:=fun M=>List.eq_nil_of_length_eq_zero (by rw [EC fun z _=>hs z]; rfl)
  rw [hz,hz]; simp
 ·have hL:n=L.length:=Nat.eq_of_mul_eq_mul_right (by omega) hl.symm
  exact List.take_left' (by rw [EC fun z _=>hs z,List.length_take,Nat.min_eq_left (by omega)])
theorem Wv {α:Type} {x z:α} {L:List α} (hz:(x::L)[L.length]? = some z):(((x::L).set 0 z).take L.length).Perm L:=by
 rcases List.eq_nil_or_concat L with rfl | ⟨M,y,rfl⟩
 ·simp
 ·have:z=y:=by
   rw [List.concat_eq_append,List.length_append,List.length_singleton,List.getElem?_cons_succ,List.getElem?_append_right (Nat.le_refl _),Nat.sub_self] at hz
   simpa using hz.symm
  subst this
  rw [List.concat_eq_append,List.set_cons_zero,List.length_append,List.length_singleton,List.take_succ_cons,List.take_left' rfl]
  exact (List.perm_append_singleton _ _).symm

set_option maxRecDepth 20000 in
set_option maxHeartbeats 2000000 in
theorem Abt {w:World} {bh q n c:Nat} {full:List Value} {x:Int × Nat} {L:List (Int × Nat)} (H0:Ctx w [bh,q] w (HB bh (some ⟨q,0,none⟩) n c full)) (O:OS (some ⟨q,0,none⟩) n c 2 full ((x::L).flatMap ED)) (hn:n≤100000000) (hH:HeapL (x::L)) :
  Ret Tryz.prog 193 #[ptr bh] w fun v w'=>v = .tuple #[.int .i64 x.1,.int .i64 (x.2:Int),.int .i64 0]∧∃ (full':List Value) (L':List (Int × Nat)),L'.Perm L∧HeapL L'∧OS (some ⟨q,0,none⟩) L.length c 2 full' (L'.flatMap ED)∧Ctx w [bh,q] w' (HB bh (some ⟨q,0,none⟩) L.length c full'):=by
 obtain ⟨w0,rfl⟩:∃ w0,w0=w:=⟨_,rfl⟩
 have H:=H0
 have hnum:n=L.length+1:=O.numN (fun _ _=>rfl) (by decide)
 subst hnum
 have hol:=O.len
 have hole:=O.le
 refine A9 (fn:=Tryz.f193) Tryz.func193 rfl [.pointer (some ⟨bh,0,none⟩)] rfl (by kernel_rfl) ?_
 refine Af (Ae rfl rfl (Ae rfl rfl (Ae rfl rfl (Ab (Aa (Af (A2 rfl rfl (Am rfl Aa5 (Yj (H.get at0) (O.rd (t:=258) (fun y hy=>H.blk y (List.mem_cons_of_mem _ hy)) (fun _ _=>rfl) (by decide)) rfl) rfl ?_))))))))
 rintro v w ⟨rfl,hx8⟩
 replace H:=H.call hx8
 refine B9 rfl rfl (A3 rfl rfl rfl (A3 rfl rfl rfl (A3 rfl rfl rfl (Ae rfl rfl (Ae rfl rfl (Ae rfl rfl (Ab (Aa (An (Af ?_))))))))))
 refine Ad rfl rfl (Cu rfl rfl rfl (Ab (Aa (Aq _ rfl ?_ ?_))))
 ·intro h1
  replace h1:=AF h1
  obtain ⟨z,hz⟩:=A0 (l:=x::L) (i:=L.length) (by simp)
  refine Af (A2 rfl rfl (AJ rfl rfl (Ah rfl C5 rfl (AN rfl Dx rfl H at0 rfl (AV rfl Ds rfl (Be rfl rfl rfl (by omega) (by omega) ?_))))))
  rw [show (((L.length+1:Nat):Int) - 1)=(L.length:Int) by omega]
  refine Ae rfl rfl (Ab (Aa ?_))
  obtain ⟨w7,rfl⟩:∃ z,z=w:=⟨_,rfl⟩
  have R7:=O.rd (w:=w7.drew) (t:=258) (fun y hy=>H.drew.blk y (List.mem_cons_of_mem _ hy)) (fun _ _=>rfl) (by decide)
  have O9:=OS.short (OS.over O (fun _=>rfl) (i:=0) (x:=x) rfl z) (fun _=>rfl) (m:=L.length) (by omega)
  refine CP [([0,1,2,3,4,5,6,7,8,9,10,11],12)] (fun z=>z=World.drew w7) [12] B0 (by kernel_rfl) (rfl) ?_
  refine AU rfl rfl ?_
  refine Ch rfl rfl (B3 rfl rfl (AH rfl C5 rfl (JN rfl Dx rfl (by rintro _ rfl; exact H.drew) at0 rfl ?_)))
  refine Ch rfl rfl (B3 rfl rfl (AH rfl C5 rfl (JN rfl Dx rfl (by rintro _ rfl; exact H.drew) at0 rfl ?_)))
  refine AS rfl rfl (BT R7 rfl Ds CM rfl rfl (by omega) (by omega) (by rfl) ?_)
  refine GJ _ rfl GL CM rfl rfl (fun _ hx=>(by subst hx; exact R7.row hz rfl)) ?_
  refine BT R7 rfl Ds CM rfl rfl (by omega) (by omega) (by rfl) ?_
  refine Ba ?_
  replace H:=H.drew
  refine Iq (vs:=ED z) rfl CM rfl rfl rfl (HV z) H at1 (by show 0+(0:Int).toNat*2+2≤_; rw [hol]; omega) ?_
  rintro w H
  rw [adr0,show (0:Nat)+(0:Int).toNat*2=0*2 from rfl] at H
  refine Ab (BW rfl (BO (Af (A2 rfl rfl (A2 rfl rfl (AJ rfl rfl (Ah rfl C5 rfl (AN rfl Dx rfl H at0 rfl (Ad rfl rfl (Hn rfl Ds CM rfl rfl (by omega) (by omega) ?_))))))))))
  refine AJ rfl rfl (Ah rfl C5 rfl (Cy (.slice _ _ _) rfl VW rfl rfl rfl H at0 (by (simp; done)) ?_))
  rintro w H
  refine Ab (Aa (Av (A2 rfl rfl (Am rfl Aa6 (Yg (Ctx.lend (L2:=[]) H.app_nil) O9 (by omega) hH.cut) rfl ?_))))
  rintro v w ⟨rfl,L',f',hp,hH',O',H'⟩
  replace H:=(Ctx.back (L2:=[]) H.app_nil H').nil_app
  refine Ab (Aa (Af (Ad rfl rfl (Ad rfl rfl (Ad rfl rfl (Ae rfl rfl (Ae rfl rfl (Ae rfl rfl (Ab (Aa (A8 (IW (v1:=(.int _ _)) (v2:=(.int _ _)) (v3:=(.int _ _)) rfl rfl rfl rfl rfl ?_))))))))))))
  exact ⟨rfl,f',L',hp.trans (Wv hz),hH',O',H⟩
 ·intro h1
  replace h1:=AG h1
  exact absurd rfl h1

end Go.Proofs.YtapphbmlkdhnmaaGreat

/- Arcs with room, one by one: the walk. -/
namespace Go.Proofs.YtapphbmlkdhnmaaGreat
open Go.GV
attribute [local irreducible] AL W Wq Wt

/-- A result in a cell, behind marks. -/
theorem Jq {P:Program} {e:Env} {w:World} {fn:Func} {R:Value→World→Prop} {a:Tmp} {t:TypeId} {p:Addr} (hr:fn.results=#[.cell a t]) (ha:e.g a = .pointer (some p)) (h:Marks e.ds w fun w'=>∃ v,(loadVar t p).run P w' = .ok v w'∧R v w'):Qc P fn R .ret e w :=
 Marks.mono (fun w ⟨v,hv,h⟩ tmps ht=>by
  have h1:=(ht a).trans ha
  rw [Array.getD_eq_getD_getElem?] at h1
  exact ⟨v,by simp [results,hr,h1,asAddr,hv],h⟩) h

def Gl (g:Gr) (p:Nat→Int) (k:Nat):List Value:=[.int .i64 (k:Int),.int .i64 (g.u k:Int),.int .i64 (g.v k:Int),.int .i64 (g.len p k)]
theorem MV (g:Gr) (p:Nat→Int) (k:Nat):∀ v∈Gl g p k,Bm v=true:=fun v hv=>by
 simp only [Gl,List.mem_cons,List.not_mem_nil,or_false] at hv
 rcases hv with rfl | rfl | rfl | rfl <;> rfl
/-- The arcs of the first edges that have room. -/
def Et (cap x:Nat→Int) (k:Nat):List Nat:=(List.range (2*k)).filter fun a=>decide (0<CI cap x a)
def JS (g:Gr) (p:Nat→Int) (l:List Nat):List (List Value):=l.map fun a=>[.agg (Gl g p a).toArray]
theorem Oe (cap x:Nat→Int) (k:Nat):Et cap x (k+1)=Et cap x k++((if 0<CI cap x (2*k) then [2*k] else [])++if 0<CI cap x (2*k+1) then [2*k+1] else []):=by
 unfold Et
 rw [show 2*(k+1)=2*k+1+1 by omega,List.range_succ,List.range_succ,List.append_assoc,List.filter_append]
 congr 1
 rw [List.filter_append]
 congr 1
 ·by_cases h:0<CI cap x (2*k)
  ·rw [if_pos h,List.filter_cons,decide_eq_true h]; rfl
  ·rw [if_neg h,List.filter_cons,decide_eq_false h]; rfl
 ·by_cases h:0<CI cap x (2*k+1)
  ·rw [if_pos h,List.filter_cons,decide_eq_true h]; rfl
  ·rw [if_neg h,List.filter_cons,decide_eq_false h]; rfl
theorem Q5 (cap x:Nat→Int):∀ {m k:Nat},k≤m→∃ r,Et cap x m=Et cap x k++r
 | 0,k,h=>⟨[],by rw [show k=0 by omega,List.append_nil]⟩
 | m+1,k,h=>by
  rcases Nat.lt_or_ge k (m+1) with h1 | h1
  ·obtain ⟨r,hr⟩:=Q5 (m:=m) (k:=k) cap x (by omega)
   exact ⟨_,by rw [Oe,hr,List.append_assoc]⟩
  ·exact ⟨[],by rw [show k=m+1 by omega,List.append_nil]⟩
theorem T8 {g:Gr} {p cap x:Nat→Int} {m k:Nat} {l r:List Nat} {a:Nat} (hk:k<m) (h:Et cap x (k+1)=l++a::r):(JS g p (Et cap x m))[l.length]? = some [.agg (Gl g p a).toArray]:=by
 obtain ⟨s,hs⟩:=Q5 cap x (m:=m) (k:=k+1) (by omega)
 unfold JS
 rw [hs,h,List.getElem?_map,List.append_assoc,List.getElem?_append_right (Nat.le_refl _),Nat.sub_self]
 rfl
def EF (pot:List Int) (i:Nat):Int:=pot.getD i 0
/-- All about an edge. -/
structure EAt (N:Int) (es:List Ed) (fl pot:List Int) (i:Nat) (e:Ed) (xx pu pv:Int) (un vn:Nat):Prop where
 he:es[i]? = some e
 hx:fl[i]? = some xx
 hpu:pot[un]? = some pu
 hpv:pot[vn]? = some pv
 f:e.f=(un:Int)
 t:e.t=(vn:Int)
 un':un<N.toNat
 vn':vn<N.toNat
 gf:(grE N es).f i=un
 gt:(grE N es).t i=vn
 co:(grE N es).co i=e.cost
 cap:Co es i=e.cap
 fx:flE fl i=xx
 xb:0≤xx∧xx≤e.cap∧e.cap≤4503599627370496
 cb : -1000≤e.cost∧e.cost≤1000
 ub : -1099511627776≤pu∧pu≤1099511627776
 vb : -1099511627776≤pv∧pv≤1099511627776
 pu':EF pot un=pu
 pv':EF pot vn=pv
theorem eat {N:Int} {es:List Ed} {fl pot:List Int} (hw:BG N es fl=true) (hp:EU N pot=true) {i:Nat} (hi:i<es.length):∃ e xx pu pv un vn,EAt N es fl pot i e xx pu pv un vn:=by
 obtain ⟨hl,hr,hin⟩:=BZ hw
 obtain ⟨hpl,hpb⟩:=Lj hp
 obtain ⟨e,he⟩:=A0 (l:=es) (i:=i) hi
 obtain ⟨xx,hx⟩:=A0 (l:=fl) (i:=i) (by omega)
 have hco:=D6 ((Cn hr).2.2.2.1 e (List.mem_of_getElem? he))
 have hxx:=hin i e xx he hx
 obtain ⟨un,hun⟩:∃ un:Nat,e.f=un:=⟨e.f.toNat,by omega⟩
 obtain ⟨vn,hvn⟩:∃ vn:Nat,e.t=vn:=⟨e.t.toNat,by omega⟩
 obtain ⟨pu,hpu⟩:=A0 (l:=pot) (i:=un) (by omega)
 obtain ⟨pv,hpv⟩:=A0 (l:=pot) (i:=vn) (by omega)
 refine ⟨e,xx,pu,pv,un,vn,he,hx,hpu,hpv,hun,hvn,by omega,by omega,?_,?_,?_,?_,Bn hx,by omega,by omega,hpb _ _ hpu,hpb _ _ hpv,Bn hpu,Bn hpv⟩
 ·show (es.getD i e0).f.toNat=un; rw [Bn he,hun]; rfl
 ·show (es.getD i e0).t.toNat=vn; rw [Bn he,hvn]; rfl
 ·show (es.getD i e0).cost=e.cost; rw [Bn he]
 ·show (es.getD i e0).cap=e.cap; rw [Bn he]
theorem Rd.rowE {α:Type} {enc:α→List Value} {w:World} {a:Option Addr} {s:Nat} {xs:List α} (R:Rd w a s enc xs) {i:Nat} {x:α} (hx:xs[i]? = some x) {l:List Value} (he:enc x=l) (hs:l.length=s):∀ j v,l[j]? = some v→w.cell? ⟨(adr a).block,(adr a).off+i*s+j,none⟩=some v:=by
 subst he; exact R.row hx hs
section
variable {N:Int} {es:List Ed} {fl pot:List Int} {i:Nat} {e:Ed} {xx pu pv:Int} {un vn:Nat}
theorem EAt.enc (h:EAt N es fl pot i e xx pu pv un vn):Cw e=[.int .i64 (un:Int),.int .i64 (vn:Int),.int .i64 e.cap,.int .i64 e.cost]:=by
 unfold Cw; rw [h.f,h.t]
theorem EAt.fwd (h:EAt N es fl pot i e xx pu pv un vn):Gl (grE N es) (EF pot) (2*i)=[.int .i64 ((2*i:Nat):Int),.int .i64 (un:Int),.int .i64 (vn:Int),.int .i64 (e.cost+pu - pv)]:=by
 unfold Gl Gr.len Gr.u Gr.v Gr.c
 rw [show 2*i % 2=0 by omega,show 2*i / 2=i by omega]
 simp only [if_true]
 rw [h.gf,h.gt,h.co,h.pu',h.pv']
theorem EAt.bwd (h:EAt N es fl pot i e xx pu pv un vn):Gl (grE N es) (EF pot) (2*i+1)=[.int .i64 ((2*i+1:Nat):Int),.int .i64 (vn:Int),.int .i64 (un:Int),.int .i64 (-(e.cost+pu - pv))]:=by
 unfold Gl Gr.len Gr.u Gr.v Gr.c
 rw [show (2*i+1) % 2=1 by omega,show (2*i+1) / 2=i by omega]
 simp only [if_false,Nat.one_ne_zero]
 rw [h.gf,h.gt,h.co,h.pu',h.pv',show -e.cost+pv - pu = -(e.cost+pu - pv) by omega]
theorem EAt.room0 (h:EAt N es fl pot i e xx pu pv un vn):CI (Co es) (flE fl) (2*i)=e.cap - xx:=by
 unfold CI
 rw [show 2*i % 2=0 by omega,show 2*i / 2=i by omega,if_pos rfl,h.cap,h.fx]
theorem EAt.room1 (h:EAt N es fl pot i e xx pu pv un vn):CI (Co es) (flE fl) (2*i+1)=xx:=by
 unfold CI
 rw [show (2*i+1) % 2=1 by omega,show (2*i+1) / 2=i by omega,if_neg (by omega),h.fx]
end

theorem T9 (N:Int) (a b p:Option Addr) (n c m d q r:Nat) (w:World):Ret Tryz.prog 189 #[CS N a n c,.slice b m d,.slice p q r] w fun v w'=>∃ b1 b2 b3,v = .func (.func 212) #[] #[ptr b1,ptr b2,ptr b3]∧w'.heap[b1]? = some (Bl 28 [.int .i64 N,.slice a n c])∧w'.heap[b2]? = some (Bl 29 [.slice p q r])∧w'.heap[b3]? = some (Bl 29 [.slice b m d])∧w.heap.size≤b1∧w.heap.size≤b2∧w.heap.size≤b3∧Ext [] w w':=by
 obtain ⟨w0,rfl⟩:∃ w0,w0=w:=⟨_,rfl⟩
 have H:=Ctx.start w0 []
 refine A9 (fn:=Tryz.f189) Tryz.func189 rfl [CS N a n c,.slice b m d,.slice p q r] rfl (by kernel_rfl) ?_
 refine Af (BC rfl [.int .i64 N,.slice a n c] (.agg _) rfl rfl H ?_)
 rintro b3 w - H
 refine BC rfl _ (.slice _ _ _) rfl rfl H ?_
 rintro b4 w - H
 refine BC rfl _ (.slice _ _ _) rfl rfl H ?_
 rintro b5 w - H
 refine Df rfl .nilFunc rfl ?_
 refine Ab (Aa (Af (Dn rfl [.pointer _,.pointer _,.pointer _] rfl (Df rfl (.func _ _ _) rfl ?_))))
 refine Ab (Aa (A8 (AB (v:=(.func _ _ _)) rfl rfl rfl ?_)))
 have ho:∀ x∈[(b5,Bl 29 [.slice p q r]),(b4,Bl 29 [.slice b m d]),(b3,Bl 28 [.int .i64 N,.slice a n c])],w0.heap.size≤x.1:=fun x hx=>(H.own x hx).elim (fun h=>by cases h) id
 exact ⟨b3,b5,b4,rfl,H.get at2,H.get at0,H.get at1,ho (b3,_) (List.mem_of_getElem? (i:=2) rfl),ho (b5,_) (List.mem_of_getElem? (i:=0) rfl),ho (b4,_) (List.mem_of_getElem? (i:=1) rfl),H.ext⟩
/-- What the rounds leave. -/
structure ArcK (b1 b2 b3:Nat) (N:Int) (a b p:Option Addr) (c d r:Nat) (es:List Ed) (fl pot:List Int) (M:Mt) (w:World):Prop where
 h1:w.heap[b1]? = some (Bl 28 [.int .i64 N,.slice a es.length c])
 h2:w.heap[b2]? = some (Bl 29 [.slice p pot.length r])
 h3:w.heap[b3]? = some (Bl 29 [.slice b fl.length d])
 R:Rd w a 4 Cw es
 Rf:Rd w b 1 I1 fl
 Rp:Rd w p 1 I1 pot

set_option maxRecDepth 20000 in
set_option maxHeartbeats 8000000 in
theorem Q6 {b1 b2 b3:Nat} {N:Int} {a b p:Option Addr} {c d r:Nat} {es:List Ed} {fl pot:List Int} (hw:BG N es fl=true) (hp:EU N pot=true) :
  Pf Tryz.prog 212 #[ptr b1,ptr b2,ptr b3] [] (ArcK b1 b2 b3 N a b p c d r es fl pot) (JS (grE N es) (EF pot) (Et (Co es) (flE fl) es.length)):=by
 intro l w J E hJ0 hJs hEs hK hY
 obtain ⟨M0,hJ0⟩:=hJ0
 obtain ⟨hl,hri,-⟩:=BZ hw
 obtain ⟨hN1,hN40,hn200,-⟩:=Cn hri
 obtain ⟨hpl,-⟩:=Lj hp
 obtain ⟨w0,rfl⟩:∃ w0,w0=w:=⟨_,rfl⟩
 refine A9 (fn:=Tryz.f212) Tryz.func212 rfl [.func (.yield l) #[] #[],.pointer (some ⟨b1,0,none⟩),.pointer (some ⟨b2,0,none⟩),.pointer (some ⟨b3,0,none⟩)] rfl (by kernel_rfl) ?_
 have K0:=(hK _ _ _ hJ0).2
 refine Af (Ah rfl Cc rfl (Bb rfl Dh rfl ((by rw [Ay K0.h1]; rfl)) ?_))
 refine AV rfl C0 rfl (Ad rfl rfl (Ab (Aa (Au (Bf 2361183241434822605024 (α:=Nat) (fun i=>[(11,.int .i64 (i:Int))]) (fun i w'=>i≤es.length∧∃ M,J (Et (Co es) (flE fl) i).length M w') (fun i=>es.length - i) 0 rfl ?_ ?_ ?_)))))
 ·exact ⟨rfl,trivial⟩
 ·exact ⟨Nat.zero_le _,M0,hJ0⟩
 ·rintro i j w ⟨hi,M,hJ⟩
  refine Af (AZ rfl rfl rfl (Ab (Aa (An (Aq _ rfl ?_ ?_)))))
  ·intro h1
   replace h1:=AF h1
   obtain ⟨e,xx,pu,pv,un,vn,A⟩:=eat (i:=i) hw hp (by omega)
   obtain ⟨he,hfx,hpu,hpv,hf,ht,hun,hvn,-,-,-,-,-,hxb,hcb,hub,hvb,-,-⟩:=id A
   have hrs:=Oe (Co es) (flE fl) i
   rw [A.room0,A.room1] at hrs
   obtain ⟨w1,rfl⟩:∃ w1,w1=w:=⟨_,rfl⟩
   have KR:∀ {z},Ext [] w1 z→ArcK b1 b2 b3 N a b p c d r es fl pot M z:=fun hz=>(hK _ _ _ (hJs _ _ _ _ hJ hz)).2
   have R:=(KR (.refl _ _)).R
   have Rf:=(KR (.refl _ _)).Rf
   have Rp:=(KR (.refl _ _)).Rp
   have H:=Ctx.start w1 []
   refine Ao (Aa (An (Au (Af (Ad rfl rfl (AK R rfl C0 CC rfl rfl (by omega) (by omega) (by rfl) ?_))))))
   refine Cv _ rfl Ho CC rfl rfl (Rd.rowE (KR H.ext).R he A.enc rfl) ?_
   refine Bj rfl Fd H ?_
   rintro b6 w - H
   refine Ae rfl rfl (B5 rfl CC rfl rfl rfl (by simp [Bm]) H at0 rfl ?_)
   rintro w H
   refine Ab (Aa (DE (fun x=>x=_) B0 (by kernel_rfl) rfl ?_))
   refine A7 rfl EK rfl (Cd rfl Bt rfl (by rintro _ rfl; exact H.drew) at0 rfl ?_)
   refine BR rfl BX rfl (by rintro _ rfl; exact ((by rw [Ay (KR H.drew.ext).h2]; rfl))) ?_
   refine A7 rfl EY rfl (Cd rfl BV rfl (by rintro _ rfl; exact H.drew) at0 rfl ?_)
   refine Bs Rp rfl AO Bu rfl rfl (by omega) (by omega) (by rfl) ?_
   refine BR rfl Bt rfl (by rintro _ rfl; exact (((KR H.drew.ext).Rp.fld hpu rfl (j:=0) rfl))) ?_
   refine C7 rfl rfl rfl (by omega) (by omega) ?_
   refine BR rfl BX rfl (by rintro _ rfl; exact ((by rw [Ay (KR H.drew.ext).h2]; rfl))) ?_
   refine A7 rfl EZ rfl (Cd rfl BV rfl (by rintro _ rfl; exact H.drew) at0 rfl ?_)
   refine Bs Rp rfl AO Bu rfl rfl (by omega) (by omega) (by rfl) ?_
   refine BR rfl Bt rfl (by rintro _ rfl; exact (((KR H.drew.ext).Rp.fld hpv rfl (j:=0) rfl))) ?_
   refine Dq rfl rfl rfl (by omega) (by omega) ?_
   refine C8 rfl rfl (BJ ?_)
   rintro _ rfl
   replace H:=H.drew
   refine An ?_
   obtain ⟨len,hlen⟩:∃ len,len=e.cost+pu - pv:=⟨_,rfl⟩
   rw [← hlen]
   have hf7:=A.fwd
   have hb7:=A.bwd
   rw [← hlen] at hf7 hb7
   have hb6:=(H.own _ (List.mem_cons_self ..)).elim (fun h=>by cases h) id
   have hM:=(hK _ _ _ hJ).1
   have hn6:¬ M b6:=fun h=>by have:=hM _ h; omega
   have hk6:=H.drew.get at0
   have hJ6:=hJs _ _ _ _ hJ H.drew.ext
   refine El 1125898833100800 (α:=Bool) (fun z=>[(49,.bool z)]) (fun z w'=>(z=true→E w')∧(z=false→w'.heap[b6]? = some (Bl 92 [.int .i64 (un:Int),.int .i64 (vn:Int),.int .i64 e.cap,.int .i64 e.cost])∧∃ M',¬ M' b6∧J (Et (Co es) (flE fl) i++(if 0<e.cap - xx then [2*i] else [])).length M' w')) rfl ?_ ?_
   ·skip
    refine EM 17 B0 (by kernel_rfl) rfl rfl ?_
    refine BR rfl BX rfl (by rintro _ rfl; exact ((by rw [Ay (KR H.drew.ext).h3]; rfl))) ?_
    refine AP rfl rfl (Bs Rf rfl AO Bu rfl rfl (by omega) (by omega) (by rfl) ?_)
    refine BR rfl Bt rfl (by rintro _ rfl; exact (((KR H.drew.ext).Rf.fld hfx rfl (j:=0) rfl))) ?_
    refine A7 rfl DP rfl (Cd rfl Bt rfl (by rintro _ rfl; exact H.drew) at0 rfl ?_)
    refine IH rfl rfl rfl (CW rfl rfl (Dg 37 rfl ?_ ?_))
    ·intro h2
     replace h2:=AF h2
     refine KY rfl (.func _ _ _) rfl ?_
     refine AP rfl rfl (NJ rfl rfl rfl (by omega) (by omega) ?_)
     refine A7 rfl EY rfl (Cd rfl BV rfl (by rintro _ rfl; exact H.drew) at0 rfl ?_)
     refine A7 rfl EZ rfl (Cd rfl BV rfl (by rintro _ rfl; exact H.drew) at0 rfl ?_)
     refine AP rfl rfl (Vu (Gl (grE N es) (EF pot) (2*i)) rfl VT Jk (by rw [hf7]; kernel_rfl) ?_)
     refine BJ ?_
     replace H:=H.drew
     refine Gd (vs:=[.agg (Gl (grE N es) (EF pot) (2*i)).toArray]) rfl rfl (hY _ _ M _ (T8 (l:=Et (Co es) (flE fl) i) (k:=i) (by omega) (by rw [hrs,if_pos (by omega)]; rfl)) hJ6) rfl ?_
     rintro u w hu
     obtain ⟨bb,rfl,hu1,hu0⟩:∃ bb,u = .bool bb∧(bb=true→w.heap[b6]? = some (Bl 92 [.int .i64 (un:Int),.int .i64 (vn:Int),.int .i64 e.cap,.int .i64 e.cost])∧∃ M',¬ M' b6∧J ((Et (Co es) (flE fl) i).length+1) M' w)∧(bb=false→E w):=hu.elim (fun h=>⟨true,h.1,fun _=>let ⟨M',h1,g⟩:=h.2; ⟨g.to hk6 hn6,M',g.not (Bp hk6) hn6,h1⟩,fun h=>by cases h⟩) (fun h=>⟨false,h.1,(fun h=>by cases h),fun _=>h.2⟩)
     refine B1 rfl rfl (AA rfl rfl (.bool _) rfl (Ab (Aa ?_)))
     exact ⟨!bb,rfl,⟨rfl,trivial⟩,fun h=>hu0 (by simpa using h),fun h=>by rw [if_pos (by omega),List.length_append]; exact hu1 (by simpa using h)⟩
    ·intro h2
     replace h2:=AG h2
     refine Ax rfl (Ax rfl (Ax rfl (Ax rfl (Ax rfl (Ax rfl (Ax rfl (Ax rfl (Ax rfl (BJ ?_)))))))))
     replace H:=H.drew
     refine Ag rfl (Ag rfl (A6 rfl rfl (.bool _) rfl (Ab (Aa ?_))))
     exact ⟨false,rfl,⟨rfl,trivial⟩,(fun h=>by cases h),fun _=>⟨hk6,M,hn6,by rw [if_neg (by omega),List.append_nil]; exact hJ6⟩⟩
   ·rintro z j2 w ⟨hz1,hz0⟩
    refine Aq _ rfl ?_ ?_
    ·intro h2
     refine A8 (Al (A1 (Al (Al (A1 (Fp rfl rfl ?_))))))
     exact .inr (hz1 h2)
    ·intro h2
     obtain ⟨hk7,M7,hn7,hJ7⟩:=hz0 h2
     obtain ⟨w7,rfl⟩:∃ z,z=w:=⟨_,rfl⟩
     have K7:=(hK _ _ _ hJ7).2
     have H:=Ctx.start w7 []
     refine Ao (Aa (Af (Bb rfl BX rfl ((by rw [Ay K7.h3]; rfl)) ?_)))
     refine Ad rfl rfl (AK Rf rfl AO Bu rfl rfl (by omega) (by omega) (by rfl) ?_)
     refine Bb rfl Bt rfl ((K7.Rf.fld hfx rfl (j:=0) rfl)) ?_
     refine Ck rfl rfl rfl (Aw rfl rfl (AE 55 rfl ?_ ?_))
     ·intro h3
      replace h3:=AF h3
      have hat:=T8 (g:=grE N es) (p:=EF pot) (cap:=Co es) (x:=flE fl) (m:=es.length) (l:=Et (Co es) (flE fl) i++(if 0<e.cap - xx then [2*i] else [])) (k:=i) (a:=2*i+1) (r:=[]) (by omega) (by rw [hrs,if_pos h3,List.append_assoc])
      refine D0 rfl (.func _ _ _) rfl ?_
      refine Ad rfl rfl (Dd rfl rfl rfl (by omega) (by omega) ?_)
      refine Ap rfl rfl rfl (by omega) (by omega) ?_
      refine Ah rfl EZ rfl (Bb rfl BV rfl ((by rw [Ay hk7]; rfl)) ?_)
      refine Ah rfl EY rfl (Bb rfl BV rfl ((by rw [Ay hk7]; rfl)) ?_)
      refine Ad rfl rfl (GF rfl rfl (by omega) (by omega) ?_)
      refine CE (Gl (grE N es) (EF pot) (2*i+1)) rfl VT Jk (by rw [hb7]; kernel_rfl) ?_
      refine Gd (vs:=[.agg (Gl (grE N es) (EF pot) (2*i+1)).toArray]) rfl rfl (hY _ _ M7 _ hat hJ7) rfl ?_
      rintro u w hu
      obtain ⟨bb,rfl,hu1,hu0⟩:∃ bb,u = .bool bb∧(bb=true→∃ M',J ((Et (Co es) (flE fl) i++(if 0<e.cap - xx then [2*i] else [])).length+1) M' w)∧(bb=false→E w):=hu.elim (fun h=>⟨true,h.1,fun _=>let ⟨M',h1,_⟩:=h.2; ⟨M',h1⟩,fun h=>by cases h⟩) (fun h=>⟨false,h.1,(fun h=>by cases h),fun _=>h.2⟩)
      refine B1 rfl rfl (AA rfl rfl (.bool _) rfl (Ab (Aa (Aq _ rfl ?_ ?_))))
      ·intro h4
       replace h4:=Bv h4
       refine A8 (A1 (Al (Al (A1 (Fp rfl rfl ?_)))))
       exact .inr (hu0 (by simpa using h4))
      ·intro h4
       replace h4:=Bw h4
       refine Ao (A5 (Aa (Av (Ap rfl rfl rfl (by omega) (by omega) ?_))))
       refine Ad rfl rfl (Ab (Aa ?_))
       refine ⟨i+1,rfl,⟨rfl,trivial⟩,⟨by omega,?_⟩,by omega⟩
       rw [hrs,if_pos h3,← List.append_assoc,List.length_append]
       exact hu1 (by simpa using h4)
     ·intro h3
      replace h3:=AG h3
      refine Ag rfl (Ag rfl (Ag rfl (Ag rfl (Ag rfl (Ag rfl (Ag rfl (Ag rfl (Ag rfl (Ag rfl ?_)))))))))
      refine Ag rfl (Ag rfl (Ag rfl (A6 rfl rfl (.bool _) rfl (Ab (Aa (CJ rfl (Ao (A5 (Aa (Av (Ap rfl rfl rfl (by omega) (by omega) ?_)))))))))))
      refine Ad rfl rfl (Ab (Aa ?_))
      refine ⟨i+1,rfl,⟨rfl,trivial⟩,⟨by omega,M7,?_⟩,by omega⟩
      rw [hrs,if_neg h3,List.append_nil]
      exact hJ7
  ·intro h1
   replace h1:=AG h1
   refine Bc (Ak (Ak (AD (Db rfl rfl ?_))))
   obtain rfl:i=es.length:=by omega
   exact .inl ⟨M,by unfold JS; rw [List.length_map]; exact hJ⟩

end Go.Proofs.YtapphbmlkdhnmaaGreat

/- Whether numbers fit what flows: the walk. -/
namespace Go.Proofs.YtapphbmlkdhnmaaGreat
open Go.GV
attribute [local irreducible] AL W Wq Wt

def arcB (g:Gr) (p:Nat→Int) (a:Nat):Bool:=decide (0≤g.len p a)
def Hs (N:Int) (es:List Ed) (fl pot:List Int):Bool:=BG N es fl && (EU N pot && (Et (Co es) (flE fl) es.length).all (arcB (grE N es) (EF pot)))

set_option maxRecDepth 20000 in
set_option maxHeartbeats 8000000 in
theorem Yk (N:Int) (a b p:Option Addr) (n c m d q r:Nat) (es:List Ed) (fl pot:List Int) (w:World) (R:Rd w a 4 Cw es) (hn:es.length=n) (hN:I64 N) (Rf:Rd w b 1 I1 fl) (hm:fl.length=m) (hm2:m≤9223372036854775000) (Rp:Rd w p 1 I1 pot) (hq:pot.length=q) (hq2:q≤9223372036854775000) :
  Ret Tryz.prog 188 #[CS N a n c,.slice b m d,.slice p q r] w fun v w'=>v = .bool (Hs N es fl pot)∧Ext [] w w':=by
 subst hn hm hq
 obtain ⟨w0,rfl⟩:∃ w0,w0=w:=⟨_,rfl⟩
 have H:=Ctx.start w0 []
 refine G5 (fn:=Tryz.f188) Tryz.func188 rfl [CS N a es.length c,.slice b fl.length d,.slice p pot.length r] rfl (by kernel_rfl) ?_
 refine Af (BC rfl [.int .i64 N,.slice a es.length c] (.agg _) rfl rfl H ?_)
 rintro b3 w - H
 refine Bj rfl zc_4 H ?_
 rintro b6 w - H
 refine Ab (Aa (An (Af (B6 rfl Cm BQ rfl H at1 rfl (Aj rfl rfl (Am rfl Pq (J9 N a b es.length c fl.length d es fl _ (R.ext0 H.ext) rfl hN (Rf.ext0 H.ext) rfl hm2) rfl ?_))))))
 rintro v w ⟨rfl,hx12⟩
 replace H:=H.call hx12
 refine B1 rfl rfl (Aw rfl rfl (AE 14 rfl ?_ ?_))
 ·intro h1
  replace h1:=Bv h1
  refine Ag rfl (Ag rfl (Ag rfl (Ag rfl (Ag rfl (AA rfl rfl (.bool _) rfl (Ab (Aa (Dj rfl (Af (Cy (.bool _) rfl VY rfl rfl rfl H at0 (by decide) ?_))))))))))
  rintro w H
  refine Ab (Aa (A8 (Al (Jq rfl rfl ?_))))
  have h1':BG N es fl=false:=by simpa using h1
  exact ⟨_,Fy Jf (by rw [Ay (H.get at0)]; rfl),congrArg Value.bool (by unfold Hs; rw [h1']; rfl),H.ext⟩
 ·intro h1
  replace h1:=Bw h1
  have h1':BG N es fl=true:=by simpa using h1
  refine Aj rfl rfl (AV rfl AO rfl (Ah rfl D5 rfl (AN rfl BV rfl H at1 rfl (Cp rfl rfl rfl (A6 rfl rfl (.bool _) rfl (Ab (Aa (Aq _ rfl ?_ ?_))))))))
  ·intro h2
   replace h2:=CY h2
   refine Af (Cy (.bool _) rfl VY rfl rfl rfl H at0 (by decide) ?_)
   rintro w H
   refine Ab (Aa (A8 (Al (Jq rfl rfl ?_))))
   have h2':EU N pot=false:=by unfold EU; rw [decide_eq_false h2,Bool.and_false]
   exact ⟨_,Fy Jf (by rw [Ay (H.get at0)]; rfl),congrArg Value.bool (by unfold Hs; rw [h2',Bool.false_and,Bool.and_false]),H.ext⟩
  ·intro h2
   replace h2:=CZ h2
   have hpl:(pot.length:Int)=N:=by simpa using h2
   refine Ao (Aa (An (Af (Aj rfl rfl (AV rfl AO rfl (Ad rfl rfl (Ab (Aa (Au (Bf 17171480832 (α:=Nat) (fun i=>[(23,.int .i64 (i:Int))]) (fun i w'=>i≤pot.length∧Ctx w0 [] w' [(b6,Bl 4 [.bool false]),(b3,Bl 28 [.int .i64 N,.slice a es.length c])]∧∀ (k:Nat) (x:Int),k<i→pot[k]? = some x→JJ x=true) (fun i=>pot.length - i) 0 rfl ?_ ?_ ?_))))))))))
   ·exact ⟨rfl,trivial⟩
   ·exact ⟨Nat.zero_le _,H,fun k x h=>absurd h (Nat.not_lt_zero _)⟩
   ·rintro i j w ⟨hi,H,hb⟩
    refine Af (AZ rfl rfl rfl (Ab (Aa (An (Aq _ rfl ?_ ?_)))))
    ·intro h3
     replace h3:=AF h3
     obtain ⟨x,h7x⟩:=A0 (l:=pot) (i:=i) (by omega)
     refine Ao (Aa (An (Au (Af (AK Rp rfl AO Bu rfl rfl (by omega) (by omega) (by rfl) ?_)))))
     refine Bb rfl Bt rfl (((Rp.ext0 H.ext).fld h7x rfl (j:=0) rfl)) ?_
     refine Ae rfl rfl (Ab (Aa (Af (BD (α:=Unit) 8455716864 (fun _=>[(32,.bool (!JJ x))]) (fun _ w'=>Ctx w0 [] w' [(b6,Bl 4 [.bool false]),(b3,Bl 28 [.int .i64 N,.slice a es.length c])]) rfl ?_ ?_))))
     ·refine Ad rfl rfl (AZ rfl rfl rfl (Aw rfl rfl (AE 29 rfl ?_ ?_)))
      ·intro h1
       replace h1:=AF h1
       refine Ag rfl (Ag rfl (AA rfl rfl (.bool _) rfl (Ab ?_)))
       exact ⟨rfl,(),rfl,⟨congrArg Value.bool (by unfold JJ; rw [Bool.eq_iff_iff]; simp_all; try omega),trivial⟩,H⟩
      ·intro h2
       replace h2:=AG h2
       refine Ad rfl rfl (Ck rfl rfl rfl (A6 rfl rfl (.bool _) rfl (Ab ?_)))
       exact ⟨rfl,(),rfl,⟨congrArg Value.bool (by unfold JJ; rw [Bool.eq_iff_iff]; simp_all; try omega),trivial⟩,H⟩
     rintro - j32 w H
     refine Aq _ rfl ?_ ?_
     ·intro h4
      replace h4:=Bv h4
      refine Af (Cy (.bool _) rfl VY rfl rfl rfl H at0 (by decide) ?_)
      rintro w H
      refine Ab (Aa (A8 (A1 (Al (Al (A1 (Al (Jq rfl rfl ?_))))))))
      have h2':EU N pot=false:=by unfold EU; rw [C9 h7x (by simpa using h4),Bool.false_and]
      exact ⟨_,Fy Jf (by rw [Ay (H.get at0)]; rfl),congrArg Value.bool (by unfold Hs; rw [h2',Bool.false_and,Bool.and_false]),H.ext⟩
     ·intro h4
      replace h4:=Bw h4
      refine Ao (A5 (Aa (Av (Ap rfl rfl rfl (by omega) (by omega) ?_))))
      refine Ad rfl rfl (Ab (Aa ?_))
      refine ⟨i+1,rfl,⟨rfl,trivial⟩,⟨by omega,H,fun k y hk hy=>?_⟩,by omega⟩
      rcases Nat.lt_or_ge k i with h7 | h7
      ·exact hb k y h7 hy
      ·obtain rfl:k=i:=by omega
       rw [h7x] at hy
       cases hy
       simpa using h4
    ·intro h3
     replace h3:=AG h3
     have hp:EU N pot=true:=by
      unfold EU
      rw [CV fun k x hk hx=>hb k x (by omega) hx,decide_eq_true hpl]; rfl
     obtain ⟨hl,hri,-⟩:=BZ h1'
     obtain ⟨hN1,hN40,hn200,-⟩:=Cn hri
     have hfN:Hs N es fl pot=(Et (Co es) (flE fl) es.length).all (arcB (grE N es) (EF pot)):=by unfold Hs; rw [h1',hp]; rfl
     refine Bc (Ak (Ak (AD (Aa (An (Af (B6 rfl Cm BQ rfl H at1 rfl (Aj rfl rfl (Aj rfl rfl ?_)))))))))
     have hlt:=H.lt (k:=0) rfl
     have hlt1:=H.lt (k:=1) rfl
     refine Am rfl VH (T9 N a b p es.length c fl.length d pot.length r _) rfl ?_
     rintro v w ⟨x1,x2,x3,rfl,hb1,hb2,hb3,hs1,hs2,hs3,hx37⟩
     have hbb:=(H.call hx37)
     have hx7:=H.ext.trans hx37
     have hs07:=H.size
     refine Ab (Aa (Au ?_))
     obtain ⟨ws,rfl⟩:∃ z,z=w:=⟨_,rfl⟩
     have hk6:=hbb.lt (k:=0) rfl
     have hk1:=Bp hb1
     have hk2:=Bp hb2
     have hk3:=Bp hb3
     have hk66:=hbb.get at0
     have hs0:=hbb.size
     have h60:w0.heap.size≤b6:=(hbb.own _ (List.mem_cons_self ..)).elim (fun h=>by cases h) id
     refine LW (gf:=212) rfl VL (Q6 (b1:=x1) (b2:=x2) (b3:=x3) (a:=a) (b:=b) (p:=p) (c:=c) (d:=d) (r:=r) h1' hp) (by kernel_rfl) (by kernel_rfl) (fun v hv=>by obtain ⟨p,-,rfl⟩:=List.mem_map.1 hv; rfl)
      (fun i M w'=>(M=fun _=>False)∧Ext [] w0 w'∧w'.heap[b6]? = some (Bl 4 [.bool false])∧w'.heap[x1]? = some (Bl 28 [.int .i64 N,.slice a es.length c])∧w'.heap[x2]? = some (Bl 29 [.slice p pot.length r])∧w'.heap[x3]? = some (Bl 29 [.slice b fl.length d])∧∀ (k:Nat) (y:Nat),k<i→(Et (Co es) (flE fl) es.length)[k]? = some y→arcB (grE N es) (EF pot) y=true)
      (fun w'=>Ext [] w0 w'∧w'.heap[b6]? = some (Bl 4 [.bool false])∧(Et (Co es) (flE fl) es.length).all (arcB (grE N es) (EF pot))=false) (by simp)
      (fun w2 hx2 _=>⟨_,rfl,hx7.trans hx2,hx2.to hk66 (by simp),hx2.to hb1 (by simp),hx2.to hb2 (by simp),hx2.to hb3 (by simp),fun k y h=>absurd h (Nat.not_lt_zero _)⟩)
      (fun i M w' w'' hJ hx=>⟨hJ.1,hJ.2.1.then hx (fun z hz => .inr (by simp only [List.mem_cons,List.not_mem_nil,or_false] at hz; omega)),hx.to hJ.2.2.1 (by simp; omega),hx.to hJ.2.2.2.1 (by simp; omega),hx.to hJ.2.2.2.2.1 (by simp; omega),hx.to hJ.2.2.2.2.2.1 (by simp; omega),hJ.2.2.2.2.2.2⟩)
      (fun w' w'' hE hx=>⟨hE.1.then hx (fun z hz => .inr (by simp only [List.mem_cons,List.not_mem_nil,or_false] at hz; omega)),hx.to hE.2.1 (by simp; omega),hE.2.2⟩)
      (fun i M w' hJ=>⟨fun y hy=>by rw [hJ.1] at hy; exact hy.elim,hJ.2.2.2.1,hJ.2.2.2.2.1,hJ.2.2.2.2.2.1,R.ext0 hJ.2.1,Rf.ext0 hJ.2.1,Rp.ext0 hJ.2.1⟩) ?_ ?_ ?_
     ·rintro i v _ w hxv ⟨rfl,hx0,g6,g1,g2,g3,hall⟩ hsz
      unfold JS at hxv
      rw [List.getElem?_map] at hxv
      obtain ⟨y,hy,rfl⟩:=Option.map_eq_some_iff.1 hxv
      obtain ⟨w1,rfl⟩:∃ z,z=w:=⟨_,rfl⟩
      have H:=Ctx.start w1 []
      refine Av (Bj rfl Jk H ?_)
      rintro b9 w - H
      refine B5 rfl GO rfl rfl rfl (by exact MV _ _ _) H at0 rfl ?_
      rintro w H
      refine Ab ?_
      refine ⟨H.ext,fun wB hxB=>?_⟩
      have hb9:=(H.own _ (List.mem_cons_self ..)).elim (fun h=>by cases h) id
      have k9:=hxB.to (H.get at0) (by rw [List.mem_singleton]; omega)
      have k6:=hxB.to (H.ext.to g6 (by simp)) (by rw [List.mem_singleton]; omega)
      have k1:=hxB.to (H.ext.to g1 (by simp)) (by rw [List.mem_singleton]; omega)
      have k2:=hxB.to (H.ext.to g2 (by simp)) (by rw [List.mem_singleton]; omega)
      have k3:=hxB.to (H.ext.to g3 (by simp)) (by rw [List.mem_singleton]; omega)
      have hx0B:=(hx0.trans H.ext).then hxB fun z hz => .inr (by rw [List.mem_singleton.1 hz]; omega)
      obtain ⟨w2,rfl⟩:∃ z,z=wB:=⟨_,rfl⟩
      replace H:=Ctx.start1 k6
      have hn9:b9∉[b6]:=by rw [List.mem_singleton]; omega
      refine Au (Af (Ah rfl ML rfl (Bb rfl Bt rfl ((H.old (Ay k9 _) hn9)) ?_)))
      refine AZ rfl rfl rfl (Ab (Aa (Aq _ rfl ?_ ?_)))
      ·intro h5
       replace h5:=AF h5
       refine Af (Cy (.bool _) rfl VY rfl rfl rfl H at0 (by decide) ?_)
       rintro w H
       refine Ab (Aa (A8 (A1 ?_)))
       exact ⟨⟨hx0B.then H.ext fun z hz => .inr (by rw [List.mem_singleton.1 hz]; exact h60),H.get at0,C9 hy (decide_eq_false (by omega))⟩,_,H.ext,by rw [List.mem_singleton]; omega,by rw [List.mem_singleton]; omega⟩
      ·intro h5
       replace h5:=AG h5
       refine Ao (A5 ?_)
       refine ⟨_,⟨rfl,hx0B,k6,k1,k2,k3,fun k z hk hz=>?_⟩,fun _ h=>h.elim,[],.refl _ _,fun _ h=>by cases h⟩
       rcases Nat.lt_or_ge k i with h7 | h7
       ·exact hall k z h7 hz
       ·obtain rfl:k=i:=by omega
        rw [hy] at hz
        cases hz
        exact decide_eq_true (by omega)
     ·rintro M w ⟨-,hx0,g6,-,-,-,hall⟩ hD
      have hlen:(JS (grE N es) (EF pot) (Et (Co es) (flE fl) es.length)).length=(Et (Co es) (flE fl) es.length).length:=by unfold JS; rw [List.length_map]
      rw [hlen] at hall
      replace H:=Ctx.start1 g6
      refine A5 (Aa (Af (Cy (.bool _) rfl VY rfl rfl rfl H at0 (by decide) ?_)))
      rintro w H
      refine Ab (Aa (A8 (Jq rfl rfl (G6 (by rw [H.ext.block _ (Bp hD) (by rw [List.mem_singleton]; omega)]; exact hD) rfl fun wF hxF=>?_))))
      exact ⟨_,Fy Jf (by rw [Ay (hxF.to (H.get at0) (by rw [List.mem_singleton]; omega))]; rfl),congrArg Value.bool (by rw [hfN,CV fun k x hk hx=>hall k x hk hx]),(hx0.then H.ext fun z hz => .inr (by rw [List.mem_singleton.1 hz]; exact h60)).then hxF fun z hz => .inr (by rw [List.mem_singleton.1 hz]; omega)⟩
     ·rintro w ⟨hx0,g6,hall⟩ hD
      refine A1 (Al (Jq rfl rfl (G6 hD rfl fun wF hxF=>?_)))
      exact ⟨_,Fy Jf (by rw [Ay (hxF.to g6 (by rw [List.mem_singleton]; omega))]; rfl),congrArg Value.bool (by rw [hfN,hall]),hx0.then hxF fun z hz => .inr (by rw [List.mem_singleton.1 hz]; omega)⟩

end Go.Proofs.YtapphbmlkdhnmaaGreat

/- Plain law of shortest ways: how long the heap may get. -/
namespace Go.Proofs.YtapphbmlkdhnmaaGreat
open Go.GV

def HW (A:List Ar) (v:Nat):Int:=((A.filter fun a=>decide (a.1=v)).length:Nat)
/-- How often a node may be gone on from. -/
def gv (n:Nat) (D:Int) (s:Lb) (hp:List Tg) (v:Nat):Int:=if s.d v ≠ -1∧s.d v≤D then (hp.count (s.d v,v):Nat)+(s.h v:Nat) else (n:Nat)+1
def psi (n:Nat) (A:List Ar) (D:Int) (s:Lb) (hp:List Tg):Int:=(hp.length:Nat)+B7 (fun v=>HW A v*gv n D s hp v) n
structure PI (n:Nat) (D:Int) (s:Lb) (hp:List Tg):Prop where
 keys:∀ t∈hp,D≤t.1
 item:∀ t∈hp,s.d t.2 ≠ -1∧s.d t.2≤t.1
 lab:∀ v,s.d v ≠ -1→hp.count (s.d v,v)+s.h v≤n
theorem Ww (A:List Ar) (v:Nat):0≤HW A v:=by unfold HW; omega
theorem Yl {n:Nat} {D:Int} {s:Lb} {hp hq:List Tg} (h:hp.Perm hq) (v:Nat):gv n D s hp v=gv n D s hq v:=by unfold gv; rw [h.count_eq]
theorem MW {n:Nat} {A:List Ar} {D:Int} {s:Lb} {hp hq:List Tg} (h:hp.Perm hq):psi n A D s hp=psi n A D s hq:=by
 unfold psi
 rw [h.length_eq,C4 fun i _=>by rw [Yl h]]
theorem PI.perm {n:Nat} {D:Int} {s:Lb} {hp hq:List Tg} (P:PI n D s hp) (h:hp.Perm hq):PI n D s hq :=
 ⟨fun t ht=>P.keys t (h.mem_iff.2 ht),fun t ht=>P.item t (h.mem_iff.2 ht),fun v hv=>by rw [← h.count_eq]; exact P.lab v hv⟩
theorem gv0 {n:Nat} {D:Int} {s:Lb} {hp:List Tg} (v:Nat):0≤gv n D s hp v:=by unfold gv; split <;> omega
theorem P0 {n:Nat} {A:List Ar} {D:Int} {s:Lb} {hp:List Tg}:(hp.length:Int)≤psi n A D s hp:=by
 have:=GP (f:=fun v=>HW A v*gv n D s hp v) (k:=n) fun i _=>Int.mul_nonneg (Ww A i) (gv0 i)
 unfold psi; omega
theorem PI.pop {n:Nat} {A:List Ar} {D:Int} {s:Lb} {t:Tg} {hp:List Tg} (P:PI n D s (t::hp)) (hmin:∀ x∈hp,t.1≤x.1) (ht:t.2<n) :
  PI n t.1 s hp∧psi n A t.1 s hp+1≤psi n A D s (t::hp)∧(t.1=s.d t.2→psi n A t.1 s hp+1+HW A t.2≤psi n A D s (t::hp)):=by
 have hD:=P.keys t (List.mem_cons_self ..)
 have hc:∀ v,((t::hp).count (s.d v,v):Int)=(hp.count (s.d v,v):Int)+one (t=(s.d v,v)):=fun v=>by
  rw [List.count_cons]
  by_cases e:t=(s.d v,v)
  ·rw [if_pos (by rw [e]; exact beq_self_eq_true _),one,if_pos e]; omega
  ·rw [if_neg (by simpa using e),one,if_neg e]; omega
 have hone:∀ v,0≤one (t=(s.d v,v)):=fun v=>by unfold one; split <;> omega
 have hg:∀ v,gv n t.1 s hp v≤gv n D s (t::hp) v∧(t=(s.d v,v)→gv n t.1 s hp v+1≤gv n D s (t::hp) v):=fun v=>by
  have h1:=hc v
  have h2:=hone v
  have h4:t=(s.d v,v)→one (t=(s.d v,v))=1:=fun e=>if_pos e
  have h5:t=(s.d v,v)→t.1=s.d v∧s.d v ≠ -1:=fun e=>⟨by rw [e],by
   have:=(P.item t (List.mem_cons_self ..)).1
   rw [show t.2=v by rw [e]] at this
   exact this⟩
  unfold gv
  by_cases a1:s.d v ≠ -1∧s.d v≤t.1
  ·have h3:=P.lab v a1.1
   rw [if_pos a1]
   by_cases a2:s.d v ≠ -1∧s.d v≤D
   ·rw [if_pos a2]
    refine ⟨by omega,fun e=>?_⟩
    have:=h4 e
    omega
   ·rw [if_neg a2]
    refine ⟨by omega,fun e=>?_⟩
    have:=h4 e
    omega
  ·rw [if_neg a1,if_neg (fun h=>a1 ⟨h.1,by omega⟩)]
   refine ⟨Int.le_refl _,fun e=>?_⟩
   have:=h5 e
   exact absurd ⟨this.2,by omega⟩ a1
 refine ⟨⟨hmin,fun x hx=>P.item x (List.mem_cons_of_mem _ hx),fun v hv=>?_⟩,?_,fun e=>?_⟩
 ·have h1:=hc v
  have h2:=hone v
  have h3:=P.lab v hv
  omega
 ·have h1:=Jl (f:=fun v=>HW A v*gv n t.1 s hp v) (g:=fun v=>HW A v*gv n D s (t::hp) v) (k:=n) fun i _=>Int.mul_le_mul_of_nonneg_left (hg i).1 (Ww A i)
  unfold psi
  rw [List.length_cons]
  omega
 ·have h1:=Jl (f:=fun v=>HW A v*gv n t.1 s hp v) (g:=fun v=>HW A v*gv n D s (t::hp) v - one (t.2=v)*HW A v) (k:=n) fun i _=>by
   by_cases e1:t.2=i
   ·subst e1
    have h2:=Int.mul_le_mul_of_nonneg_left ((hg t.2).2 (Prod.ext e rfl)) (Ww A t.2)
    rw [Int.mul_add] at h2
    rw [one,if_pos rfl]
    omega
   ·have h2:=Int.mul_le_mul_of_nonneg_left (hg i).1 (Ww A i)
    rw [one,if_neg e1]
    omega
  rw [J7,G1 (fun v=>HW A v) ht] at h1
  unfold psi
  rw [List.length_cons]
  omega
theorem PI.relax {n:Nat} {A:List Ar} {D:Int} {s:Lb} {hp:List Tg} {a:Ar} (P:PI n D s hp) (hs:s.d a.1=D) (hD0:0≤D) (hl:0≤a.2.2) (hlow:∀ v,s.d v = -1∨0≤s.d v) (hhop:(Gi s a).d a.2.1 ≠ -1→(Gi s a).h a.2.1+1≤n) :
  PI n D (Gi s a) (Hz s a hp)∧psi n A D (Gi s a) (Hz s a hp)≤psi n A D s hp+1:=by
 by_cases hb:DQ s a.2.1 (s.d a.1+a.2.2) (s.h a.1+1)
 ·have hS:Gi s a=GQ s a.2.1 (s.d a.1+a.2.2) (s.h a.1+1):=by unfold Gi; rw [if_pos hb]
  have hH:Hz s a hp=(s.d a.1+a.2.2,a.2.1)::hp:=by unfold Hz; rw [if_pos hb]
  rw [hS] at hhop
  rw [hS,hH]
  obtain ⟨d',hd'⟩:∃ d',d'=s.d a.1+a.2.2:=⟨_,rfl⟩
  obtain ⟨h',hh'⟩:∃ h',h'=s.h a.1+1:=⟨_,rfl⟩
  obtain ⟨v,hv⟩:∃ v,v=a.2.1:=⟨_,rfl⟩
  rw [← hd',← hh',← hv] at hb hhop ⊢
  have hdD:D≤d':=by omega
  have p1:(GQ s v d' h').d v=d':=if_pos rfl
  have p2:(GQ s v d' h').h v=h':=if_pos rfl
  have p3:∀ x,x≠v→(GQ s v d' h').d x=s.d x:=fun x hx=>if_neg hx
  have p4:∀ x,x≠v→(GQ s v d' h').h x=s.h x:=fun x hx=>if_neg hx
  have hsD:=hlow a.1
  unfold DQ at hb
  have hc1:∀ x,x≠v→((d',v)::hp).count (s.d x,x)=hp.count (s.d x,x):=fun x hx=>by
   rw [List.count_cons,if_neg (by simp; intro _ h; exact hx h.symm)]; rfl
  have hc2:((d',v)::hp).count (d',v)=hp.count (d',v)+1:=by rw [List.count_cons_self]
  have hc3:s.d v = -1∨d'<s.d v→hp.count (d',v)=0:=fun h=>List.count_eq_zero.2 fun hm=>by
   have:=P.item _ hm
   dsimp only at this
   omega
  have h0:d' ≠ -1:=by omega
  have hh1:=hhop (by rw [p1]; exact h0)
  rw [p2] at hh1
  have hlabv:((d',v)::hp).count (d',v)+h'≤n:=by
   rw [hc2]
   rcases hb with h | h | ⟨h,hlt⟩
   ·rw [hc3 (.inl h)]; omega
   ·rw [hc3 (.inr h)]; omega
   ·have:=P.lab v (by rw [← h]; exact h0)
    rw [← h] at this
    omega
  have hgx:∀ x,gv n D (GQ s v d' h') ((d',v)::hp) x≤gv n D s hp x:=fun x=>by
   unfold gv
   by_cases e:x=v
   ·subst e
    rw [p1,p2]
    by_cases a1:d' ≠ -1∧d'≤D
    ·rw [if_pos a1]
     by_cases a2:s.d x ≠ -1∧s.d x≤D
     ·rw [if_pos a2]
      have e3:d'=s.d x∧h'<s.h x:=by omega
      rw [hc2,← e3.1]
      omega
     ·rw [if_neg a2]; omega
    ·rw [if_neg a1]
     rw [if_neg (fun h=>a1 ⟨h0,by omega⟩)]
     exact Int.le_refl _
   ·rw [p3 x e,p4 x e,hc1 x e]
    exact Int.le_refl _
  refine ⟨⟨fun t ht=>?_,fun t ht=>?_,fun x hx=>?_⟩,?_⟩
  ·rcases List.mem_cons.1 ht with rfl | ht
   ·exact hdD
   ·exact P.keys t ht
  ·rcases List.mem_cons.1 ht with rfl | ht
   ·rw [p1]; exact ⟨h0,Int.le_refl _⟩
   ·obtain ⟨i1,i2⟩:=P.item t ht
    by_cases e:t.2=v
    ·rw [e,p1]
     rw [e] at i1 i2
     exact ⟨h0,by omega⟩
    ·rw [p3 _ e]; exact ⟨i1,i2⟩
  ·by_cases e:x=v
   ·subst e; rw [p1,p2]; exact hlabv
   ·rw [p3 x e,p4 x e,hc1 x e]
    rw [p3 x e] at hx
    exact P.lab x hx
  ·have h1:=Jl (f:=fun x=>HW A x*gv n D (GQ s v d' h') ((d',v)::hp) x) (g:=fun x=>HW A x*gv n D s hp x) (k:=n) fun i _=>Int.mul_le_mul_of_nonneg_left (hgx i) (Ww A i)
   unfold psi
   rw [List.length_cons]
   omega
 ·have hS:Gi s a=s:=by unfold Gi; rw [if_neg hb]
  have hH:Hz s a hp=hp:=by unfold Hz; rw [if_neg hb]
  rw [hS,hH]
  exact ⟨P,by omega⟩

end Go.Proofs.YtapphbmlkdhnmaaGreat

/- Shortest ways: a node is gone on from: the walks. -/
namespace Go.Proofs.YtapphbmlkdhnmaaGreat
open Go.GV
attribute [local irreducible] AL W Wq Wt

abbrev FB (oo od oh ob n:Nat):List Value:=[.slice (some ⟨oo,0,none⟩) n n,.slice (some ⟨od,0,none⟩) n n,.slice (some ⟨oh,0,none⟩) n n,.slice (some ⟨ob,0,none⟩) n n]
def N6 (s:Lb) (v:Nat):Int:=(s.h v:Nat)
def I4 (g:Gr) (p:Nat→Int) (a:Nat):Ar:=(g.u a,g.v a,g.len p a)

set_option maxRecDepth 20000 in
theorem Uw {w:World} {bf oo od oh ob n:Nat} {s:Lb} (hf:w.heap[bf]? = some (Bl 224 (FB oo od oh ob n))) (hd:w.heap[od]? = some (Bl 2 (BE s.d n))) (hh:w.heap[oh]? = some (Bl 3 (BE (N6 s) n))) (v:Nat) (hv:v<n) (hn:n≤1000000) (d:Int) (h:Nat) :
  Ret Tryz.prog 216 #[ptr bf,.int .i64 (v:Int),.int .i64 d,.int .i64 (h:Int)] w fun r w'=>r = .bool (decide (DQ s v d h))∧w=w':=by
 obtain ⟨w0,rfl⟩:∃ w0,w0=w:=⟨_,rfl⟩
 have Rdd:=Cs hd
 have Rhh:=Cs hh
 have hhv:N6 s v=(s.h v:Nat):=rfl
 obtain ⟨x,hx⟩:∃ x,x=s.d v:=⟨_,rfl⟩
 obtain ⟨y,hy⟩:∃ y,y=s.h v:=⟨_,rfl⟩
 have hgd:(tab s.d n)[v]? = some x:=by rw [BN hv,hx]
 have hgh:(tab (N6 s) n)[v]? = some (y:Int):=by rw [BN hv,hhv,hy]
 have hiff:DQ s v d h↔(x = -1∨d<x∨(d=x∧h<y)):=by rw [hx,hy]; exact Iff.rfl
 rw [show decide (DQ s v d h)=decide (x = -1∨d<x∨(d=x∧h<y)) from decide_eq_decide.2 hiff]
 clear hiff
 refine A9 (fn:=Tryz.f216) Tryz.func216 rfl [.pointer (some ⟨bf,0,none⟩),.int .i64 (v:Int),.int .i64 d,.int .i64 (h:Int)] rfl (by kernel_rfl) ?_
 refine Af (Ai rfl rfl (Ab (Aa (Af (A2 rfl rfl (AJ rfl rfl (Ah rfl Eb rfl (Bb rfl BX rfl ((by rw [Ay hf]; rfl)) ?_))))))))
 refine Ad rfl rfl (Bg rfl AO Bu rfl rfl (by omega) (by omega) ?_)
 refine Bb rfl Bt rfl ((Rdd.fld hgd rfl (j:=0) rfl)) ?_
 refine Cu rfl rfl rfl (Aw rfl rfl (AE 17 rfl ?_ ?_))
 ·intro h1
  replace h1:=AF h1
  refine Ag rfl (Ag rfl (Ag rfl (Ag rfl (Ag rfl (Ag rfl (Ag rfl (Ag rfl (Ag rfl (AA rfl rfl (.bool _) rfl ?_)))))))))
  refine Aw rfl rfl (Ag rfl (Ag rfl (Ag rfl (Ag rfl (Ag rfl (Ag rfl (Ag rfl (Ag rfl (Ag rfl ?_)))))))))
  refine Ag rfl (Ag rfl (Ag rfl (Ag rfl (Ag rfl (Ag rfl (Ag rfl (Ag rfl (Ag rfl (Ag rfl ?_)))))))))
  refine Ag rfl (AA rfl rfl (.bool _) rfl (Ai rfl rfl (Ab (Aa (A8 (AB (v:=(.bool _)) rfl rfl rfl ?_))))))
  exact ⟨congrArg Value.bool (by clear hgd hgh hx hy; rw [Bool.eq_iff_iff]; simp_all; try omega),rfl⟩
 ·intro h2
  replace h2:=AG h2
  refine Ad rfl rfl (A2 rfl rfl (AJ rfl rfl (Ah rfl Eb rfl (Bb rfl BX rfl ((by rw [Ay hf]; rfl)) ?_))))
  refine Ad rfl rfl (Bg rfl AO Bu rfl rfl (by omega) (by omega) ?_)
  refine Bb rfl Bt rfl ((Rdd.fld hgd rfl (j:=0) rfl)) ?_
  refine AZ rfl rfl rfl (A6 rfl rfl (.bool _) rfl (Aw rfl rfl (AE 28 rfl ?_ ?_)))
  ·intro h3
   replace h3:=AF h3
   refine Ag rfl (Ag rfl (Ag rfl (Ag rfl (Ag rfl (Ag rfl (Ag rfl (Ag rfl (Ag rfl (Ag rfl ?_)))))))))
   refine Ag rfl (Ag rfl (Ag rfl (Ag rfl (Ag rfl (Ag rfl (Ag rfl (Ag rfl (Ag rfl (Ag rfl ?_)))))))))
   refine AA rfl rfl (.bool _) rfl (Ai rfl rfl (Ab (Aa (A8 (AB (v:=(.bool _)) rfl rfl rfl ?_)))))
   exact ⟨congrArg Value.bool (by clear hgd hgh hx hy; rw [Bool.eq_iff_iff]; simp_all; try omega),rfl⟩
  ·intro h4
   replace h4:=AG h4
   refine Ad rfl rfl (A2 rfl rfl (AJ rfl rfl (Ah rfl Eb rfl (Bb rfl BX rfl ((by rw [Ay hf]; rfl)) ?_))))
   refine Ad rfl rfl (Bg rfl AO Bu rfl rfl (by omega) (by omega) ?_)
   refine Bb rfl Bt rfl ((Rdd.fld hgd rfl (j:=0) rfl)) ?_
   refine Cu rfl rfl rfl (Aw rfl rfl (AE 38 rfl ?_ ?_))
   ·intro h5
    replace h5:=AF h5
    refine Ad rfl rfl (A2 rfl rfl (AJ rfl rfl (Ah rfl GM rfl (Bb rfl F9 rfl ((by rw [Ay hf]; rfl)) ?_))))
    refine Ad rfl rfl (Bg rfl DX Fs rfl rfl (by omega) (by omega) ?_)
    refine Bb rfl BV rfl ((Rhh.fld hgh rfl (j:=0) rfl)) ?_
    refine AZ rfl rfl rfl (AA rfl rfl (.bool _) rfl (A6 rfl rfl (.bool _) rfl (Ai rfl rfl (Ab (Aa (A8 (AB (v:=(.bool _)) rfl rfl rfl ?_)))))))
    exact ⟨congrArg Value.bool (by clear hgd hgh hx hy; rw [Bool.eq_iff_iff]; simp_all; try omega),rfl⟩
   ·intro h6
    replace h6:=AG h6
    refine Ag rfl (Ag rfl (Ag rfl (Ag rfl (Ag rfl (Ag rfl (Ag rfl (Ag rfl (Ag rfl (A6 rfl rfl (.bool _) rfl ?_)))))))))
    refine A6 rfl rfl (.bool _) rfl (Ai rfl rfl (Ab (Aa (A8 (AB (v:=(.bool _)) rfl rfl rfl ?_)))))
    exact ⟨congrArg Value.bool (by clear hgd hgh hx hy; rw [Bool.eq_iff_iff]; simp_all; try omega),rfl⟩

def I5 (x:Lb × List Tg) (a:Ar):Lb × List Tg:=(Gi x.1 a,Hz x.1 a x.2)
def goP (g:Gr) (p:Nat→Int) (s:Lb) (hp:List Tg) (l:List Nat):Lb × List Tg:=(l.map (I4 g p)).foldl I5 (s,hp)
theorem Wx (g:Gr) (p:Nat→Int) (s:Lb) (hp:List Tg) {l:List Nat} {i a:Nat} (h:l[i]? = some a):goP g p s hp (l.take (i+1))=I5 (goP g p s hp (l.take i)) (I4 g p a):=by
 unfold goP
 rw [Eo h,List.map_append,List.foldl_append]; rfl
/-- The blocks that going on turns. -/
abbrev GB (od oh n:Nat) (s:Lb) (bh:Nat) (a:Option Addr) (hn c:Nat) (full:List Value):List (Nat × Obj):=(od,Bl 2 (BE s.d n))::(oh,Bl 3 (BE (N6 s) n))::HB bh a hn c full
structure GSt where
 i:Nat
 a:Option Addr
 hn:Nat
 c:Nat
 full:List Value
 L:List Tg

set_option maxRecDepth 20000 in
set_option maxHeartbeats 8000000 in
theorem Ym {w:World} {bf oo od oh ob n:Nat} {s:Lb} {g:Gr} {p:Nat→Int} {bh:Nat} {a:Option Addr} {hn c:Nat} {full:List Value} {L:List Tg} {La:List Nat} {au:Option Addr} {cu u:Nat} {outs:List Value} (H0:Ctx w ((GB od oh n s bh a hn c full).map (·.1)) w (GB od oh n s bh a hn c full)) (O:OS a hn c 2 full (L.flatMap ED)) (hH:HeapL L)
  (hf:w.heap[bf]? = some (Bl 224 (FB oo od oh ob n))) (hfn:bf∉(GB od oh n s bh a hn c full).map (·.1)) (ho:w.heap[oo]? = some (Bl 230 outs)) (hon:oo∉(GB od oh n s bh a hn c full).map (·.1)) (hou:outs[u]? = some (.slice au La.length cu)) (hun:u<n)
  (R:Rd w au 4 (Gl g p) La) (hRn:La≠[]→(adr au).block∉(GB od oh n s bh a hn c full).map (·.1)) (hn6:n≤1000000) (hLa:∀ x∈La,g.u x=u∧g.v x<n ∧ -1152921504606846976≤g.len p x∧g.len p x≤1152921504606846976) (hhn:hn+La.length≤100000000)
  (hbd:∀ k x,k≤La.length → -1≤(goP g p s L (La.take k)).1.d x∧(goP g p s L (La.take k)).1.d x≤1152921504606846976∧(goP g p s L (La.take k)).1.h x≤1000000) :
  Ret Tryz.prog 194 #[ptr bf,ptr bh,.int .i64 (u:Int)] w fun v w'=>v = .tuple #[]∧∃ (a':Option Addr) (hn' c':Nat) (full':List Value) (L':List Tg),L'.Perm (goP g p s L La).2∧HeapL L'∧OS a' hn' c' 2 full' (L'.flatMap ED)∧Ctx w ((GB od oh n s bh a hn c full).map (·.1)) w' (GB od oh n (goP g p s L La).1 bh a' hn' c' full'):=by
 obtain ⟨w0,rfl⟩:∃ w0,w0=w:=⟨_,rfl⟩
 obtain ⟨ids,hids⟩:∃ ids,ids=(GB od oh n s bh a hn c full).map (·.1):=⟨_,rfl⟩
 rw [← hids] at H0 hfn hon hRn ⊢
 have H:=H0
 refine A9 (fn:=Tryz.f194) Tryz.func194 rfl [.pointer (some ⟨bf,0,none⟩),.pointer (some ⟨bh,0,none⟩),.int .i64 (u:Int)] rfl (by kernel_rfl) ?_
 refine Af (A2 rfl rfl (AJ rfl rfl (Ah rfl K5 rfl (Bb rfl Pm rfl ((by rw [Ay hf]; rfl)) ?_))))
 refine Ad rfl rfl (Bg rfl Lg Lh rfl rfl (by omega) (by omega) ?_)
 refine Bb rfl Sa rfl ((by rw [Ay ho]; simpa using hou)) ?_
 refine AV rfl Kc rfl (Ad rfl rfl (Ab (Aa (Au (Bf 9444732965739290296704 (α:=GSt) (fun t=>[(17,.int .i64 (t.i:Int))]) (fun t w'=>t.i≤La.length∧t.L.Perm (goP g p s L (La.take t.i)).2∧HeapL t.L∧t.hn≤hn+t.i∧OS t.a t.hn t.c 2 t.full (t.L.flatMap ED)∧Ctx w0 ids w' (GB od oh n (goP g p s L (La.take t.i)).1 bh t.a t.hn t.c t.full)) (fun t=>La.length - t.i) ⟨0,a,hn,c,full,L⟩ rfl ?_ ?_ ?_)))))
 ·exact ⟨rfl,trivial⟩
 ·exact ⟨Nat.zero_le _,.refl _,hH,Nat.le_refl _,O,H⟩
 ·rintro ⟨i,a,hk,c,full,L'⟩ j w ⟨hi,hp,hH,hkn,O,H⟩; dsimp only at hi hp hH hkn O H; dsimp only
  obtain ⟨si,hsi⟩:∃ si,si=(goP g p s L (La.take i)).1:=⟨_,rfl⟩
  obtain ⟨hi2,hhi2⟩:∃ q,q=(goP g p s L (La.take i)).2:=⟨_,rfl⟩
  have hgi:goP g p s L (La.take i)=(si,hi2):=by rw [hsi,hhi2]
  rw [← hsi] at H
  rw [← hhi2] at hp
  refine Af (AZ rfl rfl rfl (Ab (Aa (An (Aq _ rfl ?_ ?_)))))
  ·intro h1
   replace h1:=AF h1
   obtain ⟨x,hxa⟩:=A0 (l:=La) (i:=i) (by omega)
   obtain ⟨hxu,hxv,hl1,hl2⟩:=hLa x (List.mem_of_getElem? hxa)
   have hsn:=Wx g p s L hxa
   rw [hgi] at hsn
   have hbu:=hbd i u hi
   have hbv:=hbd i (g.v x) hi
   rw [hgi] at hbu hbv
   dsimp only at hbu hbv
   obtain ⟨v,hv⟩:∃ v,v=g.v x:=⟨_,rfl⟩
   obtain ⟨ln,hln⟩:∃ ln,ln=g.len p x:=⟨_,rfl⟩
   have hrow:Gl g p x=[.int .i64 (x:Int),.int .i64 (u:Int),.int .i64 (v:Int),.int .i64 ln]:=by unfold Gl; rw [hxu,hv,hln]
   rw [← hv] at hxv hbv
   rw [← hln] at hl1 hl2
   have hne:La≠[]:=fun h=>by rw [h] at hxa; cases hxa
   refine Ao (Aa (An (Au (Af (AK R rfl Kc GO rfl rfl (by omega) (by omega) (by rfl) ?_)))))
   refine Cv _ rfl RZ GO rfl rfl (Rd.rowE (R.ext H.ext (hRn hne)) hxa hrow rfl) ?_
   refine Bj rfl Jk H ?_
   rintro b7 w - H
   refine B5 rfl GO rfl rfl rfl (by simp [Bm]) H at0 rfl ?_
   rintro w H
   refine Ab (Aa ?_)
   have K0:∀ {z},Ext ids w0 z→z.heap[bf]? = some (Bl 224 (FB oo od oh ob n)):=fun hz=>hz.to hf hfn
   obtain ⟨du,hdu⟩:∃ du,du=si.d u:=⟨_,rfl⟩
   obtain ⟨hu,hhu⟩:∃ hu,hu=si.h u:=⟨_,rfl⟩
   have hgd:(tab si.d n)[u]? = some du:=by rw [BN hun,hdu]
   have hgh:(tab (N6 si) n)[u]? = some (hu:Int):=by rw [BN hun,hhu]; rfl
   have har:I4 g p x=(u,v,ln):=by unfold I4; rw [hxu,← hv,← hln]
   rw [← hdu,← hhu] at hbu
   have RD:=Cs (H.drew.get at1)
   refine DE (fun x=>x=_) B0 (by kernel_rfl) rfl ?_
   refine BS rfl rfl (Bh rfl rfl (A7 rfl Eb rfl (BR rfl BX rfl (by rintro _ rfl; exact ((by rw [Ay (K0 H.drew.ext)]; rfl))) ?_)))
   refine AP rfl rfl (AY rfl AO Bu rfl rfl (by omega) (by omega) ?_)
   refine BR rfl Bt rfl (by rintro _ rfl; exact ((RD.fld hgd rfl (j:=0) rfl))) ?_
   refine A7 rfl ML rfl (Cd rfl Bt rfl (by rintro _ rfl; exact H.drew) at0 rfl ?_)
   refine C7 rfl rfl rfl (by omega) (by omega) ?_
   refine C8 rfl rfl (BJ ?_)
   rintro _ rfl
   replace H:=H.drew
   have RH:=Cs (H.drew.get at2)
   refine DK 12 B0 (by kernel_rfl) rfl rfl ?_
   refine BS rfl rfl (A7 rfl Fh rfl (Cd rfl BV rfl (by rintro _ rfl; exact H.drew) at0 rfl ?_))
   refine AP rfl rfl (BS rfl rfl (Bh rfl rfl (A7 rfl GM rfl (BR rfl F9 rfl (by rintro _ rfl; exact ((by rw [Ay (K0 H.drew.ext)]; rfl))) ?_))))
   refine AP rfl rfl (AY rfl DX Fs rfl rfl (by omega) (by omega) ?_)
   refine BR rfl BV rfl (by rintro _ rfl; exact ((RH.fld hgh rfl (j:=0) rfl))) ?_
   refine C7 rfl rfl rfl (by omega) (by omega) ?_
   rw [show (hu:Int)+1=((hu+1:Nat):Int) by omega]
   refine BJ ?_
   replace H:=H.drew
   refine Am rfl Aa7 (Uw (K0 H.ext) (H.get at1) (H.get at2) v hxv hn6 (du+ln) (hu+1)) rfl ?_
   rintro rv w ⟨rfl,rfl⟩
   refine Ab (Aa (Aq _ rfl ?_ ?_))
   ·intro h2
    have h2':DQ si v (du+ln) (hu+1):=by simpa using h2
    have hS:Gi si (I4 g p x)=GQ si v (du+ln) (hu+1):=by rw [har]; unfold Gi; dsimp only; rw [← hdu,← hhu,if_pos h2']
    have hHH:Hz si (I4 g p x) hi2=(du+ln,v)::hi2:=by rw [har]; unfold Hz; dsimp only; rw [← hdu,← hhu,if_pos h2']
    refine CP [([0,1,2,3,4,5,6,7,8,9,10,11,12,13,14,15,16,17,18,19,20,21],22),([23],24)] (fun z=>z.heap[bf]? = some (Bl 224 (FB oo od oh ob n))∧z.heap[b7]? = some (Bl 229 [.int .i64 (x:Int),.int .i64 (u:Int),.int .i64 (v:Int),.int .i64 ln])∧z.heap[oh]? = some (Bl 3 (BE (N6 si) n))) [24] B0 (by kernel_rfl) (⟨K0 H.drew.ext,H.drew.get at0,H.drew.get at2⟩) ?_
    refine AU rfl rfl ?_
    refine Ch rfl rfl (B3 rfl rfl (AH rfl Eb rfl (BP rfl BX rfl (fun _ hx=>(by rw [Ay hx.1]; rfl)) ?_)))
    refine AH rfl Fh rfl (BP rfl BV rfl (fun _ hx=>(by rw [Ay hx.2.1]; rfl)) ?_)
    refine Ch rfl rfl (B3 rfl rfl (AH rfl GM rfl (BP rfl F9 rfl (fun _ hx=>(by rw [Ay hx.1]; rfl)) ?_)))
    refine AH rfl Fh rfl (BP rfl BV rfl (fun _ hx=>(by rw [Ay hx.2.1]; rfl)) ?_)
    refine AS rfl rfl (Ch rfl rfl (B3 rfl rfl (AH rfl GM rfl (BP rfl F9 rfl (fun _ hx=>(by rw [Ay hx.1]; rfl)) ?_))))
    refine AS rfl rfl (AM rfl DX Fs rfl rfl (by omega) (by omega) ?_)
    refine BP rfl BV rfl (fun _ hx=>((Cs hx.2.2).fld hgh rfl (j:=0) rfl)) ?_
    refine Ep rfl rfl rfl (by omega) (by omega) ?_
    rw [show (hu:Int)+1=((hu+1:Nat):Int) by omega]
    refine AM rfl AO Bu rfl rfl (by omega) (by omega) ?_
    refine Ba ?_
    replace H:=H.drew
    refine BU v (fun q => .int .i64 ((GQ si v (du+ln) (hu+1)).d q)) (.int _ _) rfl Bu rfl rfl rfl H at1 (by simp) (by omega) (by show Value.int _ (if v=v then _ else _)=_; rw [if_pos rfl]) (fun q _ hq=>by show Value.int _ (if q=v then _ else _)=_; rw [if_neg hq]) ?_
    rintro w H
    refine Ab (BL (⟨K0 H.ext,H.get at0,H.get at2⟩) (AU rfl rfl ?_))
    refine AM rfl DX Fs rfl rfl (by omega) (by omega) ?_
    refine Ba (BU v (fun q => .int .i64 (N6 (GQ si v (du+ln) (hu+1)) q)) (.int _ _) rfl Fs rfl rfl rfl H at2 (by simp) (by omega) (by show Value.int _ (((if v=v then _ else _:Nat)):Int)=_; rw [if_pos rfl]) (fun q _ hq=>by show Value.int _ (((if q=v then _ else _:Nat)):Int)=_; rw [if_neg hq]; rfl) ?_)
    rintro w H
    refine Ab (BW rfl (BO (Av (A2 rfl rfl (Ad rfl rfl (Ah rfl Fh rfl (AN rfl BV rfl H at0 rfl ?_)))))))
    have Hc:=Ctx.comm (L:=[_,_,_]) (L':=HB bh a hk c full) H
    refine Am rfl VM (T7 (Ctx.lend (L1:=HB bh a hk c full) (L2:=[_,_,_]) Hc) O (by omega) hH (du+ln) v) rfl ?_
    rintro rv w ⟨rfl,a',c',f',L2,hp2,hH2,O2,H2⟩
    replace H:=Ctx.comm (L:=HB bh a' (hk+1) c' f') (L':=[_,_,_]) (Ctx.back (L1:=HB bh a hk c full) (L2:=[_,_,_]) Hc H2)
    refine Ab (A5 (Aa (Av (Ap rfl rfl rfl (by omega) (by omega) ?_))))
    refine Ad rfl rfl (Ab (Aa ?_))
    refine ⟨⟨i+1,a',hk+1,c',f',L2⟩,rfl,⟨rfl,trivial⟩,⟨by dsimp only; omega,?_,hH2,by dsimp only; omega,O2,?_⟩,by dsimp only; omega⟩
    ·dsimp only; rw [hsn]; show L2.Perm (Hz si (I4 g p x) hi2); rw [hHH]; exact hp2.trans (hp.cons _)
    ·dsimp only; rw [hsn]; show Ctx w0 ids w (GB od oh n (Gi si (I4 g p x)) bh a' (hk+1) c' f'); rw [hS]; exact H.tail
   ·intro h2
    have h2':¬ DQ si v (du+ln) (hu+1):=by simpa using h2
    have hS:Gi si (I4 g p x)=si:=by rw [har]; unfold Gi; dsimp only; rw [← hdu,← hhu,if_neg h2']
    have hHH:Hz si (I4 g p x) hi2=hi2:=by rw [har]; unfold Hz; dsimp only; rw [← hdu,← hhu,if_neg h2']
    refine Ao (A5 (Aa (Av (Ap rfl rfl rfl (by omega) (by omega) ?_))))
    refine Ad rfl rfl (Ab (Aa ?_))
    refine ⟨⟨i+1,a,hk,c,full,L'⟩,rfl,⟨rfl,trivial⟩,⟨by dsimp only; omega,?_,hH,by dsimp only; omega,O,?_⟩,by dsimp only; omega⟩
    ·dsimp only; rw [hsn]; show L'.Perm (Hz si (I4 g p x) hi2); rw [hHH]; exact hp
    ·dsimp only; rw [hsn]; show Ctx w0 ids _ (GB od oh n (Gi si (I4 g p x)) bh a hk c full); rw [hS]; exact H.tail
  ·intro h1
   replace h1:=AG h1
   refine Bc (Ak (Ak (AD (Db rfl rfl ?_))))
   obtain rfl:i=La.length:=by omega
   rw [List.take_length] at hsi hhi2
   rw [hsi] at H
   rw [hhi2] at hp
   exact ⟨rfl,a,hk,c,full,L',hp,hH,O,H⟩

end Go.Proofs.YtapphbmlkdhnmaaGreat

/- Shortest ways: where they begin, and each node's last arc: the walks. -/
namespace Go.Proofs.YtapphbmlkdhnmaaGreat
open Go.GV
attribute [local irreducible] AL W Wq Wt

abbrev NBl (od n:Nat) (s:Lb) (bh:Nat) (a:Option Addr) (hn c:Nat) (full:List Value):List (Nat × Obj):=(od,Bl 2 (BE s.d n))::HB bh a hn c full
def I6 (src:List Nat):List Tg:=src.map fun v=>(0,v)
theorem Q7 {src:List Nat} {i v:Nat} (h:src[i]? = some v) (x:Nat):(lb0 (src.take (i+1))).d x=if x=v then 0 else (lb0 (src.take i)).d x:=by
 unfold lb0
 dsimp only
 rw [Eo h]
 by_cases e:x=v
 ·subst e; simp
 ·simp [e]

set_option maxRecDepth 20000 in
set_option maxHeartbeats 4000000 in
theorem Wy {w:World} {bf oo od oh ob n:Nat} {bh:Nat} {c:Nat} {src:List Nat} {fr:Option Addr} {fc:Nat} (H0:Ctx w ((NBl od n (lb0 []) bh none 0 c []).map (·.1)) w (NBl od n (lb0 []) bh none 0 c [])) (O:OS none 0 c 2 [] (([]:List Tg).flatMap ED))
  (hf:w.heap[bf]? = some (Bl 224 (FB oo od oh ob n))) (hfn:bf∉(NBl od n (lb0 []) bh none 0 c []).map (·.1)) (R:Rd w fr 1 I1 (src.map fun v:Nat=>(v:Int))) (hRn:src≠[]→(adr fr).block∉(NBl od n (lb0 []) bh none 0 c []).map (·.1)) (hn6:n≤1000000) (hsrc:∀ v∈src,v<n) (hnd:src.Nodup) (hsl:src.length≤1000000) :
  Ret Tryz.prog 191 #[ptr bf,ptr bh,.slice fr src.length fc] w fun v w'=>v = .bool (decide (0<src.length))∧∃ (a':Option Addr) (c':Nat) (full':List Value) (L':List Tg),L'.Perm (I6 src)∧HeapL L'∧OS a' src.length c' 2 full' (L'.flatMap ED)∧Ctx w ((NBl od n (lb0 []) bh none 0 c []).map (·.1)) w' (NBl od n (lb0 src) bh a' src.length c' full'):=by
 obtain ⟨w0,rfl⟩:∃ w0,w0=w:=⟨_,rfl⟩
 obtain ⟨ids,hids⟩:∃ ids,ids=(NBl od n (lb0 []) bh none 0 c []).map (·.1):=⟨_,rfl⟩
 rw [← hids] at H0 hfn hRn ⊢
 have H:=H0
 refine A9 (fn:=Tryz.f191) Tryz.func191 rfl [.pointer (some ⟨bf,0,none⟩),.pointer (some ⟨bh,0,none⟩),.slice fr src.length fc] rfl (by kernel_rfl) ?_
 refine Af (Ai rfl rfl (Ab (Aa (An (Af (Aj rfl rfl (AV rfl DX rfl (Ad rfl rfl (Ab (Aa (Au ?_)))))))))))
 refine Bf 17592186042688 (α:=Option Addr × Nat × List Value × List Tg × Nat) (fun t=>[(11,.int .i64 (t.2.2.2.2:Int))]) (fun t w'=>t.2.2.2.2≤src.length∧t.2.2.2.1.Perm (I6 (src.take t.2.2.2.2))∧HeapL t.2.2.2.1∧OS t.1 t.2.2.2.2 t.2.1 2 t.2.2.1 (t.2.2.2.1.flatMap ED)∧Ctx w0 ids w' (NBl od n (lb0 (src.take t.2.2.2.2)) bh t.1 t.2.2.2.2 t.2.1 t.2.2.1)) (fun t=>src.length - t.2.2.2.2) (none,c,[],[],0) rfl ?_ ?_ ?_
 ·exact ⟨rfl,trivial⟩
 ·exact ⟨Nat.zero_le _,.refl _,fun i x y _ h=>(by cases h),O,H⟩
 ·rintro ⟨a,c,full,L,i⟩ j w ⟨hi,hp,hH,O,H⟩; dsimp only at hi hp hH O H; dsimp only
  refine Af (AZ rfl rfl rfl (Ab (Aa (An (Aq _ rfl ?_ ?_)))))
  ·intro h1
   replace h1:=AF h1
   obtain ⟨v,hv⟩:=A0 (l:=src) (i:=i) (by omega)
   have hvn:=hsrc v (List.mem_of_getElem? hv)
   have hvm:(src.map fun v:Nat=>(v:Int))[i]? = some (v:Int):=by rw [List.getElem?_map,hv]; rfl
   have hne:src≠[]:=fun h=>by rw [h] at hv; cases hv
   have hnot:v∉src.take i:=fun hm=>by
    obtain ⟨k,hk⟩:=List.getElem?_of_mem hm
    rw [List.getElem?_take] at hk
    split at hk
    ·have hkl:=Cr hk
     obtain ⟨h1,h2⟩:=List.getElem?_eq_some_iff.1 hk
     obtain ⟨h3,h4⟩:=List.getElem?_eq_some_iff.1 hv
     have:=(List.getElem_inj hnd).1 (h2.trans h4.symm)
     omega
    ·cases hk
   have hdv:(lb0 (src.take i)).d v = -1:=if_neg hnot
   have hlm:(src.map fun v:Nat=>(v:Int)).length=src.length:=by rw [List.length_map]
   have hgd:(tab (lb0 (src.take i)).d n)[v]? = some (-1):=by rw [BN hvn,hdv]
   refine Ao (Aa (An (Au (Af (AK R rfl DX Fs rfl rfl (by omega) (by omega) (by omega) ?_)))))
   refine Bb rfl BV rfl (((R.ext H.ext (hRn hne)).fld hvm rfl (j:=0) rfl)) ?_
   refine Ae rfl rfl (Ab (Aa (An (Af (Ad rfl rfl (AZ rfl rfl rfl (Aw rfl rfl (AE 17 rfl ?_ ?_))))))))
   ·intro h2
    replace h2:=AF h2
    omega
   ·intro h2
    replace h2:=AG h2
    refine Ad rfl rfl (A2 rfl rfl (AJ rfl rfl (Ah rfl Eb rfl (Bb rfl BX rfl ((by rw [Ay (H.ext.to hf hfn)]; rfl)) ?_))))
    refine AV rfl AO rfl (Cx rfl rfl rfl (A6 rfl rfl (.bool _) rfl (Ab (Aa (Aq _ rfl ?_ ?_)))))
    ·intro h3
     replace h3:=AF h3
     omega
    ·intro h3
     replace h3:=AG h3
     refine Ao (Aa (Af (A2 rfl rfl (AJ rfl rfl (Ah rfl Eb rfl (Bb rfl BX rfl ((by rw [Ay (H.ext.to hf hfn)]; rfl)) ?_))))))
     refine Ad rfl rfl (Bg rfl AO Bu rfl rfl (by omega) (by omega) ?_)
     refine Bb rfl Bt rfl (((Cs (H.get at0)).fld hgd rfl (j:=0) rfl)) ?_
     refine Cp rfl rfl rfl (Ab (Aa (Aq _ rfl ?_ ?_)))
     ·intro h4
      replace h4:=CY h4
      refine Af (A2 rfl rfl (AJ rfl rfl (Ah rfl Eb rfl (Bb rfl BX rfl ((by rw [Ay (H.ext.to hf hfn)]; rfl)) ?_))))
      refine Ad rfl rfl (Bg rfl AO Bu rfl rfl (by omega) (by omega) ?_)
      refine BU v (fun q => .int .i64 ((lb0 (src.take (i+1))).d q)) (.int _ _) rfl Bu rfl rfl rfl H at0 (by simp) (by omega) (by rw [Q7 hv,if_pos rfl]) (fun q _ hq=>by rw [Q7 hv,if_neg hq]) ?_
      rintro w H
      refine Ab (Aa (Av (A2 rfl rfl (Ad rfl rfl ?_))))
      have Hc:=Ctx.comm (L:=[_]) (L':=HB bh a i c full) H
      refine Am rfl VM (T7 (Ctx.lend (L1:=HB bh a i c full) (L2:=[_]) Hc) O (by omega) hH 0 v) rfl ?_
      rintro rv w ⟨rfl,a',c',f',L2,hp2,hH2,O2,H2⟩
      replace H:=Ctx.comm (L:=HB bh a' (i+1) c' f') (L':=[_]) (Ctx.back (L1:=HB bh a i c full) (L2:=[_]) Hc H2)
      refine Ab (A5 (Aa (Av (Ap rfl rfl rfl (by omega) (by omega) ?_))))
      refine Ad rfl rfl (Ab (Aa ?_))
      refine ⟨(a',c',f',L2,i+1),rfl,⟨rfl,trivial⟩,⟨by dsimp only; omega,?_,hH2,O2,H⟩,by dsimp only; omega⟩
      dsimp only
      unfold I6 at hp ⊢
      rw [Eo hv,List.map_append]
      exact hp2.trans ((hp.cons _).trans (List.perm_append_singleton _ _).symm)
     ·intro h4
      replace h4:=CZ h4
      omega
  ·intro h1
   replace h1:=AG h1
   refine Bc (Ak (Ak (AD (Aa (Af (Aj rfl rfl (AV rfl DX rfl (Ck rfl rfl rfl (Ai rfl rfl (Ab (Aa (A8 (AB (v:=(.bool _)) rfl rfl rfl ?_)))))))))))))
   obtain rfl:i=src.length:=by omega
   rw [List.take_length] at hp H
   exact ⟨congrArg Value.bool (by rw [Bool.eq_iff_iff]; simp),a,c,full,L,hp,hH,O,H⟩

/-- An arc over which a best way may come. -/
def KF (g:Gr) (p:Nat→Int) (s:Lb) (a:Nat):Prop:=s.d (g.u a) ≠ -1∧s.h (g.v a)≠0∧s.d (g.u a)+g.len p a=s.d (g.v a)∧s.h (g.u a)+1=s.h (g.v a)
/-- What is known of each node's last arc, of those that were looked at. -/
structure BI (g:Gr) (p:Nat→Int) (s:Lb) (all done:Nat→Prop) (by':Nat→Int):Prop where
 val:∀ v,by' v = -1∨∃ a:Nat,by' v=(a:Int)∧all a∧KF g p s a∧g.v a=v
 in':∀ a,done a→KF g p s a→by' (g.v a) ≠ -1
theorem BI.skip {g:Gr} {p:Nat→Int} {s:Lb} {all done:Nat→Prop} {by':Nat→Int} (B:BI g p s all done by') {a:Nat} (h:¬ KF g p s a∨by' (g.v a) ≠ -1):BI g p s all (fun x=>x=a∨done x) by' :=
 ⟨B.val,fun x hx hg=>by
  rcases hx with rfl | hx
  ·exact h.resolve_left fun h=>h hg
  ·exact B.in' x hx hg⟩
theorem BI.put {g:Gr} {p:Nat→Int} {s:Lb} {all done:Nat→Prop} {by':Nat→Int} (B:BI g p s all done by') {a:Nat} (ha:all a) (hg:KF g p s a):BI g p s all (fun x=>x=a∨done x) (upd by' (g.v a) (a:Int)):=by
 refine ⟨fun v=>?_,fun x hx hgx=>?_⟩
 ·by_cases e:v=g.v a
  ·subst e; exact .inr ⟨a,CT _ _ _,ha,hg,rfl⟩
  ·rw [DG e]; exact B.val v
 ·by_cases e:g.v x=g.v a
  ·rw [e,CT]; omega
  ·rw [DG e]
   rcases hx with rfl | hx
   ·exact absurd rfl e
   ·exact B.in' x hx hgx
theorem BI.congr {g:Gr} {p:Nat→Int} {s:Lb} {all done done':Nat→Prop} {by':Nat→Int} (B:BI g p s all done by') (h:∀ x,done' x→done x):BI g p s all done' by':=⟨B.val,fun a ha=>B.in' a (h a ha)⟩

set_option maxRecDepth 20000 in
set_option maxHeartbeats 8000000 in
theorem Wz {w:World} {bf oo od oh ob n:Nat} {s:Lb} {g:Gr} {p:Nat→Int} {outs:List Value} {outL:Nat→List Nat} (hb:w.heap[ob]? = some (Bl 3 (BE (fun _ => -1) n))) (hf:w.heap[bf]? = some (Bl 224 (FB oo od oh ob n))) (hd:w.heap[od]? = some (Bl 2 (BE s.d n))) (hh:w.heap[oh]? = some (Bl 3 (BE (N6 s) n))) (ho:w.heap[oo]? = some (Bl 230 outs))
  (nf:bf≠ob) (nd:od≠ob) (nh:oh≠ob) (no:oo≠ob) (hn6:n≤1000000) (hsd:∀ v,-1≤s.d v∧s.d v≤1152921504606846976∧s.h v≤1000000)
  (hout:∀ u,u<n→∃ au cu,outs[u]? = some (.slice au (outL u).length cu)∧Rd w au 4 (Gl g p) (outL u)∧(outL u≠[]→(adr au).block≠ob)∧(outL u).length≤1000000∧∀ x∈outL u,g.u x=u∧g.v x<n ∧ -1152921504606846976≤g.len p x∧g.len p x≤1152921504606846976∧x≤1000000) :
  Ret Tryz.prog 195 #[ptr bf] w fun v w'=>v = .tuple #[]∧∃ by':Nat→Int,BI g p s (fun a=>a∈outL (g.u a)) (fun a=>g.u a<n∧a∈outL (g.u a)) by'∧Ctx w [ob] w' [(ob,Bl 3 (BE by' n))]:=by
 obtain ⟨w0,rfl⟩:∃ w0,w0=w:=⟨_,rfl⟩
 have H:=Ctx.start1 hb
 have nf':bf∉[ob]:=by rw [List.mem_singleton]; exact nf
 have nd':od∉[ob]:=by rw [List.mem_singleton]; exact nd
 have nh':oh∉[ob]:=by rw [List.mem_singleton]; exact nh
 have no':oo∉[ob]:=by rw [List.mem_singleton]; exact no
 refine A9 (fn:=Tryz.f195) Tryz.func195 rfl [.pointer (some ⟨bf,0,none⟩)] rfl (by kernel_rfl) ?_
 refine Af (A2 rfl rfl (AJ rfl rfl (Ah rfl K5 rfl (Bb rfl Pm rfl ((by rw [Ay hf]; rfl)) ?_))))
 refine AV rfl Lg rfl (Ad rfl rfl (Ab (Aa (Au (Bf 649037107316853453566312041148524 (α:=Nat × (Nat→Int)) (fun t=>[(12,.int .i64 (t.1:Int))]) (fun t w'=>t.1≤n∧BI g p s (fun a=>a∈outL (g.u a)) (fun a=>g.u a<t.1∧a∈outL (g.u a)) t.2∧Ctx w0 [ob] w' [(ob,Bl 3 (BE t.2 n))]) (fun t=>n - t.1) (0,fun _ => -1) rfl ?_ ?_ ?_)))))
 ·exact ⟨rfl,trivial⟩
 ·exact ⟨Nat.zero_le _,⟨fun v => .inl rfl,fun a h=>absurd h.1 (Nat.not_lt_zero _)⟩,H⟩
 ·rintro ⟨u,by'⟩ j w ⟨hi,B,H⟩; dsimp only at hi B H; dsimp only
  refine Af (AZ rfl rfl rfl (Ab (Aa (An (Aq _ rfl ?_ ?_)))))
  ·intro h1
   replace h1:=AF h1
   obtain ⟨au,cu,hou,R,hRn,hul,hx7⟩:=hout u (by omega)
   refine Ao (Aa (An (Au (Af (Ad rfl rfl (Bg rfl Lg Lh rfl rfl (by omega) (by omega) ?_))))))
   refine Bb rfl Sa rfl ((by rw [Ay (H.ext.to ho no')]; simpa using hou)) ?_
   refine Ae rfl rfl (Az rfl rfl (Ab (Aa (Af (Aj rfl rfl (AV rfl Kc rfl (Ad rfl rfl (Ab (Aa (Au ?_))))))))))
   obtain ⟨La,hLa⟩:∃ La,La=outL u:=⟨_,rfl⟩
   rw [← hLa] at R hRn hul hx7 ⊢
   refine Bf 324518553658426726783156020052064 (α:=Nat × (Nat→Int)) (fun t=>[(19,.int .i64 (t.1:Int))]) (fun t w'=>t.1≤La.length∧BI g p s (fun a=>a∈outL (g.u a)) (fun a=>(g.u a<u∧a∈outL (g.u a))∨a∈La.take t.1) t.2∧Ctx w0 [ob] w' [(ob,Bl 3 (BE t.2 n))]) (fun t=>La.length - t.1) (0,by') rfl ?_ ?_ ?_
   ·exact ⟨rfl,trivial⟩
   ·exact ⟨Nat.zero_le _,B.congr (fun x hx=>hx.elim id fun h=>by simp at h),H⟩
   ·rintro ⟨i,by'⟩ j2 w ⟨hi2,B,H⟩; dsimp only at hi2 B H; dsimp only
    refine Af (AZ rfl rfl rfl (Ab (Aa (An (Aq _ rfl ?_ ?_)))))
    ·intro h2
     replace h2:=AF h2
     obtain ⟨x,hxa⟩:=A0 (l:=La) (i:=i) (by omega)
     obtain ⟨hxu,hxv,hl1,hl2,hx6⟩:=hx7 x (List.mem_of_getElem? hxa)
     obtain ⟨v,hv⟩:∃ v,v=g.v x:=⟨_,rfl⟩
     obtain ⟨ln,hln⟩:∃ ln,ln=g.len p x:=⟨_,rfl⟩
     have hrow:Gl g p x=[.int .i64 (x:Int),.int .i64 (u:Int),.int .i64 (v:Int),.int .i64 ln]:=by unfold Gl; rw [hxu,hv,hln]
     rw [← hv] at hxv
     rw [← hln] at hl1 hl2
     have hne:La≠[]:=fun h=>by rw [h] at hxa; cases hxa
     have hau:(adr au).block∉[ob]:=by rw [List.mem_singleton]; exact hRn hne
     have hun:u<n:=by omega
     obtain ⟨du,hdu⟩:∃ du,du=s.d u:=⟨_,rfl⟩
     obtain ⟨hu,hhu⟩:∃ hu,hu=s.h u:=⟨_,rfl⟩
     obtain ⟨dv,hdv⟩:∃ dv,dv=s.d v:=⟨_,rfl⟩
     obtain ⟨hw,hhw⟩:∃ hw,hw=s.h v:=⟨_,rfl⟩
     have hgdu:(tab s.d n)[u]? = some du:=by rw [BN hun,hdu]
     have hghu:(tab (N6 s) n)[u]? = some (hu:Int):=by rw [BN hun,hhu]; rfl
     have hgdv:(tab s.d n)[v]? = some dv:=by rw [BN hxv,hdv]
     have hghv:(tab (N6 s) n)[v]? = some (hw:Int):=by rw [BN hxv,hhw]; rfl
     have hbu:=hsd u
     rw [← hdu,← hhu] at hbu
     have hgo:KF g p s x↔(du ≠ -1∧hw≠0∧du+ln=dv∧hu+1=hw):=by
      unfold KF
      rw [hxu,← hv,← hln,← hdu,← hhu,← hdv,← hhw]
     have hall:x∈outL (g.u x):=by rw [hxu,← hLa]; exact List.mem_of_getElem? hxa
     have hsub:∀ y,((g.u y<u∧y∈outL (g.u y))∨y∈La.take (i+1))→y=x∨((g.u y<u∧y∈outL (g.u y))∨y∈La.take i):=fun y hy=>by
      rcases hy with hy | hy
      ·exact .inr (.inl hy)
      ·rw [Eo hxa] at hy
       rcases List.mem_append.1 hy with hy | hy
       ·exact .inr (.inr hy)
       ·exact .inl (List.mem_singleton.1 hy)
     have RD:=Cs hd
     have RH:=Cs hh
     refine Ao (Aa (An (Au (Af (AK R rfl Kc GO rfl rfl (by omega) (by omega) (by rfl) ?_)))))
     refine Cv _ rfl RZ GO rfl rfl (Rd.rowE (R.ext H.ext hau) hxa hrow rfl) ?_
     refine Bj rfl Jk H ?_
     rintro b5 w - H
     refine B5 rfl GO rfl rfl rfl (by simp [Bm]) H at0 rfl ?_
     rintro w H
     refine Ab (Aa (An (El 4835703278458516690436096 (α:=Unit) (fun _=>[(81,.bool (!decide (du ≠ -1∧hw≠0∧du+ln=dv∧hu+1=hw)))]) (fun _ w'=>Ctx w0 [ob] w' [(b5,Bl 229 [.int .i64 (x:Int),.int .i64 (u:Int),.int .i64 (v:Int),.int .i64 ln]),(ob,Bl 3 (BE by' n))]) rfl ?_ ?_)))
     ·skip
      refine Pa (fun x=>x=_) B0 (by kernel_rfl) rfl ?_
      refine BS rfl rfl (Bh rfl rfl (A7 rfl Eb rfl (BR rfl BX rfl (by rintro _ rfl; exact ((by rw [Ay (H.drew.ext.to hf nf')]; rfl))) ?_)))
      refine AP rfl rfl (AY rfl AO Bu rfl rfl (by omega) (by omega) ?_)
      refine BR rfl Bt rfl (by rintro _ rfl; exact (((RD.ext H.drew.ext nd').fld hgdu rfl (j:=0) rfl))) ?_
      refine Th rfl rfl rfl (CW rfl rfl (Dg 31 rfl ?_ ?_))
      ·intro h1
       replace h1:=AF h1
       refine Ax rfl (Ax rfl (Ax rfl (Ax rfl (Ax rfl (Ax rfl (Ax rfl (Ax rfl (Ax rfl (FX rfl rfl (.bool _) rfl ?_)))))))))
       refine CW rfl rfl (Ax rfl (Ax rfl (Ax rfl (Ax rfl (Ax rfl (Ax rfl (Ax rfl (Ax rfl (Ax rfl ?_)))))))))
       refine Ax rfl (Ax rfl (Ax rfl (Ax rfl (Ax rfl (Ax rfl (Ax rfl (Ax rfl (Ax rfl (Ax rfl ?_)))))))))
       refine FX rfl rfl (.bool _) rfl (CW rfl rfl (Ax rfl (Ax rfl (Ax rfl (Ax rfl (Ax rfl (Ax rfl (Ax rfl (Ax rfl ?_)))))))))
       refine Ax rfl (Ax rfl (Ax rfl (Ax rfl (Ax rfl (Ax rfl (Ax rfl (Ax rfl (Ax rfl (FX rfl rfl (.bool _) rfl ?_)))))))))
       refine BJ ?_
       rintro _ rfl
       replace H:=H.drew
       refine Aa ?_
       exact ⟨(),rfl,⟨congrArg Value.bool (by clear hgdu hghu hgdv hghv hgo hdu hhu hdv hhw; rw [Bool.eq_iff_iff]; simp_all; try omega),trivial⟩,H⟩
      ·intro h2
       replace h2:=AG h2
       refine BS rfl rfl (Bh rfl rfl (A7 rfl GM rfl (BR rfl F9 rfl (by rintro _ rfl; exact ((by rw [Ay (H.drew.ext.to hf nf')]; rfl))) ?_)))
       refine A7 rfl Fh rfl (Cd rfl BV rfl (by rintro _ rfl; exact H.drew) at0 rfl ?_)
       refine AY rfl DX Fs rfl rfl (by omega) (by omega) ?_
       refine BR rfl BV rfl (by rintro _ rfl; exact (((RH.ext H.drew.ext nh').fld hghv rfl (j:=0) rfl))) ?_
       refine Th rfl rfl rfl (Gz rfl rfl (.bool _) rfl (CW rfl rfl (Dg 42 rfl ?_ ?_)))
       ·intro h3
        replace h3:=AF h3
        refine Ax rfl (Ax rfl (Ax rfl (Ax rfl (Ax rfl (Ax rfl (Ax rfl (Ax rfl (Ax rfl (Ax rfl ?_)))))))))
        refine Ax rfl (Ax rfl (Ax rfl (Ax rfl (Ax rfl (Ax rfl (Ax rfl (Ax rfl (Ax rfl (FX rfl rfl (.bool _) rfl ?_)))))))))
        refine CW rfl rfl (Ax rfl (Ax rfl (Ax rfl (Ax rfl (Ax rfl (Ax rfl (Ax rfl (Ax rfl (Ax rfl ?_)))))))))
        refine Ax rfl (Ax rfl (Ax rfl (Ax rfl (Ax rfl (Ax rfl (Ax rfl (Ax rfl (FX rfl rfl (.bool _) rfl (BJ ?_)))))))))
        rintro _ rfl
        replace H:=H.drew
        refine Aa ?_
        exact ⟨(),rfl,⟨congrArg Value.bool (by clear hgdu hghu hgdv hghv hgo hdu hhu hdv hhw; rw [Bool.eq_iff_iff]; simp_all; try omega),trivial⟩,H⟩
       ·intro h4
        replace h4:=AG h4
        refine BS rfl rfl (Bh rfl rfl (A7 rfl Eb rfl (BR rfl BX rfl (by rintro _ rfl; exact ((by rw [Ay (H.drew.ext.to hf nf')]; rfl))) ?_)))
        refine AP rfl rfl (AY rfl AO Bu rfl rfl (by omega) (by omega) ?_)
        refine BR rfl Bt rfl (by rintro _ rfl; exact (((RD.ext H.drew.ext nd').fld hgdu rfl (j:=0) rfl))) ?_
        refine A7 rfl ML rfl (Cd rfl Bt rfl (by rintro _ rfl; exact H.drew) at0 rfl ?_)
        refine C7 rfl rfl rfl (by omega) (by omega) ?_
        refine BS rfl rfl (Bh rfl rfl (A7 rfl Eb rfl (BR rfl BX rfl (by rintro _ rfl; exact ((by rw [Ay (H.drew.ext.to hf nf')]; rfl))) ?_)))
        refine A7 rfl Fh rfl (Cd rfl BV rfl (by rintro _ rfl; exact H.drew) at0 rfl ?_)
        refine AY rfl AO Bu rfl rfl (by omega) (by omega) ?_
        refine BR rfl Bt rfl (by rintro _ rfl; exact (((RD.ext H.drew.ext nd').fld hgdv rfl (j:=0) rfl))) ?_
        refine Ti rfl rfl rfl (Gz rfl rfl (.bool _) rfl (CW rfl rfl (Dg 63 rfl ?_ ?_)))
        ·intro h5
         replace h5:=CY h5
         refine Ax rfl (Ax rfl (Ax rfl (Ax rfl (Ax rfl (Ax rfl (Ax rfl (Ax rfl (Ax rfl (Ax rfl ?_)))))))))
         refine Ax rfl (Ax rfl (Ax rfl (Ax rfl (Ax rfl (Ax rfl (Ax rfl (FX rfl rfl (.bool _) rfl (BJ ?_))))))))
         rintro _ rfl
         replace H:=H.drew
         refine Aa ?_
         exact ⟨(),rfl,⟨congrArg Value.bool (by clear hgdu hghu hgdv hghv hgo hdu hhu hdv hhw; rw [Bool.eq_iff_iff]; simp_all; try omega),trivial⟩,H⟩
        ·intro h6
         replace h6:=CZ h6
         refine BS rfl rfl (Bh rfl rfl (A7 rfl GM rfl (BR rfl F9 rfl (by rintro _ rfl; exact ((by rw [Ay (H.drew.ext.to hf nf')]; rfl))) ?_)))
         refine AP rfl rfl (AY rfl DX Fs rfl rfl (by omega) (by omega) ?_)
         refine BR rfl BV rfl (by rintro _ rfl; exact (((RH.ext H.drew.ext nh').fld hghu rfl (j:=0) rfl))) ?_
         refine C7 rfl rfl rfl (by omega) (by omega) ?_
         refine BS rfl rfl (Bh rfl rfl (A7 rfl GM rfl (BR rfl F9 rfl (by rintro _ rfl; exact ((by rw [Ay (H.drew.ext.to hf nf')]; rfl))) ?_)))
         refine A7 rfl Fh rfl (Cd rfl BV rfl (by rintro _ rfl; exact H.drew) at0 rfl ?_)
         refine AY rfl DX Fs rfl rfl (by omega) (by omega) ?_
         refine BR rfl BV rfl (by rintro _ rfl; exact (((RH.ext H.drew.ext nh').fld hghv rfl (j:=0) rfl))) ?_
         refine Ti rfl rfl rfl (Gz rfl rfl (.bool _) rfl (BJ ?_))
         rintro _ rfl
         replace H:=H.drew
         refine Aa ?_
         exact ⟨(),rfl,⟨congrArg Value.bool (by clear hgdu hghu hgdv hghv hgo hdu hhu hdv hhw; rw [Bool.eq_iff_iff]; simp_all; try omega),trivial⟩,H⟩
     ·rintro - j6 w H
      refine Aq _ rfl ?_ ?_
      ·intro h3
       have hng:¬ KF g p s x:=by rw [hgo]; exact of_decide_eq_false (by simpa only [Bool.not_eq_true'] using h3)
       refine Bc (Ak (AD (Aa (Av (Ap rfl rfl rfl (by omega) (by omega) ?_)))))
       refine Ad rfl rfl (Ab (Aa ?_))
       exact ⟨(i+1,by'),rfl,⟨rfl,trivial⟩,⟨by dsimp only; omega,(B.skip (.inl hng)).congr hsub,H.tail⟩,by dsimp only; omega⟩
      ·intro h3
       have hg:KF g p s x:=by rw [hgo]; simpa using h3
       have hgb:(tab by' n)[v]? = some (by' v):=BN hxv
       have hnot:by' v ≠ -1→BI g p s (fun a=>a∈outL (g.u a)) (fun a=>(g.u a<u∧a∈outL (g.u a))∨a∈La.take (i+1)) by':=fun h=>(B.skip (.inr (hv ▸ h))).congr hsub
       refine Ao (Aa (DE (fun x=>x=_) B0 (by kernel_rfl) rfl ?_))
       refine BS rfl rfl (Bh rfl rfl (A7 rfl Ji rfl (BR rfl F9 rfl (by rintro _ rfl; exact ((by rw [Ay (H.drew.ext.to hf nf')]; rfl))) ?_)))
       refine A7 rfl Fh rfl (Cd rfl BV rfl (by rintro _ rfl; exact H.drew) at0 rfl ?_)
       refine AY rfl DX Fs rfl rfl (by omega) (by omega) ?_
       refine BR rfl BV rfl (by rintro _ rfl; exact (((Cs (H.drew.get at1)).fld hgb rfl (j:=0) rfl))) ?_
       refine C8 rfl rfl (BJ ?_)
       rintro _ rfl
       replace H:=H.drew
       refine Af (Ad rfl rfl (Cu rfl rfl rfl (Aw rfl rfl (AE 92 rfl ?_ ?_))))
       ·intro h4
        replace h4:=AF h4
        refine Ag rfl (Ag rfl (Ag rfl (Ag rfl (AA rfl rfl (.bool _) rfl (Ab (Aa (Dj rfl (Fq [([0,1,2,3,4,5,6,7,8],9)] (fun z=>z.heap[bf]? = some (Bl 224 (FB oo od oh ob n))∧z.heap[b5]? = some (Bl 229 [.int .i64 (x:Int),.int .i64 (u:Int),.int .i64 (v:Int),.int .i64 ln])) [9] B0 (by kernel_rfl) (⟨H.drew.ext.to hf nf',H.drew.get at0⟩) ?_))))))))
        refine AU rfl rfl ?_
        refine Ch rfl rfl (B3 rfl rfl (AH rfl Ji rfl (BP rfl F9 rfl (fun _ hx=>(by rw [Ay hx.1]; rfl)) ?_)))
        refine AH rfl Fh rfl (BP rfl BV rfl (fun _ hx=>(by rw [Ay hx.2]; rfl)) ?_)
        refine AH rfl MK rfl (BP rfl BV rfl (fun _ hx=>(by rw [Ay hx.2]; rfl)) ?_)
        refine AM rfl DX Fs rfl rfl (by omega) (by omega) ?_
        refine Ba ?_
        replace H:=H.drew
        refine BU v (fun q => .int .i64 (upd by' v (x:Int) q)) (.int _ _) rfl Fs rfl rfl rfl H at1 (by simp) (by omega) (by rw [CT]) (fun q _ hq=>by rw [DG hq]) ?_
        rintro w H
        refine Ab (BW rfl (BO (A5 (Aa (Av (Ap rfl rfl rfl (by omega) (by omega) ?_))))))
        refine Ad rfl rfl (Ab (Aa ?_))
        exact ⟨(i+1,upd by' v (x:Int)),rfl,⟨rfl,trivial⟩,⟨by dsimp only; omega,(hv ▸ B.put hall hg).congr hsub,H.tail⟩,by dsimp only; omega⟩
       ·intro h4
        replace h4:=AG h4
        refine Ah rfl MK rfl (AN rfl BV rfl H at0 rfl (Ad rfl rfl (AZ rfl rfl rfl (A6 rfl rfl (.bool _) rfl (Ab (Aa (Aq _ rfl ?_ ?_)))))))
        ·intro h5
         replace h5:=AF h5
         refine Fq [([0,1,2,3,4,5,6,7,8],9)] (fun z=>z.heap[bf]? = some (Bl 224 (FB oo od oh ob n))∧z.heap[b5]? = some (Bl 229 [.int .i64 (x:Int),.int .i64 (u:Int),.int .i64 (v:Int),.int .i64 ln])) [9] B0 (by kernel_rfl) (⟨H.drew.ext.to hf nf',H.drew.get at0⟩) ?_
         refine AU rfl rfl ?_
         refine Ch rfl rfl (B3 rfl rfl (AH rfl Ji rfl (BP rfl F9 rfl (fun _ hx=>(by rw [Ay hx.1]; rfl)) ?_)))
         refine AH rfl Fh rfl (BP rfl BV rfl (fun _ hx=>(by rw [Ay hx.2]; rfl)) ?_)
         refine AH rfl MK rfl (BP rfl BV rfl (fun _ hx=>(by rw [Ay hx.2]; rfl)) ?_)
         refine AM rfl DX Fs rfl rfl (by omega) (by omega) ?_
         refine Ba ?_
         replace H:=H.drew
         refine BU v (fun q => .int .i64 (upd by' v (x:Int) q)) (.int _ _) rfl Fs rfl rfl rfl H at1 (by simp) (by omega) (by rw [CT]) (fun q _ hq=>by rw [DG hq]) ?_
         rintro w H
         refine Ab (BW rfl (BO (A5 (Aa (Av (Ap rfl rfl rfl (by omega) (by omega) ?_))))))
         refine Ad rfl rfl (Ab (Aa ?_))
         exact ⟨(i+1,upd by' v (x:Int)),rfl,⟨rfl,trivial⟩,⟨by dsimp only; omega,(hv ▸ B.put hall hg).congr hsub,H.tail⟩,by dsimp only; omega⟩
        ·intro h5
         replace h5:=AG h5
         refine Ao (A5 (Aa (Av (Ap rfl rfl rfl (by omega) (by omega) ?_))))
         refine Ad rfl rfl (Ab (Aa ?_))
         exact ⟨(i+1,by'),rfl,⟨rfl,trivial⟩,⟨by dsimp only; omega,hnot h4,H.tail⟩,by dsimp only; omega⟩
    ·intro h2
     replace h2:=AG h2
     refine Bc (Ak (Ak (AD (A5 (Aa (Av (Ap rfl rfl rfl (by omega) (by omega) ?_)))))))
     refine Ad rfl rfl (Ab (Aa ?_))
     have hiL:i=La.length:=by omega
     refine ⟨(u+1,by'),rfl,⟨rfl,trivial⟩,⟨by dsimp only; omega,B.congr fun y hy=>?_,H⟩,by dsimp only; omega⟩
     rw [hiL,List.take_length]
     rcases Nat.lt_or_ge (g.u y) u with h7 | h7
     ·exact .inl ⟨h7,hy.2⟩
     ·have hyu:g.u y=u:=by have:=hy.1; dsimp only at this; omega
      exact .inr (by rw [hLa,← hyu]; exact hy.2)
  ·intro h1
   replace h1:=AG h1
   refine Bc (Ak (Ak (AD (Db rfl rfl ?_))))
   obtain rfl:u=n:=by omega
   exact ⟨rfl,by',B,H⟩

end Go.Proofs.YtapphbmlkdhnmaaGreat

/- The arcs that leave each node, in arrays of their own. -/
namespace Go.Proofs.YtapphbmlkdhnmaaGreat
open Go.GV
attribute [local irreducible] AL W Wq Wt

structure Slo where
 a:Option Addr
 n:Nat
 c:Nat
 full:List Value
def sloV (s:Slo):Value := .slice s.a s.n s.c
abbrev Kg (s:Slo):List (Nat × Obj):=ent s.a 229 s.full
abbrev Ux (nn:Nat) (st:Nat→Slo):List Value:=(List.range nn).map fun u=>sloV (st u)
/-- The table of the arrays, and the arrays. oth: blocks that are none of theirs. -/
structure OutR (w0 w:World) (oo nn:Nat) (g:Gr) (p:Nat→Int) (st:Nat→Slo) (sel:Nat→List Nat) (oth:Nat→Prop):Prop where
 tbl:w.heap[oo]? = some (Bl 230 (Ux nn st))
 os:∀ u,u<nn→OS (st u).a (st u).n (st u).c 4 (st u).full ((sel u).flatMap (Gl g p))
 blk:∀ u,u<nn→∀ y∈Kg (st u),w.heap[y.1]? = some y.2∧w0.heap.size≤y.1∧¬ oth y.1∧y.1≠oo
 ne:∀ u v,u<nn→v<nn→u≠v→∀ y∈Kg (st u),∀ z∈Kg (st v),y.1≠z.1
def MX (oo nn:Nat) (st:Nat→Slo):Mt:=fun x=>x=oo∨∃ u,u<nn∧∃ y∈Kg (st u),y.1=x
theorem OutR.keep {w0 w w':World} {oo nn:Nat} {g:Gr} {p:Nat→Int} {st:Nat→Slo} {sel:Nat→List Nat} {oth:Nat→Prop} (R:OutR w0 w oo nn g p st sel oth) {S:List Nat} (h:Ext S w w') (hS:∀ x∈S,¬ MX oo nn st x):OutR w0 w' oo nn g p st sel oth :=
 ⟨h.to R.tbl fun hm=>hS _ hm (.inl rfl),R.os,fun u hu y hy=>⟨h.to (R.blk u hu y hy).1 fun hm=>hS _ hm (.inr ⟨u,hu,y,hy,rfl⟩),(R.blk u hu y hy).2⟩,R.ne⟩
def stS (st:Nat→Slo) (u:Nat) (s:Slo):Nat→Slo:=fun q=>if q=u then s else st q
theorem GW (st:Nat→Slo) (u:Nat) (s:Slo):stS st u s u=s:=if_pos rfl
theorem Jr {st:Nat→Slo} {u:Nat} {s:Slo} {q:Nat} (h:q≠u):stS st u s q=st q:=if_neg h
theorem OutR.step {w0 w w':World} {oo nn:Nat} {g:Gr} {p:Nat→Int} {st:Nat→Slo} {sel sel':Nat→List Nat} {oth:Nat→Prop} (R:OutR w0 w oo nn g p st sel oth) {u:Nat} (hu:u<nn) {s:Slo} (hoth:∀ x,oth x→x<w.heap.size) (h0:w0.heap.size≤w.heap.size)
  (H:Ctx w ((oo::(Kg (st u)).map (·.1))) w' ((oo,Bl 230 (Ux nn (stS st u s)))::Kg s)) (O:OS s.a s.n s.c 4 s.full ((sel' u).flatMap (Gl g p))) (hsel:∀ q,q≠u→sel' q=sel q) :
  OutR w0 w' oo nn g p (stS st u s) sel' oth∧∀ x,MX oo nn (stS st u s) x→MX oo nn st x∨w.heap.size≤x:=by
 have hlt:∀ q,q<nn→∀ y∈Kg (st q),y.1<w.heap.size:=fun q hq y hy=>Bp (R.blk q hq y hy).1
 have hoo:=Bp R.tbl
 have hnd:=(List.pairwise_cons.1 H.nd).1
 have hnew:∀ y∈Kg s,(∃ z∈Kg (st u),z.1=y.1)∨w.heap.size≤y.1:=fun y hy=>by
  rcases H.own y (List.mem_cons_of_mem _ hy) with h | h
  ·rcases List.mem_cons.1 h with h | h
   ·exact absurd h.symm (hnd y hy)
   ·obtain ⟨z,hz,he⟩:=List.mem_map.1 h
    exact .inl ⟨z,hz,he⟩
  ·exact .inr h
 have hout:∀ q,q<nn→q≠u→∀ y∈Kg (st q),y.1∉oo::(Kg (st u)).map (·.1):=fun q hq hqu y hy hm=>by
  rcases List.mem_cons.1 hm with h | h
  ·exact (R.blk q hq y hy).2.2.2 h
  ·obtain ⟨z,hz,he⟩:=List.mem_map.1 h
   exact R.ne q u hq hu hqu y hy z hz he.symm
 refine ⟨⟨H.get at0,fun q hq=>?_,fun q hq y hy=>?_,fun q v hq hv hqv y hy z hz=>?_⟩,fun x hx=>?_⟩
 ·by_cases e:q=u
  ·subst e; rw [GW]; exact O
  ·rw [Jr e,hsel q e]; exact R.os q hq
 ·by_cases e:q=u
  ·subst e
   rw [GW] at hy
   refine ⟨H.blk y (List.mem_cons_of_mem _ hy),?_,?_,fun h=>hnd y hy h.symm⟩
   ·rcases hnew y hy with ⟨z,hz,he⟩ | h
    ·rw [← he]; exact (R.blk q hq z hz).2.1
    ·omega
   ·rcases hnew y hy with ⟨z,hz,he⟩ | h
    ·rw [← he]; exact (R.blk q hq z hz).2.2.1
    ·exact fun ho=>by have:=hoth _ ho; omega
  ·rw [Jr e] at hy
   obtain ⟨h1,h2,h3,h4⟩:=R.blk q hq y hy
   exact ⟨H.ext.to h1 (hout q hq e y hy),h2,h3,h4⟩
 ·by_cases e:q=u
  ·subst e
   rw [GW] at hy
   rw [Jr (Ne.symm hqv)] at hz
   rcases hnew y hy with ⟨t,ht,he⟩ | h
   ·rw [← he]; exact R.ne q v hq hv hqv t ht z hz
   ·have:=hlt v hv z hz; omega
  ·rw [Jr e] at hy
   by_cases e2:v=u
   ·subst e2
    rw [GW] at hz
    rcases hnew z hz with ⟨t,ht,he⟩ | h
    ·rw [← he]; exact R.ne q v hq hv hqv y hy t ht
    ·have:=hlt q hq y hy; omega
   ·rw [Jr e2] at hz
    exact R.ne q v hq hv hqv y hy z hz
 ·rcases hx with h | ⟨q,hq,y,hy,rfl⟩
  ·exact .inl (.inl h)
  ·by_cases e:q=u
   ·subst e
    rw [GW] at hy
    rcases hnew y hy with ⟨t,ht,he⟩ | h
    ·exact .inl (.inr ⟨q,hq,t,ht,he⟩)
    ·exact .inr h
   ·rw [Jr e] at hy
    exact .inl (.inr ⟨q,hq,y,hy,rfl⟩)
/-- What may be lent of it for one node. -/
theorem OutR.ctx {w0 w:World} {oo nn:Nat} {g:Gr} {p:Nat→Int} {st:Nat→Slo} {sel:Nat→List Nat} {oth:Nat→Prop} (R:OutR w0 w oo nn g p st sel oth) {u:Nat} (hu:u<nn):Ctx w (oo::(Kg (st u)).map (·.1)) w ((oo,Bl 230 (Ux nn st))::Kg (st u)):=by
 refine ⟨.refl _ _,fun x hx=>?_,List.pairwise_cons.2 ⟨fun y hy h=>(R.blk u hu y hy).2.2.2 h.symm,Ir⟩,fun x hx => .inl ?_⟩
 ·rcases List.mem_cons.1 hx with rfl | hx
  ·exact R.tbl
  ·exact (R.blk u hu x hx).1
 ·rcases List.mem_cons.1 hx with rfl | hx
  ·exact List.mem_cons_self ..
  ·exact List.mem_cons_of_mem _ (List.mem_map.2 ⟨x,hx,rfl⟩)
def HY (g:Gr) (l:List Nat) (u:Nat):List Nat:=l.filter fun a=>decide (g.u a=u)
theorem Uy {g:Gr} {l:List Nat} {i a:Nat} (h:l[i]? = some a):HY g (l.take (i+1)) (g.u a)=HY g (l.take i) (g.u a)++[a]∧∀ q,q≠g.u a→HY g (l.take (i+1)) q=HY g (l.take i) q:=by
 unfold HY
 rw [Eo h]
 refine ⟨by rw [List.filter_append]; congr 1; rw [List.filter_cons,decide_eq_true rfl]; rfl,fun q hq=>?_⟩
 rw [List.filter_append,List.filter_cons,decide_eq_false (Ne.symm hq)]
 simp

end Go.Proofs.YtapphbmlkdhnmaaGreat

/- Plain law of shortest ways: what the labels and the last arcs tell in the end; how long the heap may get. -/
namespace Go.Proofs.YtapphbmlkdhnmaaGreat
open Go.GV

theorem Abu {g:Gr} {cap x p:Nat→Int} {src:List Nat} {n:Nat} {m:Int} {s:Lb} {by':Nat→Int} {all done:Nat→Prop} (D:Done (LO g cap x p) src n m s) (hA:Pw (LO g cap x p) n m) (B:BI g p s all done by') (hall:∀ a,all a→a<2*g.E∧0<CI cap x a) (hdone:∀ a,a<2*g.E→0<CI cap x a→done a) :
  Bys g cap x p s fun v=>if by' v = -1 then none else some (by' v).toNat:=by
 have hmem:∀ a,a<2*g.E→0<CI cap x a→(g.u a,g.v a,g.len p a)∈LO g cap x p:=fun a h1 h2=>Jn.2 ⟨a,h1,h2,rfl⟩
 refine ⟨fun v hv=>?_,fun v hd hh=>?_⟩
 ·dsimp only
  by_cases e:by' v = -1
  ·rw [if_pos e]
  ·exfalso
   rcases B.val v with h | ⟨a,_,ha,⟨h1,h2,h3,h4⟩,hva⟩
   ·exact e h
   ·obtain ⟨ha1,ha2⟩:=hall a ha
    have hl:=(hA _ (hmem a ha1 ha2)).2.2.1
    dsimp only at hl
    rw [hva] at h2 h3
    rcases hv with hv | hv
    ·have:=D.J.low (g.u a)
     omega
    ·exact h2 hv
 ·obtain ⟨b,hb,hbv,hb1,hb2,hb3⟩:=D.pre v hd hh
  obtain ⟨a,ha1,ha2,rfl⟩:=Jn.1 hb
  dsimp only at hbv hb1 hb2 hb3
  have hg:KF g p s a:=⟨hb1,by rw [hbv]; exact hh,by rw [hbv]; exact hb2,by rw [hbv]; exact hb3⟩
  have hne:=B.in' a (hdone a ha1 ha2) hg
  rw [hbv] at hne
  rcases B.val v with h | ⟨a',hby,ha',⟨h1,h2,h3,h4⟩,hva⟩
  ·exact absurd h hne
  ·obtain ⟨q1,q2⟩:=hall a' ha'
   refine ⟨a',by dsimp only; rw [if_neg hne,hby]; rfl,⟨q1,q2,h1,by rw [hva]; exact hd,h3,h4⟩,hva⟩
theorem Uz {n:Nat} {A:List Ar} {src:List Nat} {d:Int} (hd:0≤d) (hA:∀ v,v<n→HW A v≤d):psi n A (-1) (lb0 src) (I6 src)≤src.length+n*(d*(n+1)):=by
 have hg:∀ v,gv n (-1) (lb0 src) (I6 src) v=(n:Int)+1:=fun v=>by
  unfold gv
  rw [if_neg]
  rintro ⟨h1,h2⟩
  unfold lb0 at h1 h2
  dsimp only at h1 h2
  split at h1 <;> split at h2 <;> omega
 have h1:=Jl (f:=fun v=>HW A v*gv n (-1) (lb0 src) (I6 src) v) (g:=fun _=>d*((n:Int)+1)) (k:=n) fun i hi=>by
  rw [hg]; exact Int.mul_le_mul_of_nonneg_right (hA i hi) (by omega)
 have h2:∀ (c:Int) (k:Nat),B7 (fun _=>c) k=k*c:=fun c k=>by
  induction k with
  | zero=>show (0:Int)=((0:Nat):Int)*c; rw [show ((0:Nat):Int)=0 from rfl,Int.zero_mul]
  | succ k ih =>
   show B7 (fun _=>c) k+c=_
   rw [ih,Int.natCast_add,Int.add_mul]; simp
 rw [h2] at h1
 unfold psi I6
 rw [List.length_map]
 have h3:B7 (fun v=>HW A v*gv n (-1) (lb0 src) (List.map (fun v=>((0:Int),v)) src) v) n≤(n:Int)*(d*((n:Int)+1)):=h1
 omega

theorem TA {A:List Ar} {src:List Nat} {n:Nat} {m D:Int} {u:Nat} (hA:Pw A n m) (hm:0≤m) (hn:n≤60) (hD:0≤D):∀ (l dn:List Ar) (s:Lb) (hp:List Tg),DJ A src n m s→Clo A s hp u dn→(∀ a∈l,a∈A∧a.1=u)→s.d u=D→PI n D s hp →
  DJ A src n m (l.foldl I5 (s,hp)).1∧Clo A (l.foldl I5 (s,hp)).1 (l.foldl I5 (s,hp)).2 u (dn++l)∧(l.foldl I5 (s,hp)).1.d u=D∧PI n D (l.foldl I5 (s,hp)).1 (l.foldl I5 (s,hp)).2∧psi n A D (l.foldl I5 (s,hp)).1 (l.foldl I5 (s,hp)).2≤psi n A D s hp+l.length
 | [],dn,s,hp,J,K,_,hu,P=>⟨J,by simpa using K,hu,P,by simp⟩
 | a::l,dn,s,hp,J,K,hl,hu,P=>by
  obtain ⟨ha,hau⟩:=hl a (List.mem_cons_self ..)
  obtain ⟨J1,K1,h1,h2,-⟩:=DJ.relax hA hm hn J K ha hau (by rw [hu]; omega)
  obtain ⟨P1,h3⟩:=P.relax (A:=A) (a:=a) (by rw [hau]; exact hu) hD (hA a ha).2.2.1 J.low fun h=>J1.hops h
  obtain ⟨r1,r2,r3,r4,r5⟩:=TA hA hm hn hD l (dn++[a]) (Gi s a) (Hz s a hp) J1 K1 (fun b hb=>hl b (List.mem_cons_of_mem _ hb)) (by rw [h1]; exact hu) P1
  rw [List.append_assoc] at r2
  refine ⟨r1,r2,r3,r4,?_⟩
  rw [List.length_cons,List.foldl_cons]
  have h4:I5 (s,hp) a=(Gi s a,Hz s a hp):=rfl
  rw [h4]
  omega

end Go.Proofs.YtapphbmlkdhnmaaGreat

/- Plain law of shortest ways: the main loop's invariant; numbers that fit. -/
namespace Go.Proofs.YtapphbmlkdhnmaaGreat
open Go.GV

/-- What holds between two rounds. -/
structure MI (A:List Ar) (src:List Nat) (n:Nat) (m D:Int) (s:Lb) (hp:List Tg):Prop where
 dj:DJ A src n m s
 clo:Clo A s hp 0 A
 pi:PI n D s hp
theorem Clo.any {A:List Ar} {s:Lb} {hp:List Tg} {u:Nat} (K:Clo A s hp u A) (v:Nat):Clo A s hp v A:=fun x hx=>(K x hx).imp id fun h a ha hax _=>h a ha hax fun _=>ha
theorem Clo.perm {A:List Ar} {s:Lb} {hp hq:List Tg} {u:Nat} {dn:List Ar} (K:Clo A s hp u dn) (h:hp.Perm hq):Clo A s hq u dn:=fun x hx=>(K x hx).imp (fun h'=>h.mem_iff.1 h') id
theorem MI.perm {A:List Ar} {src:List Nat} {n:Nat} {m D:Int} {s:Lb} {hp hq:List Tg} (M:MI A src n m D s hp) (h:hp.Perm hq):MI A src n m D s hq:=⟨M.dj,M.clo.perm h,M.pi.perm h⟩
theorem MI.start {A:List Ar} {src:List Nat} {n:Nat} {m:Int} (hs:∀ v∈src,v<n) (hnd:src.Nodup):MI A src n m (-1) (lb0 src) (I6 src):=by
 refine ⟨DJ.start hs,fun v hv=>?_,fun t ht=>?_,fun t ht=>?_,fun v hv=>?_⟩
 ·have hm:v∈src:=by
   rcases Decidable.em (v∈src) with h | h
   ·exact h
   ·exact absurd (if_neg h) hv
  have:(lb0 src).d v=0:=if_pos hm
  rw [this]
  exact .inl (List.mem_map.2 ⟨v,hm,rfl⟩)
 ·obtain ⟨v,_,rfl⟩:=List.mem_map.1 ht
  show (-1:Int)≤0
  omega
 ·obtain ⟨v,hv,rfl⟩:=List.mem_map.1 ht
  have:(lb0 src).d v=0:=if_pos hv
  dsimp only
  rw [this]
  omega
 ·have hm:v∈src:=by
   rcases Decidable.em (v∈src) with h | h
   ·exact h
   ·exact absurd (if_neg h) hv
  have h1:(I6 src).Nodup:=List.Pairwise.map _ (fun a b h e=>h (Prod.mk.inj e).2) hnd
  have h2:=List.nodup_iff_count.1 h1 ((lb0 src).d v,v)
  have h3:=hs v hm
  show _+0≤n
  omega
section
variable {A:List Ar} {src:List Nat} {n:Nat} {m D:Int} {s:Lb} {hp:List Tg} {t:Tg}
theorem MI.lt (hA:Pw A n m) (M:MI A src n m D s hp) {v:Nat} (hv:s.d v ≠ -1):v<n:=by
 by_cases h:s.h v=0
 ·exact (M.dj.src' v (M.dj.zero v hv h)).1
 ·obtain ⟨a,ha,h1,_⟩:=M.dj.pre v hv h
  rw [← h1]
  exact (hA a ha).2.1
theorem MI.top (hA:Pw A n m) (M:MI A src n m D s (t::hp)):t.2<n:=M.lt hA (M.pi.item t (List.mem_cons_self ..)).1
theorem MI.drop (hA:Pw A n m) (M:MI A src n m D s (t::hp)) (hmin:∀ x∈hp,t.1≤x.1) (hne:t.1≠s.d t.2):MI A src n m t.1 s hp∧psi n A t.1 s hp+1≤psi n A D s (t::hp):=by
 obtain ⟨P1,h1,-⟩:=M.pi.pop (A:=A) hmin (M.top hA)
 refine ⟨⟨M.dj,fun v hv=>(M.clo v hv).imp (fun h=>?_) id,P1⟩,h1⟩
 rcases List.mem_cons.1 h with h | h
 ·exact absurd (by rw [← h]) hne
 ·exact h
theorem MI.key0 (M:MI A src n m D s (t::hp)) (he:t.1=s.d t.2):0≤t.1:=by
 have h1:=(M.pi.item t (List.mem_cons_self ..)).1
 have:=M.dj.low t.2
 omega
theorem MI.go (hA:Pw A n m) (hm:0≤m) (hn:n≤60) (M:MI A src n m D s (t::hp)) (hmin:∀ x∈hp,t.1≤x.1) (he:t.1=s.d t.2) {l l1:List Ar} (hl:A.filter (fun a=>decide (a.1=t.2))=l++l1) :
  DJ A src n m (l.foldl I5 (s,hp)).1∧(l1=[]→MI A src n m t.1 (l.foldl I5 (s,hp)).1 (l.foldl I5 (s,hp)).2∧psi n A t.1 (l.foldl I5 (s,hp)).1 (l.foldl I5 (s,hp)).2+1≤psi n A D s (t::hp)):=by
 obtain ⟨P1,-,h1⟩:=M.pi.pop (A:=A) hmin (M.top hA)
 have hla:∀ a∈l,a∈A∧a.1=t.2:=fun a ha=>by
  have h2:a∈A.filter (fun a=>decide (a.1=t.2)):=by rw [hl]; exact List.mem_append_left _ ha
  obtain ⟨h3,h4⟩:=List.mem_filter.1 h2
  exact ⟨h3,of_decide_eq_true h4⟩
 have K0:Clo A s hp t.2 []:=fun v hv=>by
  by_cases e:v=t.2
  ·exact .inr fun a _ hav hd=>by cases hd e
  ·refine (M.clo v hv).imp (fun h=>?_) fun h a ha hav _=>h a ha hav fun _=>ha
   rcases List.mem_cons.1 h with h | h
   ·exact absurd (by rw [← h]) e
   ·exact h
 obtain ⟨r1,r2,r3,r4,r5⟩:=TA hA hm hn (M.key0 he) l [] s hp M.dj K0 hla he.symm P1
 refine ⟨r1,fun hl1=>?_⟩
 rw [hl1,List.append_nil] at hl
 have KK:Clo A (l.foldl I5 (s,hp)).1 (l.foldl I5 (s,hp)).2 t.2 A:=fun v hv=>(r2 v hv).imp id fun h a ha hav hd=>h a ha hav fun e=>by
  rw [List.nil_append,← hl]
  exact List.mem_filter.2 ⟨ha,decide_eq_true (hav.trans e)⟩
 refine ⟨⟨r1,KK.any 0,r4⟩,?_⟩
 have h2:=h1 he
 have h3:HW A t.2=(l.length:Nat):=by unfold HW; rw [hl]
 omega
theorem MI.ends (M:MI A src n m D s []):Done A src n m s:=M.dj.ends M.clo
end
theorem W0 (g:Gr) (cap x p:Nat→Int):LO g cap x p=(Et cap x g.E).map (I4 g p):=rfl
theorem Q8 (g:Gr) (cap x p:Nat→Int) (u:Nat):(LO g cap x p).filter (fun a=>decide (a.1=u))=(HY g (Et cap x g.E) u).map (I4 g p):=by
 rw [W0,List.filter_map]; rfl

/-- Numbers that fit, as the program asks for them. -/
theorem P5 {N:Int} {es:List Ed} {fl pot:List Int} (h:Hs N es fl pot=true):Fine (grE N es) (Co es) (flE fl) (EF pot):=by
 unfold Hs at h
 simp only [Bool.and_eq_true] at h
 obtain ⟨hw,_,ha⟩:=h
 obtain ⟨h1,_,h2⟩:=BZ hw
 refine ⟨fun i hi=>?_,fun a ha' hr=>?_⟩
 ·obtain ⟨e,he⟩:=A0 (l:=es) (i:=i) hi
  obtain ⟨x,hx⟩:=A0 (l:=fl) (i:=i) (by rw [h1]; exact hi)
  have:=h2 i e x he hx
  unfold flE Co
  rw [Bn he,Bn hx]
  exact this
 ·have:=List.all_eq_true.1 ha a (List.mem_filter.2 ⟨List.mem_range.2 ha',decide_eq_true hr⟩)
  exact of_decide_eq_true this
theorem P6 {N:Int} {es:List Ed} {fl pot:List Int} (hw:BG N es fl=true) (hp:EU N pot=true) (h:Fine (grE N es) (Co es) (flE fl) (EF pot)):Hs N es fl pot=true:=by
 unfold Hs
 rw [hw,hp,Bool.true_and,Bool.true_and]
 refine List.all_eq_true.2 fun a ha=>?_
 obtain ⟨h1,h2⟩:=List.mem_filter.1 ha
 exact decide_eq_true (h.fit a (List.mem_range.1 h1) (of_decide_eq_true h2))
theorem Yn {N:Int} {es:List Ed} {pot:List Int} (hr:Cb N es=true) {B:Int} (hB:∀ v,-B≤EF pot v∧EF pot v≤B) (a:Nat):(grE N es).len (EF pot) a≤1000+2*B ∧ -(1000+2*B)≤(grE N es).len (EF pot) a:=by
 have h1 : -1000≤(grE N es).c a∧(grE N es).c a≤1000:=by
  have h2 : -1000≤(grE N es).co (a / 2)∧(grE N es).co (a / 2)≤1000:=by
   show -1000≤(es.getD (a / 2) e0).cost∧(es.getD (a / 2) e0).cost≤1000
   rcases Nat.lt_or_ge (a / 2) es.length with h | h
   ·obtain ⟨e,he⟩:=A0 (l:=es) h
    have:=D6 ((Cn hr).2.2.2.1 e (List.mem_of_getElem? he))
    rw [Bn he]
    omega
   ·rw [List.getD_eq_getElem?_getD,List.getElem?_eq_none h]
    exact ⟨by decide,by decide⟩
  unfold Gr.c
  split
  ·exact h2
  ·omega
 have h3:=hB ((grE N es).u a)
 have h4:=hB ((grE N es).v a)
 unfold Gr.len
 omega
theorem Yo {N:Int} {pot:List Int} (hp:EU N pot=true) (v:Nat) : -1099511627776≤EF pot v∧EF pot v≤1099511627776:=by
 unfold EF
 rcases Nat.lt_or_ge v pot.length with h | h
 ·obtain ⟨x,hx⟩:=A0 (l:=pot) h
  rw [Bn hx]
  exact (Lj hp).2 v x hx
 ·rw [List.getD_eq_getElem?_getD,List.getElem?_eq_none h]
  exact ⟨by decide,by decide⟩
theorem DJ.dist {A:List Ar} {src:List Nat} {n:Nat} {m:Int} {s:Lb} (J:DJ A src n m s) (hm:0≤m) (hn:n≤60) (v:Nat) : -1≤s.d v∧s.d v≤60*m∧s.h v≤60:=by
 by_cases h:s.d v = -1
 ·have h1:=J.none' v h
  have:0≤60*m:=by omega
  omega
 ·have h1:=J.hops h
  have h2:=J.bnd v h
  have h3:=J.low v
  have h4:(s.h v:Int)*m≤60*m:=Int.mul_le_mul_of_nonneg_right (by omega) hm
  omega

end Go.Proofs.YtapphbmlkdhnmaaGreat
