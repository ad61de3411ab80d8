/- Part 8 of the proof. -/
import Derived.Test.YtapphbmlkdhnmaaGreatPart2
import Derived.Test.YtapphbmlkdhnmaaGreatPart7
import Derived.Test.YtapphbmlkdhnmaaGreatPart4
/- Sorting numbers of 64 bits: plain law of swaps; the comparison; insertion. -/
namespace Go.Proofs.YtapphbmlkdhnmaaGreat
open Go.GV
attribute [local irreducible] A2 W Wq Wt

abbrev C4 (f:Nat→Int) (m:Nat):List Value:=(List.range m).map fun i => .int .u64 (f i)
theorem Cv {w:World} {q m i:Nat} {f:Nat→Int} (h:w.heap[q]? = some (Bl 24 (C4 f m))) (hi:i<m):w.cell? ⟨q,0+i*1,none⟩=some (.int .u64 (f i)):=by
 rw [Ay h,Nat.zero_add,Nat.mul_one,Dl hi]
def sw (f:Nat→Int) (i j k:Nat):Int:=if k=j then f i else if k=i then f j else f k
theorem D0 (f:Nat→Int) (i j:Nat):sw f i j j=f i:=if_pos rfl
theorem Dv {f:Nat→Int} {i j k:Nat} (h:k≠j):sw f i j k=if k=i then f j else f k:=if_neg h
theorem G2 (f:Nat→Int) (i j:Nat):sw f i j i=f j:=by
 unfold sw
 by_cases e:i=j
 ·subst e; rw [if_pos rfl]
 ·rw [if_neg e,if_pos rfl]
theorem Ei {f:Nat→Int} {i j k:Nat} (h1:k≠i) (h2:k≠j):sw f i j k=f k:=by unfold sw; rw [if_neg h2,if_neg h1]
/-- By swaps of what lies there. -/
inductive Sw (a b:Nat):(Nat→Int)→(Nat→Int)→Prop
 | refl (f:Nat→Int):Sw a b f f
 | step {f g:Nat→Int} (h:Sw a b f g) (i j:Nat) (hi:a≤i∧i<b) (hj:a≤j∧j<b):Sw a b f (sw g i j)
theorem Sw.trans {a b:Nat} {f g h:Nat→Int} (h1:Sw a b f g) (h2:Sw a b g h):Sw a b f h:=by
 induction h2 with
 | refl=>exact h1
 | step _ i j hi hj ih=>exact ih.step i j hi hj
theorem Sw.mono {a b a' b':Nat} {f g:Nat→Int} (h:Sw a b f g) (ha:a'≤a) (hb:b≤b'):Sw a' b' f g:=by
 induction h with
 | refl=>exact .refl _
 | step _ i j hi hj ih=>exact ih.step i j ⟨by omega,by omega⟩ ⟨by omega,by omega⟩
theorem Sw.out {a b:Nat} {f g:Nat→Int} (h:Sw a b f g):∀ k,(k<a∨b≤k)→g k=f k:=by
 induction h with
 | refl=>exact fun _ _=>rfl
 | step _ i j hi hj ih=>exact fun k hk=>by rw [Ei (by omega) (by omega)]; exact ih k hk
/-- What lies there lay there. -/
theorem Sw.mem {a b:Nat} {f g:Nat→Int} (h:Sw a b f g):∀ k,a≤k→k<b→∃ k',a≤k'∧k'<b∧g k=f k':=by
 induction h with
 | refl=>exact fun k h1 h2=>⟨k,h1,h2,rfl⟩
 | @step g h i j hi hj ih =>
  intro k h1 h2
  by_cases e2:k=j
  ·rw [e2,D0]; exact ih i hi.1 hi.2
  ·by_cases e1:k=i
   ·rw [e1,G2]; exact ih j hj.1 hj.2
   ·rw [Ei e1 e2]; exact ih k h1 h2
theorem Ado {f:Nat→Int} {n i j:Nat} (hi:i<n) (hj:j<n):(tab (sw f i j) n).Perm (tab f n):=by
 have h:=KA (L:=tab f n) (i:=i) (j:=j) (x:=f i) (y:=f j) (BM hi) (BM hj)
 have e:((tab f n).set i (f j)).set j (f i)=tab (sw f i j) n:=by
  unfold tab
  rw [IQ (g:=fun k=>if k=i then f j else f k) (if_pos rfl) (fun k _ hk=>if_neg hk),IQ (g:=sw f i j) (D0 f i j) (fun k _ hk=>Dv hk)]
 rw [e] at h
 exact h
theorem Sw.perm {a b n:Nat} {f g:Nat→Int} (h:Sw a b f g) (hb:b≤n):(tab g n).Perm (tab f n):=by
 induction h with
 | refl=>exact .refl _
 | step _ i j hi hj ih=>exact (Ado (by omega) (by omega)).trans ih
def Ii (f:Nat→Int) (a b:Nat):Prop:=∀ x y,a≤x→x<y→y<b→f x≤f y
/-- Sorted up to i, but for the one at j that moves down. -/
def InsU (f:Nat→Int) (a j i:Nat):Prop:=∀ x y,a≤x→x<y→y≤i→y≠j→f x≤f y
theorem InsU.step {f:Nat→Int} {a j i:Nat} (h:InsU f a j i) (ha:a<j) (hi:j≤i) (hlt:f j<f (j - 1)):InsU (sw f j (j - 1)) a (j - 1) i:=fun x y hx hxy hy hne=>by
 by_cases e1:y=j
 ·subst e1
  rw [G2]
  by_cases e2:x=y - 1
  ·rw [e2,D0]; omega
  ·rw [Ei (by omega) e2]
   exact h x (y - 1) hx (by omega) (by omega) (by omega)
 ·rw [Ei e1 hne]
  by_cases e2:x=j - 1
  ·rw [e2,D0]; exact h j y (by omega) (by omega) hy e1
  ·by_cases e3:x=j
   ·rw [e3,G2]; exact h (j - 1) y (by omega) (by omega) hy e1
   ·rw [Ei e3 e2]; exact h x y hx hxy hy e1
theorem InsU.done {f:Nat→Int} {a j i:Nat} (h:InsU f a j i) (hj:a≤j) (hj0:a<j→f (j - 1)≤f j):Ii f a (i+1):=fun x y hx hxy hy=>by
 by_cases e:y=j
 ·subst e
  have h1:=hj0 (by omega)
  by_cases e2:x=y - 1
  ·rw [e2]; exact h1
  ·exact Int.le_trans (h x (y - 1) hx (by omega) (by omega) (by omega)) h1
 ·exact h x y hx hxy (by omega) e

theorem E1 (x y:Int) (w:World):Ret Tryz.prog 206 #[.int .u64 x,.int .u64 y] w fun v w'=>v = .bool (decide (x<y))∧w=w':=by
 have nan:∀ (x:Int) (w:World),Ret Tryz.prog 223 #[.int .u64 x] w fun v w'=>v = .bool false∧w=w':=fun x w=>by
  refine A1 (fn:=Tryz.f223) Tryz.func223 rfl [.int .u64 x] rfl (by kernel_rfl) ?_
  refine Ag (Ai rfl rfl (Ab (Aa (Ag (Ad rfl rfl (Ad rfl rfl (CH rfl rfl rfl (Ai rfl rfl (Ab (Aa (A9 (AB (v:=(.bool _)) rfl rfl rfl ?_))))))))))))
  exact ⟨congrArg Value.bool (by simp),rfl⟩
 refine A1 (fn:=Tryz.f206) Tryz.func206 rfl [.int .u64 x,.int .u64 y] rfl (by kernel_rfl) ?_
 refine Ag (Ai rfl rfl (Ab (Aa (Ag (Ad rfl rfl (Ao rfl W7 (nan x w) rfl ?_))))))
 rintro v w ⟨rfl,rfl⟩
 refine Ak rfl rfl (A8 7 rfl ?_ ?_)
 ·intro h1
  refine Ad rfl rfl (Ao rfl W7 (nan y _) rfl ?_)
  rintro v w ⟨rfl,rfl⟩
  refine Bu rfl rfl (Am rfl rfl (.bool _) rfl (Ak rfl rfl (A8 12 rfl ?_ ?_)))
  ·intro h2
   replace h2:=Bp h2
   refine Ae rfl (Ae rfl (Ae rfl (Am rfl rfl (.bool _) rfl (Ai rfl rfl (Ab (Aa (A9 (AB (v:=(.bool _)) rfl rfl rfl ?_))))))))
   exact ⟨congrArg Value.bool (by simp_all),rfl⟩
  ·intro h3
   replace h3:=Bq h3
   refine Ad rfl rfl (Ad rfl rfl (AN rfl rfl rfl (A3 rfl rfl (.bool _) rfl (Ai rfl rfl (Ab (Aa (A9 (AB (v:=(.bool _)) rfl rfl rfl ?_))))))))
   exact ⟨congrArg Value.bool (by simp_all),rfl⟩
 ·intro h4
  refine Ae rfl (Ae rfl (Ae rfl (A3 rfl rfl (.bool _) rfl (Ak rfl rfl (Ad rfl rfl (Ad rfl rfl (AN rfl rfl rfl (A3 rfl rfl (.bool _) rfl (Ai rfl rfl ?_)))))))))
  refine Ab (Aa (A9 (AB (v:=(.bool _)) rfl rfl rfl ?_)))
  exact ⟨congrArg Value.bool (by simp_all),rfl⟩

section
variable {w:World} {q n c m a b:Nat} {f:Nat→Int}

set_option maxRecDepth 20000 in
set_option maxHeartbeats 2000000 in
theorem Pq (hd:w.heap[q]? = some (Bl 24 (C4 f m))) (hab:a≤b) (hb:b≤n) (hn:n≤m) (hm:n≤1000000000) :
  Ret Tryz.prog 200 #[.slice (some ⟨q,0,none⟩) n c,.int .i64 (a:Int),.int .i64 (b:Int)] w fun v w'=>v = .tuple #[]∧∃ g,Sw a b f g∧Ii g a b∧Ctx w [q] w' [(q,Bl 24 (C4 g m))]:=by
 obtain ⟨w0,rfl⟩:∃ w0,w0=w:=⟨_,rfl⟩
 have H:=Ctx.start1 hd
 refine A1 (fn:=Tryz.f200) Tryz.func200 rfl [.slice (some ⟨q,0,none⟩) n c,.int .i64 (a:Int),.int .i64 (b:Int)] rfl (by kernel_rfl) ?_
 refine Ag (Ad rfl rfl (Ap rfl rfl rfl (by omega) (by omega) ?_))
 refine Af rfl rfl (Ab (Aa (Au (Bi 562949953420480 (α:=Nat × (Nat→Int)) (fun t=>[(6,.int .i64 (t.1:Int))]) (fun t w'=>a+1≤t.1∧t.1≤max b (a+1)∧Sw a b f t.2∧Ii t.2 a t.1∧Ctx w0 [q] w' [(q,Bl 24 (C4 t.2 m))]) (fun t=>b - t.1) (a+1,f) rfl ?_ ?_ ?_))))
 ·exact ⟨congrArg (Value.int .i64) (by dsimp only; omega),trivial⟩
 ·exact ⟨Nat.le_refl _,by dsimp only; omega,.refl _,fun x y h1 h2 h3=>by dsimp only at h3; omega,H⟩
 ·rintro ⟨i,g⟩ j0 w ⟨hi1,hi2,hS,hO,H⟩; dsimp only at hi1 hi2 hS hO H; dsimp only
  refine Aq (Ag (Ad rfl rfl (Ad rfl rfl (AN rfl rfl rfl (Ab (Aa (Ax _ rfl ?_ ?_)))))))
  ·intro h1
   replace h1:=AF h1
   refine Av (Aa (Aq (Au (Ag (Ad rfl rfl (Af rfl rfl (Ab (Aa (Au (Bi 562949953355904 (α:=Nat × (Nat→Int)) (fun t=>[(7,.int .i64 (t.1:Int))]) (fun t w'=>a≤t.1∧t.1≤i∧Sw a b f t.2∧InsU t.2 a t.1 i∧Ctx w0 [q] w' [(q,Bl 24 (C4 t.2 m))]) (fun t=>t.1) (i,g) rfl ?_ ?_ ?_))))))))))
   ·exact ⟨rfl,trivial⟩
   ·exact ⟨by dsimp only; omega,Nat.le_refl _,hS,fun x y hx hxy hy hne=>hO x y hx hxy (by dsimp only at hne; omega),H⟩
   ·rintro ⟨j,g⟩ j1 w ⟨hj1,hj2,hS,hI,H⟩; dsimp only at hj1 hj2 hS hI H; dsimp only
    have e1:(j:Int).toNat=j:=rfl
    have e2:((j:Int) - 1).toNat=j - 1:=by omega
    refine Aq (Ek 13 B3 (by kernel_rfl) rfl rfl ?_)
    refine AM rfl rfl (AM rfl rfl (ZO rfl rfl rfl (Di rfl rfl (Dc 19 rfl ?_ ?_))))
    ·intro h2
     replace h2:=AF h2
     refine BT rfl rfl (AM rfl rfl (AL rfl Be AY rfl rfl (by omega) (by omega) ?_))
     refine Cc rfl BK rfl (by rintro _ rfl; exact ((Cv (H.drew.get at0) (by omega)))) ?_
     refine BT rfl rfl (AM rfl rfl (CW rfl rfl rfl (by omega) (by omega) ?_))
     refine AL rfl Be AY rfl rfl (by omega) (by omega) ?_
     refine Cc rfl BK rfl (by rintro _ rfl; exact ((Cv (H.drew.get at0) (by omega)))) ?_
     refine BQ ?_
     replace H:=H.drew
     refine Ao rfl Fo (E1 _ _ _) rfl ?_
     rintro v w ⟨rfl,rfl⟩
     refine Am rfl rfl (.bool _) rfl (Ab (Aa (Ax _ rfl ?_ ?_)))
     ·intro h3
      rw [e1,e2] at h3
      have h3:=of_decide_eq_true h3
      refine Av (Aa (Aq (Au (Fx [([0,1,2,3,4,5,6,7,8,9,10,11,12,13,14],15),([16],17)] (fun z=>z.heap[q]? = some (Bl 24 (C4 g m))) [15,17] B3 (by kernel_rfl) (H.drew.get at0) ?_))))
      refine Ba rfl rfl ?_
      refine Bo rfl rfl (AO rfl rfl (Bo rfl rfl (AO rfl rfl (EC rfl rfl rfl (by omega) (by omega) ?_))))
      refine Bo rfl rfl (AO rfl rfl (EC rfl rfl rfl (by omega) (by omega) ?_))
      refine AE rfl Be AY rfl rfl (by omega) (by omega) ?_
      refine Ck rfl BK rfl (fun _ hx=>(Cv hx (by omega))) ?_
      refine Bo rfl rfl (AO rfl rfl (AE rfl Be AY rfl rfl (by omega) (by omega) ?_))
      refine Ck rfl BK rfl (fun _ hx=>(Cv hx (by omega))) ?_
      refine AE rfl Be AY rfl rfl (by omega) (by omega) ?_
      refine BJ ?_
      replace H:=H.drew
      refine BP j (fun k => .int .u64 (if k=j then g (j - 1) else g k)) (.int _ _) rfl AY rfl rfl rfl H at0 (by omega) (by omega) (by rw [if_pos rfl]; exact congrArg (fun z=>Value.int .u64 (g z)) (by omega)) (fun k _ hk=>by rw [if_neg hk]) ?_
      rintro w H
      refine Ab (BS rfl (Ba rfl rfl ?_))
      refine AE rfl Be AY rfl rfl (by omega) (by omega) ?_
      refine BJ (BP (j - 1) (fun k => .int .u64 (sw g j (j - 1) k)) (.int _ _) rfl AY rfl rfl rfl H at0 (by omega) (by omega) (by rw [D0]; rfl) (fun k _ hk=>by rw [Dv hk]) ?_)
      rintro w H
      refine Ab (BS rfl (Ch (A5 (Aa (Aw (Ad rfl rfl (Bf rfl rfl rfl (by omega) (by omega) ?_)))))))
      refine Af rfl rfl (Ab (Aa ?_))
      exact ⟨(j - 1,sw g j (j - 1)),rfl,⟨congrArg (Value.int .i64) (by dsimp only; omega),trivial⟩,⟨by dsimp only; omega,by dsimp only; omega,hS.step j (j - 1) ⟨by omega,by omega⟩ ⟨by omega,by omega⟩,hI.step (by omega) hj2 h3,H⟩,by dsimp only; omega⟩
     ·intro h3
      rw [e1,e2] at h3
      have h3:=of_decide_eq_false h3
      refine Bd (Aj (Aj (AD (A5 (Aa (Aw (Ad rfl rfl (Ap rfl rfl rfl (by omega) (by omega) ?_))))))))
      refine Af rfl rfl (Ab (Aa ?_))
      exact ⟨(i+1,g),rfl,⟨rfl,trivial⟩,⟨by dsimp only; omega,by dsimp only; omega,hS,hI.done hj1 fun _=>by omega,H⟩,by dsimp only; omega⟩
    ·intro h2
     replace h2:=AG h2
     refine Az rfl (Az rfl (Az rfl (Az rfl (Az rfl (Az rfl (Az rfl (Az rfl (Az rfl (BQ ?_)))))))))
     replace H:=H.drew
     refine Ae rfl (A3 rfl rfl (.bool _) rfl (Ab (Aa (Fg rfl (Bd (Aj (Aj (AD (A5 (Aa (Aw (Ad rfl rfl (Ap rfl rfl rfl (by omega) (by omega) ?_)))))))))))))
     refine Af rfl rfl (Ab (Aa ?_))
     exact ⟨(i+1,g),rfl,⟨rfl,trivial⟩,⟨by dsimp only; omega,by dsimp only; omega,hS,hI.done hj1 fun h=>by omega,H⟩,by dsimp only; omega⟩
  ·intro h1
   replace h1:=AG h1
   refine Bd (Aj (Aj (AD (CJ rfl rfl ?_))))
   exact ⟨rfl,g,hS,fun x y hx hxy hy=>hO x y hx hxy (by omega),H⟩
end

end Go.Proofs.YtapphbmlkdhnmaaGreat

/- Sorting numbers of 64 bits: by a heap. -/
namespace Go.Proofs.YtapphbmlkdhnmaaGreat
open Go.GV
attribute [local irreducible] A2 W Wq Wt

def HeapU (g:Nat→Int) (o lo hi:Nat):Prop:=∀ i c,lo≤i→(c=2*i+1∨c=2*i+2)→c<hi→g (o+c)≤g (o+i)
structure SiftU (g:Nat→Int) (o lo r hi:Nat):Prop where
 oth:∀ i c,lo≤i→i≠r→(c=2*i+1∨c=2*i+2)→c<hi→g (o+c)≤g (o+i)
 up:∀ p c,lo≤p→(r=2*p+1∨r=2*p+2)→(c=2*r+1∨c=2*r+2)→c<hi→g (o+c)≤g (o+p)
theorem SiftU.start {g:Nat→Int} {o lo hi:Nat} (h:HeapU g o (lo+1) hi):SiftU g o lo lo hi:=⟨fun i c hi hne hc hh=>h i c (by omega) hc hh,fun p c hp hr _ _=>by omega⟩
theorem SiftU.done {g:Nat→Int} {o lo r hi:Nat} (h:SiftU g o lo r hi) (hr:∀ c,(c=2*r+1∨c=2*r+2)→c<hi→g (o+c)≤g (o+r)):HeapU g o lo hi:=fun i c hl hc hh=>by
 by_cases e:i=r
 ·subst e; exact hr c hc hh
 ·exact h.oth i c hl e hc hh
theorem SiftU.step {g:Nat→Int} {o lo r hi c:Nat} (h:SiftU g o lo r hi) (hl:lo≤r) (hc:c=2*r+1∨c=2*r+2) (hch:c<hi) (hmax:∀ d,(d=2*r+1∨d=2*r+2)→d<hi→g (o+d)≤g (o+c)) (hlt:g (o+r)<g (o+c)):SiftU (sw g (o+r) (o+c)) o lo c hi:=by
 refine ⟨fun i d hi' hne hd hh=>?_,fun p e hp hcp he hh=>?_⟩
 ·by_cases e1:i=r
  ·rw [e1,G2]
   by_cases e2:d=c
   ·rw [e2,D0]; omega
   ·rw [Ei (by omega) (by omega)]; exact hmax d (by omega) hh
  ·rw [Ei (k:=o+i) (by omega) (by omega)]
   by_cases e2:d=r
   ·rw [e2,G2]; exact h.up i c hi' (by omega) hc hch
   ·rw [Ei (by omega) (by omega)]; exact h.oth i d hi' e1 hd hh
 ·have e1:p=r:=by omega
  rw [e1,G2,Ei (by omega) (by omega)]
  exact h.oth c e (by omega) (by omega) he hh
/-- The root is the greatest. -/
theorem HeapU.root {g:Nat→Int} {o hi:Nat} (h:HeapU g o 0 hi):∀ i,i<hi→g (o+i)≤g (o+0):=fun i=>by
 induction i using Nat.strongRecOn with
 | _ i ih =>
  intro hi'
  rcases Nat.eq_zero_or_pos i with h0 | h0
  ·rw [h0]; exact Int.le_refl _
  ·exact Int.le_trans (h ((i - 1) / 2) i (Nat.zero_le _) (by omega) hi') (ih ((i - 1) / 2) (by omega) (by omega))

section
variable {w:World} {q n c m:Nat} {f:Nat→Int}

set_option maxRecDepth 20000 in
set_option maxHeartbeats 2000000 in
theorem TR {lo hi o:Nat} (hd:w.heap[q]? = some (Bl 24 (C4 f m))) (hb:o+hi≤n) (hn:n≤m) (hm:n≤1000000000) (hl:lo≤1000000000) (hH:HeapU f o (lo+1) hi) :
  Ret Tryz.prog 218 #[.slice (some ⟨q,0,none⟩) n c,.int .i64 (lo:Int),.int .i64 (hi:Int),.int .i64 (o:Int)] w fun v w'=>v = .tuple #[]∧∃ g,Sw o (o+hi) f g∧HeapU g o lo hi∧Ctx w [q] w' [(q,Bl 24 (C4 g m))]:=by
 obtain ⟨w0,rfl⟩:∃ w0,w0=w:=⟨_,rfl⟩
 have H:=Ctx.start1 hd
 refine A1 (fn:=Tryz.f218) Tryz.func218 rfl [.slice (some ⟨q,0,none⟩) n c,.int .i64 (lo:Int),.int .i64 (hi:Int),.int .i64 (o:Int)] rfl (by kernel_rfl) ?_
 refine Ag (Ad rfl rfl (Af rfl rfl (Ab (Aa (Au (Bi 75557863725914323417856 (α:=Nat × (Nat→Int)) (fun t=>[(8,.int .i64 (t.1:Int))]) (fun t w'=>lo≤t.1∧t.1≤1000000000∧Sw o (o+hi) f t.2∧SiftU t.2 o lo t.1 hi∧Ctx w0 [q] w' [(q,Bl 24 (C4 t.2 m))]) (fun t=>1000000000 - t.1) (lo,f) rfl ?_ ?_ ?_))))))
 ·exact ⟨rfl,trivial⟩
 ·exact ⟨Nat.le_refl _,hl,.refl _,.start hH,H⟩
 ·rintro ⟨r,g⟩ j0 w ⟨hr1,hr2,hS,hD,H⟩; dsimp only at hr1 hr2 hS hD H; dsimp only
  refine Au (Ag (Ad rfl rfl (Cf rfl rfl rfl (by omega) (by omega) ?_)))
  refine Ap rfl rfl rfl (by omega) (by omega) ?_
  rw [show 2*(r:Int)+1=((2*r+1:Nat):Int) by omega]
  refine Af rfl rfl (Ab (Aa (Aq (Ag (Ad rfl rfl (Ad rfl rfl (CD rfl rfl rfl (Ab (Aa (Ax _ rfl ?_ ?_))))))))))
  ·intro h1
   replace h1:=AF h1
   refine Bd (Aj (EA rfl (Aj (AD (CJ rfl rfl ?_)))))
   exact ⟨rfl,g,hS,hD.done fun c hc hh=>by omega,H⟩
  ·intro h1
   replace h1:=AG h1
   have e1:((o:Int)+((2*r+1:Nat):Int)).toNat=o+(2*r+1):=by omega
   have e2:((o:Int)+((2*r+1:Nat):Int)+1).toNat=o+(2*r+2):=by omega
   refine Av (Aa (Aq (Dw 137438822400 (α:=Unit) (fun _=>[(36,.bool (decide (2*r+2<hi∧g (o+(2*r+1))<g (o+(2*r+2)))))]) (fun _ w'=>Ctx w0 [q] w' [(q,Bl 24 (C4 g m))]) rfl ?_ ?_)))
   ·skip
    refine Ff 18 B3 (by kernel_rfl) rfl rfl ?_
    refine AM rfl rfl (CE rfl rfl rfl (by omega) (by omega) ?_)
    refine AM rfl rfl (KS rfl rfl rfl (Di rfl rfl (Dc 21 rfl ?_ ?_)))
    ·intro h1
     replace h1:=AF h1
     refine BT rfl rfl (AM rfl rfl (AM rfl rfl (CE rfl rfl rfl (by omega) (by omega) ?_)))
     refine AL rfl Be AY rfl rfl (by omega) (by omega) ?_
     refine Cc rfl BK rfl (by rintro _ rfl; exact ((Cv (H.drew.get at0) (by omega)))) ?_
     refine BT rfl rfl (AM rfl rfl (AM rfl rfl (CE rfl rfl rfl (by omega) (by omega) ?_)))
     refine CE rfl rfl rfl (by omega) (by omega) ?_
     refine AL rfl Be AY rfl rfl (by omega) (by omega) ?_
     refine Cc rfl BK rfl (by rintro _ rfl; exact ((Cv (H.drew.get at0) (by omega)))) ?_
     refine BQ ?_
     replace H:=H.drew
     refine Ao rfl Fo (E1 _ _ _) rfl ?_
     rintro v w ⟨rfl,rfl⟩
     rw [e1,e2]
     refine Am rfl rfl (.bool _) rfl (Ab (Aa ?_))
     exact ⟨(),rfl,⟨congrArg Value.bool (by rw [Bool.eq_iff_iff]; simp_all; try omega),trivial⟩,H⟩
    ·intro h2
     replace h2:=AG h2
     refine Az rfl (Az rfl (Az rfl (Az rfl (Az rfl (Az rfl (Az rfl (Az rfl (Az rfl (Az rfl ?_)))))))))
     refine Az rfl (Az rfl (Az rfl (BQ ?_)))
     replace H:=H.drew
     refine Ae rfl (A3 rfl rfl (.bool _) rfl (Ab (Aa ?_)))
     exact ⟨(),rfl,⟨congrArg Value.bool (by rw [Bool.eq_iff_iff]; simp_all; try omega),trivial⟩,H⟩
   ·rintro - j1 w H
    refine Em 412316860928 (α:=Nat) (fun d=>[(9,.int .i64 (d:Int))]) (fun d w'=>(d=2*r+1∨d=2*r+2)∧d<hi∧(∀ e,(e=2*r+1∨e=2*r+2)→e<hi→g (o+e)≤g (o+d))∧Ctx w0 [q] w' [(q,Bl 24 (C4 g m))]) rfl ?_ ?_
    ·skip
     refine Ax _ rfl ?_ ?_
     ·intro h2
      have h2:=of_decide_eq_true h2
      refine Aw (Ad rfl rfl (Ap rfl rfl rfl (by omega) (by omega) ?_))
      refine Af rfl rfl (Ab (Aa ?_))
      refine ⟨2*r+2,rfl,⟨congrArg (Value.int .i64) (by omega),trivial⟩,.inr rfl,h2.1,fun e he _=>?_,H⟩
      rcases he with rfl | rfl
      ·omega
      ·omega
     ·intro h2
      have h2:=of_decide_eq_false h2
      refine Av (Aa ?_)
      refine ⟨2*r+1,rfl,⟨rfl,trivial⟩,.inl rfl,by omega,fun e he hh=>?_,H⟩
      rcases he with rfl | rfl
      ·omega
      ·rcases Int.lt_or_le (g (o+(2*r+1))) (g (o+(2*r+2))) with h7 | h7
       ·exact absurd ⟨hh,h7⟩ h2
       ·exact h7
    ·rintro d j2 w ⟨hd1,hd2,hmax,H⟩
     have e3:((o:Int)+(r:Int)).toNat=o+r:=by omega
     have e4:((o:Int)+(d:Int)).toNat=o+d:=by omega
     refine Aq (Ek 12 B3 (by kernel_rfl) rfl rfl ?_)
     refine BT rfl rfl (AM rfl rfl (AM rfl rfl (CE rfl rfl rfl (by omega) (by omega) ?_)))
     refine AL rfl Be AY rfl rfl (by omega) (by omega) ?_
     refine Cc rfl BK rfl (by rintro _ rfl; exact ((Cv (H.drew.get at0) (by omega)))) ?_
     refine BT rfl rfl (AM rfl rfl (AM rfl rfl (CE rfl rfl rfl (by omega) (by omega) ?_)))
     refine AL rfl Be AY rfl rfl (by omega) (by omega) ?_
     refine Cc rfl BK rfl (by rintro _ rfl; exact ((Cv (H.drew.get at0) (by omega)))) ?_
     refine BQ ?_
     replace H:=H.drew
     refine Ao rfl Fo (E1 _ _ _) rfl ?_
     rintro v w ⟨rfl,rfl⟩
     rw [e3,e4]
     refine Bu rfl rfl (Ab (Aa (Ax _ rfl ?_ ?_)))
     ·intro h3
      replace h3:=Bp h3
      refine A9 (Al (A4 (Al (A4 (EM rfl rfl ?_)))))
      have h3:¬ g (o+r)<g (o+d):=by simpa using h3
      exact ⟨rfl,g,hS,hD.done fun c hc hh=>Int.le_trans (hmax c hc hh) (by omega),H⟩
     ·intro h3
      replace h3:=Bq h3
      have h3:g (o+r)<g (o+d):=by simpa using h3
      refine Av (Aa (CZ [([0,1,2,3,4,5,6,7,8,9,10,11,12,13,14,15,16,17,18,19,20],21),([22],23)] (fun z=>z.heap[q]? = some (Bl 24 (C4 g m))) [21,23] B3 (by kernel_rfl) (H.drew.get at0) ?_))
      refine Ba rfl rfl ?_
      refine Bo rfl rfl (AO rfl rfl (AO rfl rfl (DW rfl rfl rfl (by omega) (by omega) ?_)))
      refine Bo rfl rfl (AO rfl rfl (AO rfl rfl (DW rfl rfl rfl (by omega) (by omega) ?_)))
      refine Bo rfl rfl (AO rfl rfl (AO rfl rfl (DW rfl rfl rfl (by omega) (by omega) ?_)))
      refine AE rfl Be AY rfl rfl (by omega) (by omega) ?_
      refine Ck rfl BK rfl (fun _ hx=>(Cv hx (by omega))) ?_
      refine Bo rfl rfl (AO rfl rfl (AO rfl rfl (DW rfl rfl rfl (by omega) (by omega) ?_)))
      refine AE rfl Be AY rfl rfl (by omega) (by omega) ?_
      refine Ck rfl BK rfl (fun _ hx=>(Cv hx (by omega))) ?_
      refine AE rfl Be AY rfl rfl (by omega) (by omega) ?_
      refine BJ ?_
      replace H:=H.drew
      refine BP (o+r) (fun k => .int .u64 (if k=o+r then g (o+d) else g k)) (.int _ _) rfl AY rfl rfl rfl H at0 (by omega) (by omega) (by rw [if_pos rfl]; exact congrArg (fun z=>Value.int .u64 (g z)) (by omega)) (fun k _ hk=>by rw [if_neg hk]) ?_
      rintro w H
      refine Ab (BS rfl (Ba rfl rfl ?_))
      refine AE rfl Be AY rfl rfl (by omega) (by omega) ?_
      refine BJ (BP (o+d) (fun k => .int .u64 (sw g (o+r) (o+d) k)) (.int _ _) rfl AY rfl rfl rfl H at0 (by omega) (by omega) (by rw [D0]; exact congrArg (fun z=>Value.int .u64 (g z)) (by omega)) (fun k _ hk=>by rw [Dv hk]) ?_)
      rintro w H
      refine Ab (BS rfl (Ch (Aw (Ad rfl rfl (Af rfl rfl (Ab (A5 (Aa ?_))))))))
      exact ⟨(d,sw g (o+r) (o+d)),rfl,⟨rfl,trivial⟩,⟨by dsimp only; omega,by dsimp only; omega,hS.step _ _ ⟨by omega,by omega⟩ ⟨by omega,by omega⟩,hD.step hr1 hd1 hd2 hmax h3,H⟩,by dsimp only; omega⟩

/-- Sorted behind i, and what is ahead is no greater. -/
structure HsU (g:Nat→Int) (a i b:Nat):Prop where
 srt:Ii g (a+i) b
 le:∀ x y,x<i→a+i≤y→y<b→g (a+x)≤g y
set_option maxRecDepth 20000 in
set_option maxHeartbeats 2000000 in
theorem QB {a b:Nat} (hd:w.heap[q]? = some (Bl 24 (C4 f m))) (hab:a<b) (hb:b≤n) (hn:n≤m) (hm:n≤1000000000) :
  Ret Tryz.prog 201 #[.slice (some ⟨q,0,none⟩) n c,.int .i64 (a:Int),.int .i64 (b:Int)] w fun v w'=>v = .tuple #[]∧∃ g,Sw a b f g∧Ii g a b∧Ctx w [q] w' [(q,Bl 24 (C4 g m))]:=by
 obtain ⟨w0,rfl⟩:∃ w0,w0=w:=⟨_,rfl⟩
 have H:=Ctx.start1 hd
 obtain ⟨l,rfl⟩:∃ l,b=a+l:=⟨b - a,by omega⟩
 have hl:((a+l:Nat):Int) - (a:Int)=(l:Int):=by omega
 have hl1:(l:Int) - 1=((l - 1:Nat):Int):=by omega
 refine A1 (fn:=Tryz.f201) Tryz.func201 rfl [.slice (some ⟨q,0,none⟩) n c,.int .i64 (a:Int),.int .i64 ((a+l:Nat):Int)] rfl (by kernel_rfl) ?_
 refine Ag (Ad rfl rfl (Af rfl rfl (Ab (Aa (Ag (Af rfl rfl (Ab (Aa (Ag (Ad rfl rfl (Ad rfl rfl ?_)))))))))))
 refine Bf rfl rfl rfl (by omega) (by omega) ?_
 rw [hl]
 refine Af rfl rfl (Ab (Aa (Aq (Ag (Ad rfl rfl (Bf rfl rfl rfl (by omega) (by omega) ?_))))))
 refine GK rfl rfl rfl (by omega) (by omega) (show _≤(9223372036854775807:Int) by omega) ?_
 refine Af rfl rfl (Ab (Aa (Au (Bi 133956096 (α:=Nat × (Nat→Int)) (fun t=>[(9,.int .i64 ((t.1:Int) - 1))]) (fun t w'=>t.1≤l+1∧Sw a (a+l) f t.2∧HeapU t.2 a t.1 l∧Ctx w0 [q] w' [(q,Bl 24 (C4 t.2 m))]) (fun t=>t.1) ((l - 1) / 2+1,f) rfl ?_ ?_ ?_))))
 ·exact ⟨congrArg (Value.int .i64) (by dsimp only; omega),trivial⟩
 ·exact ⟨by dsimp only; omega,.refl _,fun i c h1 h2 h3=>by dsimp only at h1; omega,H⟩
 ·rintro ⟨k,g⟩ j0 w ⟨hk,hS,hP,H⟩; dsimp only at hk hS hP H; dsimp only
  rcases k with _ | k
  ·skip
   refine Aq (Ag (Ad rfl rfl (CD rfl rfl rfl (Ab (Aa (Ax _ rfl ?_ ?_))))))
   ·intro h1
    replace h1:=AF h1
    omega
   ·intro h1
    replace h1:=AG h1
    refine Bd (Aj (Aj (AD (Aa (Ag (Ad rfl rfl (Bf rfl rfl rfl (by omega) (by omega) ?_)))))))
    refine Af rfl rfl (Ab (Aa (Au (Bi 72057593501058048 (α:=Nat × (Nat→Int)) (fun t=>[(10,.int .i64 ((t.1:Int) - 1))]) (fun t w'=>t.1≤l∧Sw a (a+l) f t.2∧HeapU t.2 a 0 t.1∧HsU t.2 a t.1 (a+l)∧Ctx w0 [q] w' [(q,Bl 24 (C4 t.2 m))]) (fun t=>t.1) (l,g) rfl ?_ ?_ ?_))))
    ·exact ⟨rfl,trivial⟩
    ·exact ⟨Nat.le_refl _,hS,hP,⟨fun x y h1 h2 h3=>by dsimp only at h1; omega,fun x y h1 h2 h3=>by dsimp only at h2; omega⟩,H⟩
    ·rintro ⟨k,g⟩ j1 w ⟨hk,hS,hP,hQ,H⟩; dsimp only at hk hS hP hQ H; dsimp only
     rcases k with _ | k
     ·skip
      refine Aq (Ag (Ad rfl rfl (CD rfl rfl rfl (Ab (Aa (Ax _ rfl ?_ ?_))))))
      ·intro h2
       replace h2:=AF h2
       omega
      ·intro h2
       replace h2:=AG h2
       refine Bd (Aj (Aj (AD (CJ rfl rfl ?_))))
       exact ⟨rfl,g,hS,hQ.srt,H⟩
     ·rw [show ((k+1:Nat):Int) - 1=(k:Int) by omega]
      refine Aq (Ag (Ad rfl rfl (CD rfl rfl rfl (Ab (Aa (Ax _ rfl ?_ ?_))))))
      ·intro h2
       replace h2:=AF h2
       refine Av (Aa (Aq (Au (CZ [([0,1,2,3,4,5,6,7,8,9,10,11,12,13,14,15,16],17),([18],19)] (fun z=>z.heap[q]? = some (Bl 24 (C4 g m))) [17,19] B3 (by kernel_rfl) (H.drew.get at0) ?_))))
       refine Ba rfl rfl ?_
       refine Bo rfl rfl (AO rfl rfl (Bo rfl rfl (AO rfl rfl (AO rfl rfl (DW rfl rfl rfl (by omega) (by omega) ?_)))))
       refine Bo rfl rfl (AO rfl rfl (AO rfl rfl (DW rfl rfl rfl (by omega) (by omega) ?_)))
       refine AE rfl Be AY rfl rfl (by omega) (by omega) ?_
       refine Ck rfl BK rfl (fun _ hx=>(Cv hx (by omega))) ?_
       refine Bo rfl rfl (AO rfl rfl (AE rfl Be AY rfl rfl (by omega) (by omega) ?_))
       refine Ck rfl BK rfl (fun _ hx=>(Cv hx (by omega))) ?_
       refine AE rfl Be AY rfl rfl (by omega) (by omega) ?_
       refine BJ ?_
       replace H:=H.drew
       refine BP (a+0) (fun z => .int .u64 (if z=a+0 then g (a+k) else g z)) (.int _ _) rfl AY rfl rfl rfl H at0 (by omega) (by omega) (by rw [if_pos rfl]; exact congrArg (fun z=>Value.int .u64 (g z)) (by omega)) (fun z _ hz=>by rw [if_neg hz]) ?_
       rintro w H
       refine Ab (BS rfl (Ba rfl rfl ?_))
       refine AE rfl Be AY rfl rfl (by omega) (by omega) ?_
       refine BJ (BP (a+k) (fun z => .int .u64 (sw g (a+0) (a+k) z)) (.int _ _) rfl AY rfl rfl rfl H at0 (by omega) (by omega) (by rw [D0]; exact congrArg (fun z=>Value.int .u64 (g z)) (by omega)) (fun z _ hz=>by rw [Dv hz]) ?_)
       rintro w H
       refine Ab (BS rfl (Ch (Aw (An rfl rfl (Ad rfl rfl (Ad rfl rfl (Ad rfl rfl (Ao rfl W5 (TR (lo:=0) (hi:=k) (o:=a) (f:=sw g (a+0) (a+k)) (H.get at0) (by omega) hn hm (by omega) (fun i c h1 h2 h3=>by rw [Ei (by omega) (by omega),Ei (by omega) (by omega)]; exact hP i c (by omega) h2 (by omega))) rfl ?_))))))))
       rintro rv w ⟨rfl,g2,hS2,hP2,H2⟩
       replace H:=Ctx.back (L1:=[_]) (L2:=[]) H H2
       refine Ab (A5 (Aa (Aw (Ad rfl rfl (Bf rfl rfl rfl (by omega) (by omega) ?_)))))
       refine Af rfl rfl (Ab (Aa ?_))
       have hout:=fun z hz=>hS2.out z hz
       have hk2:g2 (a+k)=g (a+0):=by rw [hout _ (.inr (Nat.le_refl _)),D0]
       have hot:∀ z,a+k<z→g2 z=g z:=fun z hz=>by rw [hout _ (.inr (by omega)),Ei (by omega) (by omega)]
       refine ⟨(k,g2),rfl,⟨rfl,trivial⟩,⟨by dsimp only; omega,(hS.step (a+0) (a+k) ⟨by omega,by omega⟩ ⟨by omega,by omega⟩).trans (hS2.mono (Nat.le_refl _) (by omega)),hP2,⟨fun x y h1 h2 h3=>?_,fun x y h1 h2 h3=>?_⟩,H⟩,by dsimp only; omega⟩
       ·dsimp only at h1 ⊢
        rw [hot y (by omega)]
        by_cases e:x=a+k
        ·rw [e,hk2]; exact hQ.le 0 y (by omega) (by omega) h3
        ·rw [hot x (by omega)]; exact hQ.srt x y (by omega) h2 h3
       ·dsimp only at h1 h2 ⊢
        obtain ⟨z,hz1,hz2,hz3⟩:=hS2.mem (a+x) (by omega) (by omega)
        obtain ⟨u,hu1,hu2⟩:∃ u,u<k+1∧g2 (a+x)=g (a+u):=by
         by_cases e:z=a+0
         ·exact ⟨k,by omega,by rw [hz3,e,G2]⟩
         ·exact ⟨z - a,by omega,by rw [hz3,Ei e (by omega)]; congr 1; omega⟩
        rw [hu2]
        by_cases e:y=a+k
        ·rw [e,hk2]; exact hP.root u hu1
        ·rw [hot y (by omega)]; exact hQ.le u y hu1 (by omega) h3
      ·intro h2
       replace h2:=AG h2
       omega
  ·rw [show ((k+1:Nat):Int) - 1=(k:Int) by omega]
   refine Aq (Ag (Ad rfl rfl (CD rfl rfl rfl (Ab (Aa (Ax _ rfl ?_ ?_))))))
   ·intro h1
    replace h1:=AF h1
    refine Av (Aa (Aq (Au (Aw (An rfl rfl (Ad rfl rfl (Ad rfl rfl (Ad rfl rfl (Ao rfl W5 (TR (lo:=k) (hi:=l) (o:=a) (f:=g) (H.get at0) (by omega) hn hm (by omega) hP) rfl ?_)))))))))
    rintro rv w ⟨rfl,g2,hS2,hP2,H2⟩
    replace H:=Ctx.back (L1:=[_]) (L2:=[]) H H2
    refine Ab (A5 (Aa (Aw (Ad rfl rfl (Bf rfl rfl rfl (by omega) (by omega) ?_)))))
    refine Af rfl rfl (Ab (Aa ?_))
    exact ⟨(k,g2),rfl,⟨rfl,trivial⟩,⟨by dsimp only; omega,hS.trans hS2,hP2,H⟩,by dsimp only; omega⟩
   ·intro h1
    replace h1:=AG h1
    omega
end

end Go.Proofs.YtapphbmlkdhnmaaGreat

/- Sorting numbers of 64 bits: which one is the pivot. -/
namespace Go.Proofs.YtapphbmlkdhnmaaGreat
open Go.GV
attribute [local irreducible] A2 W Wq Wt

section
variable {w:World} {q n c m s:Nat} {k:Int} {f:Nat→Int}

set_option maxRecDepth 20000 in
theorem KD {i j:Nat} (hd:w.heap[q]? = some (Bl 24 (C4 f m))) (hs:w.heap[s]? = some (Bl 3 [.int .i64 k])) (hi:i<n) (hj:j<n) (hn:n≤m) (hm:n≤1000000000) :
  Ret Tryz.prog 227 #[.slice (some ⟨q,0,none⟩) n c,.int .i64 (i:Int),.int .i64 (j:Int),ptr s] w fun v w'=>∃ (x y:Nat) (k':Int),((x=i∧y=j)∨(x=j∧y=i))∧v = .tuple #[.int .i64 (x:Int),.int .i64 (y:Int)]∧Ctx w [s] w' [(s,Bl 3 [.int .i64 k'])]:=by
 obtain ⟨w0,rfl⟩:∃ w0,w0=w:=⟨_,rfl⟩
 have H:=Ctx.start1 hs
 refine A1 (fn:=Tryz.f227) Tryz.func227 rfl [.slice (some ⟨q,0,none⟩) n c,.int .i64 (i:Int),.int .i64 (j:Int),.pointer (some ⟨s,0,none⟩)] rfl (by kernel_rfl) ?_
 refine Ag (Af rfl rfl (Af rfl rfl (Ab (Aa (Aq (Ek 8 B3 (by kernel_rfl) rfl rfl ?_))))))
 refine BT rfl rfl (AM rfl rfl (AL rfl Be AY rfl rfl (by omega) (by omega) ?_))
 refine Cc rfl BK rfl (by rintro _ rfl; exact ((Cv (w:=w0.drew) hd (by omega)))) ?_
 refine BT rfl rfl (AM rfl rfl (AL rfl Be AY rfl rfl (by omega) (by omega) ?_))
 refine Cc rfl BK rfl (by rintro _ rfl; exact ((Cv (w:=w0.drew) hd (by omega)))) ?_
 refine BQ ?_
 replace H:=H.drew
 refine Ao rfl Fo (E1 _ _ _) rfl ?_
 rintro v w ⟨rfl,rfl⟩
 refine Ab (Aa (Ax _ rfl ?_ ?_))
 ·intro h1
  refine Ag (Bj rfl rfl (Bc rfl rfl (AA rfl BH rfl H at0 rfl (Lc rfl rfl rfl ?_))))
  intro k2
  refine Bc rfl rfl (Cj (.int _ _) rfl EJ rfl rfl rfl H at0 (by (simp; done)) ?_)
  rintro w H
  refine Ab (Aa (Ag (Ad rfl rfl (Ad rfl rfl (Af rfl rfl (Af rfl rfl (Ab (Aa (A9 (Al (DK (v1:=(.int _ _)) (v2:=(.int _ _)) rfl rfl rfl rfl ?_)))))))))))
  exact ⟨j,i,k2,.inr ⟨rfl,rfl⟩,rfl,H⟩
 ·intro h1
  refine Av (Aa (Ag (Ad rfl rfl (Ad rfl rfl (Af rfl rfl (Af rfl rfl (Ab (Aa (A9 (DK (v1:=(.int _ _)) (v2:=(.int _ _)) rfl rfl rfl rfl ?_))))))))))
  exact ⟨i,j,k,.inl ⟨rfl,rfl⟩,rfl,H⟩

set_option maxRecDepth 20000 in
theorem NS {i j l:Nat} (hd:w.heap[q]? = some (Bl 24 (C4 f m))) (hs:w.heap[s]? = some (Bl 3 [.int .i64 k])) (hne:q≠s) (hi:i<n) (hj:j<n) (hl:l<n) (hn:n≤m) (hm:n≤1000000000) :
  Ret Tryz.prog 222 #[.slice (some ⟨q,0,none⟩) n c,.int .i64 (i:Int),.int .i64 (j:Int),.int .i64 (l:Int),ptr s] w fun v w'=>∃ (x:Nat) (k':Int),(x=i∨x=j∨x=l)∧v = .int .i64 (x:Int)∧Ctx w [s] w' [(s,Bl 3 [.int .i64 k'])]:=by
 obtain ⟨w0,rfl⟩:∃ w0,w0=w:=⟨_,rfl⟩
 have H:=Ctx.start1 hs
 have hq:q∉[s]:=by rw [List.mem_singleton]; exact hne
 refine A1 (fn:=Tryz.f222) Tryz.func222 rfl [.slice (some ⟨q,0,none⟩) n c,.int .i64 (i:Int),.int .i64 (j:Int),.int .i64 (l:Int),.pointer (some ⟨s,0,none⟩)] rfl (by kernel_rfl) ?_
 refine Ag (Af rfl rfl (Ab (Aa (Ag (An rfl rfl (Ad rfl rfl (Ad rfl rfl (Bj rfl rfl (Ao rfl Sn (KD (i:=i) (j:=j) (H.ext.to hd hq) (H.get at0) hi hj hn hm) rfl ?_)))))))))
 rintro v w ⟨x1,y1,k1,h1,rfl,H2⟩
 replace H:=Ctx.back (L1:=[_]) (L2:=[]) H H2
 refine BG rfl rfl (A7 rfl rfl rfl (A7 rfl rfl rfl (Af rfl rfl (Af rfl rfl (Ab (Aa (Ag (An rfl rfl (Ad rfl rfl (Ad rfl rfl ?_))))))))))
 refine Bj rfl rfl (Ao rfl Sn (KD (i:=y1) (j:=l) (H.ext.to hd hq) (H.get at0) (by omega) hl hn hm) rfl ?_)
 rintro v w ⟨x2,y2,k2,h2,rfl,H2⟩
 replace H:=Ctx.back (L1:=[_]) (L2:=[]) H H2
 refine BG rfl rfl (A7 rfl rfl rfl (A7 rfl rfl rfl (Af rfl rfl (Af rfl rfl (Ab (Aa (Ag (An rfl rfl (Ad rfl rfl (Ad rfl rfl ?_))))))))))
 refine Bj rfl rfl (Ao rfl Sn (KD (i:=x1) (j:=x2) (H.ext.to hd hq) (H.get at0) (by omega) (by omega) hn hm) rfl ?_)
 rintro v w ⟨x3,y3,k3,h3,rfl,H2⟩
 replace H:=Ctx.back (L1:=[_]) (L2:=[]) H H2
 refine BG rfl rfl (A7 rfl rfl rfl (A7 rfl rfl rfl (Af rfl rfl (Af rfl rfl (Ab (Aa (Ag (Ad rfl rfl (Af rfl rfl (Ab (Aa ?_)))))))))))
 refine A9 (AB (v:=(.int _ _)) rfl rfl rfl ?_)
 exact ⟨y3,k3,by omega,rfl,H⟩

set_option maxRecDepth 20000 in
theorem HV {i:Nat} (hd:w.heap[q]? = some (Bl 24 (C4 f m))) (hs:w.heap[s]? = some (Bl 3 [.int .i64 k])) (hne:q≠s) (hi0:0<i) (hi:i+1<n) (hn:n≤m) (hm:n≤1000000000) :
  Ret Tryz.prog 221 #[.slice (some ⟨q,0,none⟩) n c,.int .i64 (i:Int),ptr s] w fun v w'=>∃ (x:Nat) (k':Int),(x+1=i∨x=i∨x=i+1)∧v = .int .i64 (x:Int)∧Ctx w [s] w' [(s,Bl 3 [.int .i64 k'])]:=by
 obtain ⟨w0,rfl⟩:∃ w0,w0=w:=⟨_,rfl⟩
 refine A1 (fn:=Tryz.f221) Tryz.func221 rfl [.slice (some ⟨q,0,none⟩) n c,.int .i64 (i:Int),.pointer (some ⟨s,0,none⟩)] rfl (by kernel_rfl) ?_
 refine Ag (Af rfl rfl (Ab (Aa (Ag (An rfl rfl (Ad rfl rfl (Bf rfl rfl rfl (by omega) (by omega) ?_)))))))
 rw [show (i:Int) - 1=((i - 1:Nat):Int) by omega]
 refine Ad rfl rfl (Ad rfl rfl (Ap rfl rfl rfl (by omega) (by omega) ?_))
 rw [show (i:Int)+1=((i+1:Nat):Int) by omega]
 refine Bj rfl rfl (Ao rfl W6 (NS (i:=i - 1) (j:=i) (l:=i+1) hd hs hne (by omega) (by omega) (by omega) hn hm) rfl ?_)
 rintro v w ⟨x1,k1,h1,rfl,H⟩
 refine Af rfl rfl (Ab (Aa (A9 (AB (v:=(.int _ _)) rfl rfl rfl ?_))))
 exact ⟨x1,k1,by omega,rfl,H⟩

set_option maxRecDepth 20000 in
set_option maxHeartbeats 2000000 in
theorem Xp {a b:Nat} (hd:w.heap[q]? = some (Bl 24 (C4 f m))) (hab:a<b) (hb:b≤n) (hn:n≤m) (hm:n≤1000000000) :
  Ret Tryz.prog 203 #[.slice (some ⟨q,0,none⟩) n c,.int .i64 (a:Int),.int .i64 (b:Int)] w fun v w'=>∃ (x:Nat) (h:Int),a≤x∧x<b∧v = .tuple #[.int .i64 (x:Int),.int .i64 h]∧Ext [] w w':=by
 obtain ⟨w0,rfl⟩:∃ w0,w0=w:=⟨_,rfl⟩
 have H:=Ctx.start w0 []
 obtain ⟨l,rfl⟩:∃ l,b=a+l:=⟨b - a,by omega⟩
 have hl:((a+l:Nat):Int) - (a:Int)=(l:Int):=by omega
 have hql:=Bt hd
 refine A1 (fn:=Tryz.f203) Tryz.func203 rfl [.slice (some ⟨q,0,none⟩) n c,.int .i64 (a:Int),.int .i64 ((a+l:Nat):Int)] rfl (by kernel_rfl) ?_
 refine Ag (Af rfl rfl (Af rfl rfl (Ab (Aa (Ag (Ad rfl rfl (Ad rfl rfl (Bf rfl rfl rfl (by omega) (by omega) ?_))))))))
 rw [hl]
 refine Af rfl rfl (Ab (Aa (Ag (Bm rfl Qv H ?_))))
 rintro b9 w - H
 refine Ab (Aa (Ag (Ad rfl rfl (Ad rfl rfl (GK rfl rfl rfl (by omega) (by omega) (show _≤(9223372036854775807:Int) by omega) ?_)))))
 refine Cf rfl rfl rfl (by omega) (by omega) ?_
 refine Ap rfl rfl rfl (by omega) (by omega) ?_
 rw [show (a:Int)+(l:Int) / 4*1=((a+l / 4:Nat):Int) by omega]
 refine Af rfl rfl (Ab (Aa (Ag (Ad rfl rfl (Ad rfl rfl (GK rfl rfl rfl (by omega) (by omega) (show _≤(9223372036854775807:Int) by omega) ?_))))))
 refine Cf rfl rfl rfl (by omega) (by omega) ?_
 refine Ap rfl rfl rfl (by omega) (by omega) ?_
 rw [show (a:Int)+(l:Int) / 4*2=((a+l / 4*2:Nat):Int) by omega]
 refine Af rfl rfl (Ab (Aa (Ag (Ad rfl rfl (Ad rfl rfl (GK rfl rfl rfl (by omega) (by omega) (show _≤(9223372036854775807:Int) by omega) ?_))))))
 refine Cf rfl rfl rfl (by omega) (by omega) ?_
 refine Ap rfl rfl rfl (by omega) (by omega) ?_
 rw [show (a:Int)+(l:Int) / 4*3=((a+l / 4*3:Nat):Int) by omega]
 refine Af rfl rfl (Ab (Aa (Aq (Ag (Ad rfl rfl (CD rfl rfl rfl (Ab (Aa ?_))))))))
 have hqs:=H.own _ (List.mem_cons_self ..)
 have hne:q≠b9:=fun e=>by subst e; rcases hqs with h | h; cases h; dsimp only at h; omega
 refine Em 562941363493888 (α:=Nat × Int) (fun z=>[(11,.int .i64 (z.1:Int))]) (fun z w'=>a≤z.1∧z.1<a+l∧Ctx w0 [] w' [(b9,Bl 3 [.int .i64 z.2])]) rfl ?_ ?_
 ·skip
  refine Ax _ rfl ?_ ?_
  ·intro h1
   replace h1:=AF h1
   refine Aq (Ag (Ad rfl rfl (CD rfl rfl rfl (Ab (Aa (Em 17557826313216 (α:=Nat × Nat × Nat × Int) (fun z=>[(10,.int .i64 (z.1:Int)),(11,.int .i64 (z.2.1:Int)),(12,.int .i64 (z.2.2.1:Int))]) (fun z w'=>(a≤z.1∧z.1<a+l)∧(a≤z.2.1∧z.2.1<a+l)∧(a≤z.2.2.1∧z.2.2.1<a+l)∧Ctx w0 [] w' [(b9,Bl 3 [.int .i64 z.2.2.2])]) rfl ?_ ?_))))))
   ·skip
    refine Ax _ rfl ?_ ?_
    ·intro h2
     replace h2:=AF h2
     refine Ag (An rfl rfl (Ad rfl rfl (Ao rfl Sk (HV (i:=a+l / 4) (H.ext.to hd (by simp)) (H.get at0) hne (by omega) (by omega) hn hm) rfl ?_)))
     rintro v w ⟨x1,k1,h3,rfl,H2⟩
     replace H:=Ctx.back (L1:=[_]) (L2:=[]) H H2
     refine Af rfl rfl (Ab (Aa (Ag (An rfl rfl (Ad rfl rfl (Ao rfl Sk (HV (i:=a+l / 4*2) (H.ext.to hd (by simp)) (H.get at0) hne (by omega) (by omega) hn hm) rfl ?_))))))
     rintro v w ⟨x2,k2,h4,rfl,H2⟩
     replace H:=Ctx.back (L1:=[_]) (L2:=[]) H H2
     refine Af rfl rfl (Ab (Aa (Aw (An rfl rfl (Ad rfl rfl (Ao rfl Sk (HV (i:=a+l / 4*3) (H.ext.to hd (by simp)) (H.get at0) hne (by omega) (by omega) hn hm) rfl ?_))))))
     rintro v w ⟨x3,k3,h5,rfl,H2⟩
     replace H:=Ctx.back (L1:=[_]) (L2:=[]) H H2
     refine Af rfl rfl (Ab (Aa ?_))
     exact ⟨(x1,x2,x3,k3),rfl,⟨rfl,rfl,rfl,trivial⟩,by dsimp only; omega,by dsimp only; omega,by dsimp only; omega,H⟩
    ·intro h2
     replace h2:=AG h2
     refine Av (Aa ?_)
     exact ⟨(a+l / 4,a+l / 4*2,a+l / 4*3,_),rfl,⟨rfl,rfl,rfl,trivial⟩,by dsimp only; omega,by dsimp only; omega,by dsimp only; omega,H⟩
   ·rintro ⟨x1,x2,x3,k1⟩ j1 w ⟨g1,g2,g3,H⟩; dsimp only at g1 g2 g3 H; dsimp only
    refine Aw (An rfl rfl (Ad rfl rfl (Ad rfl rfl (Ad rfl rfl (Ao rfl W6 (NS (i:=x1) (j:=x2) (l:=x3) (H.ext.to hd (by simp)) (H.get at0) hne (by omega) (by omega) (by omega) hn hm) rfl ?_)))))
    rintro v w ⟨x4,k4,h3,rfl,H2⟩
    replace H:=Ctx.back (L1:=[_]) (L2:=[]) H H2
    refine Af rfl rfl (Ab (Aa ?_))
    exact ⟨(x4,k4),rfl,⟨rfl,trivial⟩,by dsimp only; omega,by dsimp only; omega,H⟩
  ·intro h1
   replace h1:=AG h1
   refine Av (Aa ?_)
   exact ⟨(a+l / 4*2,_),rfl,⟨rfl,trivial⟩,by dsimp only; omega,by dsimp only; omega,H⟩
 ·rintro ⟨x,k⟩ j w ⟨g1,g2,H⟩; dsimp only at g1 g2 H; dsimp only
  refine Ag (AA rfl BH rfl H at0 rfl (Ab (Aa (Au (Ag (BX rfl rfl rfl (Ai rfl rfl (Ab (Aa (Ax _ rfl ?_ ?_))))))))))
  ·intro h1
   replace h1:=AF h1
   refine Ag (Ad rfl rfl (Af rfl rfl (Af rfl rfl (Ab (Aa (A9 (A4 (DK (v1:=(.int _ _)) (v2:=(.int _ _)) rfl rfl rfl rfl ?_))))))))
   exact ⟨x,_,g1,g2,rfl,H.ext⟩
  ·intro h2
   replace h2:=AG h2
   refine Ag (BX rfl rfl rfl (Ai rfl rfl (Ab (Aa (Ax _ rfl ?_ ?_)))))
   ·intro h3
    replace h3:=AF h3
    refine Ag (Ad rfl rfl (Af rfl rfl (Af rfl rfl (Ab (Aa (A9 (A4 (DK (v1:=(.int _ _)) (v2:=(.int _ _)) rfl rfl rfl rfl ?_))))))))
    exact ⟨x,_,g1,g2,rfl,H.ext⟩
   ·intro h4
    replace h4:=AG h4
    refine Ag (Ad rfl rfl (Af rfl rfl (Af rfl rfl (Ab (Aa (A9 (A4 (DK (v1:=(.int _ _)) (v2:=(.int _ _)) rfl rfl rfl rfl ?_))))))))
    exact ⟨x,_,g1,g2,rfl,H.ext⟩

set_option maxRecDepth 20000 in
set_option maxHeartbeats 2000000 in
theorem S6 {a b:Nat} (hd:w.heap[q]? = some (Bl 24 (C4 f m))) (hab:a<b) (hb:b≤n) (hn:n≤m) (hm:n≤1000000000) :
  Ret Tryz.prog 204 #[.slice (some ⟨q,0,none⟩) n c,.int .i64 (a:Int),.int .i64 (b:Int)] w fun v w'=>v = .tuple #[]∧∃ g,Sw a b f g∧Ctx w [q] w' [(q,Bl 24 (C4 g m))]:=by
 obtain ⟨w0,rfl⟩:∃ w0,w0=w:=⟨_,rfl⟩
 have H:=Ctx.start1 hd
 refine A1 (fn:=Tryz.f204) Tryz.func204 rfl [.slice (some ⟨q,0,none⟩) n c,.int .i64 (a:Int),.int .i64 (b:Int)] rfl (by kernel_rfl) ?_
 refine Ag (Ad rfl rfl (Af rfl rfl (Ab (Aa (Ag (Ad rfl rfl (Bf rfl rfl rfl (by omega) (by omega) ?_)))))))
 rw [show (b:Int) - 1=((b - 1:Nat):Int) by omega]
 refine Af rfl rfl (Ab (Aa (Au (Bi 4294965440 (α:=Nat × Nat × (Nat→Int)) (fun t=>[(6,.int .i64 (t.1:Int)),(7,.int .i64 (t.2.1:Int))]) (fun t w'=>a≤t.1∧t.2.1<b∧t.1≤b∧Sw a b f t.2.2∧Ctx w0 [q] w' [(q,Bl 24 (C4 t.2.2 m))]) (fun t=>b - t.1) (a,b - 1,f) rfl ?_ ?_ ?_))))
 ·exact ⟨rfl,rfl,trivial⟩
 ·exact ⟨Nat.le_refl _,by dsimp only; omega,by dsimp only; omega,.refl _,H⟩
 ·rintro ⟨i,j,g⟩ j0 w ⟨g1,g2,g3,hS,H⟩; dsimp only at g1 g2 g3 hS H; dsimp only
  refine Aq (Ag (Ad rfl rfl (Ad rfl rfl (AN rfl rfl rfl (Ab (Aa (Ax _ rfl ?_ ?_)))))))
  ·intro h1
   replace h1:=AF h1
   refine Av (Aa (Au (CZ [([0,1,2,3,4,5,6,7,8,9,10,11,12],13),([14],15)] (fun z=>z.heap[q]? = some (Bl 24 (C4 g m))) [13,15] B3 (by kernel_rfl) (H.drew.get at0) ?_)))
   refine Ba rfl rfl ?_
   refine Bo rfl rfl (AO rfl rfl (Bo rfl rfl (AO rfl rfl (Bo rfl rfl (AO rfl rfl (AE rfl Be AY rfl rfl (by omega) (by omega) ?_))))))
   refine Ck rfl BK rfl (fun _ hx=>(Cv hx (by omega))) ?_
   refine Bo rfl rfl (AO rfl rfl (AE rfl Be AY rfl rfl (by omega) (by omega) ?_))
   refine Ck rfl BK rfl (fun _ hx=>(Cv hx (by omega))) ?_
   refine AE rfl Be AY rfl rfl (by omega) (by omega) ?_
   refine BJ ?_
   replace H:=H.drew
   refine BP i (fun z => .int .u64 (if z=i then g j else g z)) (.int _ _) rfl AY rfl rfl rfl H at0 (by omega) (by omega) (by rw [if_pos rfl]; exact congrArg (fun z=>Value.int .u64 (g z)) (by omega)) (fun z _ hz=>by rw [if_neg hz]) ?_
   rintro w H
   refine Ab (BS rfl (Ba rfl rfl ?_))
   refine AE rfl Be AY rfl rfl (by omega) (by omega) ?_
   refine BJ (BP j (fun z => .int .u64 (sw g i j z)) (.int _ _) rfl AY rfl rfl rfl H at0 (by omega) (by omega) (by rw [D0]; exact congrArg (fun z=>Value.int .u64 (g z)) (by omega)) (fun z _ hz=>by rw [Dv hz]) ?_)
   rintro w H
   refine Ab (BS rfl (Ch (Ag (Ad rfl rfl (Ap rfl rfl rfl (by omega) (by omega) ?_)))))
   refine Af rfl rfl (Ab (Aa (Aw (Ad rfl rfl (Bf rfl rfl rfl (by omega) (by omega) ?_)))))
   refine Af rfl rfl (Ab (A5 (Aa ?_)))
   exact ⟨(i+1,j - 1,sw g i j),rfl,⟨congrArg (Value.int .i64) (by dsimp only; omega),congrArg (Value.int .i64) (by dsimp only; omega),trivial⟩,⟨by dsimp only; omega,by dsimp only; omega,by dsimp only; omega,hS.step i j ⟨by omega,by omega⟩ ⟨by omega,by omega⟩,H⟩,by dsimp only; omega⟩
  ·intro h1
   replace h1:=AG h1
   refine Bd (Aj (Aj (AD (CJ rfl rfl ?_))))
   exact ⟨rfl,g,hS,H⟩
end

end Go.Proofs.YtapphbmlkdhnmaaGreat

/- Sorting numbers of 64 bits: parted by a pivot. -/
namespace Go.Proofs.YtapphbmlkdhnmaaGreat
open Go.GV
attribute [local irreducible] A2 W Wq Wt

/-- What stands ahead of one is no greater, what stands behind it no less. -/
structure PartU (g:Nat→Int) (a mid b:Nat):Prop where
 le:∀ x,a≤x→x<mid→g x≤g mid
 ge:∀ y,mid<y→y<b→g mid≤g y
theorem NT {g:Nat→Int} {a j b:Nat} (hj:a≤j) (h1:∀ x,a<x→x≤j→g x<g a) (h2:∀ y,j<y→y<b→g a≤g y):PartU (sw g j a) a j b:=by
 have hv:sw g j a j=g a:=G2 g j a
 refine ⟨fun x hx hxj=>?_,fun y hy hyb=>?_⟩
 ·rw [hv]
  by_cases e:x=a
  ·rw [e,D0]
   exact Int.le_of_lt (h1 j (by omega) (Nat.le_refl _))
  ·rw [Ei (by omega) e]; exact Int.le_of_lt (h1 x (by omega) (by omega))
 ·rw [hv,Ei (by omega) (by omega)]; exact h2 y hy hyb
theorem NU {g:Nat→Int} {a i j b:Nat} (h:a+1≤i∧i≤j+1∧j<b∧(∀ x,a<x→x<i→g x<g a)∧∀ y,j<y→y<b→g a≤g y) (hij:i<j) (hi:g a≤g i) (hj:g j<g a) :
  a+1≤i+1∧i+1≤j - 1+1∧j - 1<b∧(∀ x,a<x→x<i+1→sw g i j x<sw g i j a)∧∀ y,j - 1<y→y<b→sw g i j a≤sw g i j y:=by
 obtain ⟨h1,h2,h3,h4,h5⟩:=h
 have ha:sw g i j a=g a:=Ei (by omega) (by omega)
 rw [ha]
 refine ⟨by omega,by omega,by omega,fun x hx hxi=>?_,fun y hy hyb=>?_⟩
 ·by_cases e:x=i
  ·rw [e,G2]; exact hj
  ·rw [Ei e (by omega)]; exact h4 x hx (by omega)
 ·by_cases e:y=j
  ·rw [e,D0]; exact hi
  ·rw [Ei (by omega) e]; exact h5 y (by omega) hyb

section
variable {w:World} {q n c m:Nat} {f:Nat→Int}
set_option maxRecDepth 20000 in
set_option maxHeartbeats 4000000 in
theorem Pr {a b p:Nat} (hd:w.heap[q]? = some (Bl 24 (C4 f m))) (hab:a<b) (hb:b≤n) (hn:n≤m) (hm:n≤1000000000) (hp:a≤p∧p<b) :
  Ret Tryz.prog 208 #[.slice (some ⟨q,0,none⟩) n c,.int .i64 (a:Int),.int .i64 (b:Int),.int .i64 (p:Int)] w fun v w'=>∃ (mid:Nat) (t:Bool) (g:Nat→Int),v = .tuple #[.int .i64 (mid:Int),.bool t]∧Sw a b f g∧a≤mid∧mid<b∧PartU g a mid b∧Ctx w [q] w' [(q,Bl 24 (C4 g m))]:=by
 obtain ⟨w0,rfl⟩:∃ w0,w0=w:=⟨_,rfl⟩
 have H:=Ctx.start1 hd
 refine A1 (fn:=Tryz.f208) Tryz.func208 rfl [.slice (some ⟨q,0,none⟩) n c,.int .i64 (a:Int),.int .i64 (b:Int),.int .i64 (p:Int)] rfl (by kernel_rfl) ?_
 refine Ag (Af rfl rfl (Ai rfl rfl (Ab (Aa (CZ [([0,1,2,3,4,5,6,7,8,9,10,11,12],13),([14],15)] (fun z=>z.heap[q]? = some (Bl 24 (C4 (f) m))) [13,15] B3 (by kernel_rfl) (H.drew.get at0) ?_)))))
 refine Ba rfl rfl ?_
 refine Bo rfl rfl (AO rfl rfl (Bo rfl rfl (AO rfl rfl (Bo rfl rfl (AO rfl rfl (AE rfl Be AY rfl rfl (by omega) (by omega) ?_))))))
 refine Ck rfl BK rfl (fun _ hx=>(Cv hx (by omega))) ?_
 refine Bo rfl rfl (AO rfl rfl (AE rfl Be AY rfl rfl (by omega) (by omega) ?_))
 refine Ck rfl BK rfl (fun _ hx=>(Cv hx (by omega))) ?_
 refine AE rfl Be AY rfl rfl (by omega) (by omega) ?_
 refine BJ ?_
 replace H:=H.drew
 refine BP (a) (fun z => .int .u64 (if z=a then (f) (p) else (f) z)) (.int _ _) rfl AY rfl rfl rfl H at0 (by omega) (by omega) (by rw [if_pos rfl]; exact congrArg (fun z=>Value.int .u64 ((f) z)) (by omega)) (fun z _ hz=>by rw [if_neg hz]) ?_
 rintro w H
 refine Ab (BS rfl (Ba rfl rfl ?_))
 refine AE rfl Be AY rfl rfl (by omega) (by omega) ?_
 refine BJ (BP (p) (fun z => .int .u64 (sw (f) (a) (p) z)) (.int _ _) rfl AY rfl rfl rfl H at0 (by omega) (by omega) (by rw [D0]; exact congrArg (fun z=>Value.int .u64 ((f) z)) (by omega)) (fun z _ hz=>by rw [Dv hz]) ?_)
 rintro w H
 refine Ab (BS rfl (Ch ?_))
 have hS0:=(Sw.refl (a:=a) (b:=b) f).step a p ⟨by omega,by omega⟩ hp
 obtain ⟨g,hg⟩:∃ g,g=sw f a p:=⟨_,rfl⟩
 rw [← hg] at hS0 H
 have hi0:a+1≤(a+1)∧(a+1)≤(b - 1)+1∧(b - 1)<b∧(∀ x,a<x→x<(a+1)→(g) x<(g) a)∧∀ y,(b - 1)<y→y<b→(g) a≤(g) y:=⟨Nat.le_refl _,by omega,by omega,fun x h1 h2=>by omega,fun y h1 h2=>by omega⟩
 refine Ag (Ad rfl rfl (Ap rfl rfl rfl (by omega) (by omega) ?_))
 rw [show (a:Int)+1=((a+1:Nat):Int) by omega]
 refine Ad rfl rfl (Bf rfl rfl rfl (by omega) (by omega) ?_)
 rw [show (b:Int) - 1=((b - 1:Nat):Int) by omega]
 refine Af rfl rfl (Af rfl rfl (Ab (Aa (Aq (Au (Bi 70367670436864 (α:=Nat) (fun i=>[(10,.int .i64 (i:Int))]) (fun i w'=>(a+1≤i∧i≤(b - 1)+1∧(b - 1)<b∧(∀ x,a<x→x<i→(g) x<(g) a)∧∀ y,(b - 1)<y→y<b→(g) a≤(g) y)∧Ctx w0 [q] w' [(q,Bl 24 (C4 (g) m))]) (fun i=>b - i) (a+1) rfl ?_ ?_ ?_))))))
 ·exact ⟨by rfl,trivial⟩
 ·exact ⟨by assumption,H⟩
 ·rintro i jx w ⟨hiv,H⟩
  refine Aq (Dw 17591112302592 (α:=Unit) (fun _=>[(43,.bool (decide (i≤b - 1∧g i<g a)))]) (fun _ w'=>Ctx w0 [q] w' [(q,Bl 24 (C4 (g) m))]) rfl ?_ ?_)
  ·skip
   refine Ff 12 B3 (by kernel_rfl) rfl rfl ?_
   refine AM rfl rfl (AM rfl rfl (N5 rfl rfl rfl (Di rfl rfl (Dc 33 rfl ?_ ?_))))
   ·intro h1
    replace h1:=AF h1
    refine BT rfl rfl (AM rfl rfl (AL rfl Be AY rfl rfl (by omega) (by omega) ?_))
    refine Cc rfl BK rfl (by rintro _ rfl; exact ((Cv (H.drew.get at0) (by omega)))) ?_
    refine BT rfl rfl (AM rfl rfl (AL rfl Be AY rfl rfl (by omega) (by omega) ?_))
    refine Cc rfl BK rfl (by rintro _ rfl; exact ((Cv (H.drew.get at0) (by omega)))) ?_
    refine BQ ?_
    replace H:=H.drew
    refine Ao rfl Fo (E1 _ _ _) rfl ?_
    rintro v w ⟨rfl,rfl⟩
    simp only [Int.toNat_natCast]
    refine Am rfl rfl (.bool _) rfl (Ab (Aa ?_))
    exact ⟨(),rfl,⟨congrArg Value.bool (by clear hiv; rw [Bool.eq_iff_iff]; simp_all; try omega),trivial⟩,H⟩
   ·intro h2
    replace h2:=AG h2
    refine Az rfl (Az rfl (Az rfl (Az rfl (Az rfl (Az rfl (Az rfl (Az rfl (BQ ?_))))))))
    replace H:=H.drew
    refine Ae rfl (A3 rfl rfl (.bool _) rfl (Ab (Aa ?_)))
    exact ⟨(),rfl,⟨congrArg Value.bool (by clear hiv; rw [Bool.eq_iff_iff]; simp_all; try omega),trivial⟩,H⟩
  ·rintro - jy w H
   refine Ax _ rfl ?_ ?_
   ·intro hc
    have hc:=of_decide_eq_true hc
    refine Av (Aa (Au (Aw (Ad rfl rfl (Ap rfl rfl rfl (by omega) (by omega) ?_)))))
    refine Af rfl rfl (Ab (A5 (Aa ?_)))
    exact ⟨i+1,rfl,⟨congrArg (Value.int .i64) (by omega),trivial⟩,⟨⟨by omega,by omega,by omega,fun x h1 h2=>(if e:x=i then by rw [e]; exact hc.2 else hiv.2.2.2.1 x h1 (by omega)),hiv.2.2.2.2⟩,H⟩,by omega⟩
   ·intro hc
    have hc:=of_decide_eq_false hc
    have hci:=hc
    have hi0:=hiv
    refine Bd (Aj (Aj (AD (Aa (Aq (Au (Bi 9223301668110600192 (α:=Nat) (fun j=>[(11,.int .i64 (j:Int))]) (fun j w'=>(a+1≤i∧i≤j+1∧j<b∧(∀ x,a<x→x<i→(g) x<(g) a)∧∀ y,j<y→y<b→(g) a≤(g) y)∧Ctx w0 [q] w' [(q,Bl 24 (C4 (g) m))]) (fun j=>j) (b - 1) rfl ?_ ?_ ?_)))))))
    ·exact ⟨by rfl,trivial⟩
    ·exact ⟨by assumption,H⟩
    ·rintro j jx w ⟨hiv,H⟩
     refine Aq (Dw 2305772640469516288 (α:=Unit) (fun _=>[(60,.bool (decide (i≤j∧g a≤g j)))]) (fun _ w'=>Ctx w0 [q] w' [(q,Bl 24 (C4 (g) m))]) rfl ?_ ?_)
     ·skip
      refine Ff 12 B3 (by kernel_rfl) rfl rfl ?_
      refine AM rfl rfl (AM rfl rfl (N5 rfl rfl rfl (Di rfl rfl (Dc 49 rfl ?_ ?_))))
      ·intro h3
       replace h3:=AF h3
       refine BT rfl rfl (AM rfl rfl (AL rfl Be AY rfl rfl (by omega) (by omega) ?_))
       refine Cc rfl BK rfl (by rintro _ rfl; exact ((Cv (H.drew.get at0) (by omega)))) ?_
       refine BT rfl rfl (AM rfl rfl (AL rfl Be AY rfl rfl (by omega) (by omega) ?_))
       refine Cc rfl BK rfl (by rintro _ rfl; exact ((Cv (H.drew.get at0) (by omega)))) ?_
       refine BQ ?_
       replace H:=H.drew
       refine Ao rfl Fo (E1 _ _ _) rfl ?_
       rintro v w ⟨rfl,rfl⟩
       simp only [Int.toNat_natCast]
       refine Bu rfl rfl (Am rfl rfl (.bool _) rfl (Ab (Aa ?_)))
       exact ⟨(),rfl,⟨congrArg Value.bool (by clear hiv; rw [Bool.eq_iff_iff]; simp_all; try omega),trivial⟩,H⟩
      ·intro h4
       replace h4:=AG h4
       refine Az rfl (Az rfl (Az rfl (Az rfl (Az rfl (Az rfl (Az rfl (Az rfl (BQ ?_))))))))
       replace H:=H.drew
       refine Ae rfl (Ae rfl (A3 rfl rfl (.bool _) rfl (Ab (Aa ?_))))
       exact ⟨(),rfl,⟨congrArg Value.bool (by clear hiv; rw [Bool.eq_iff_iff]; simp_all; try omega),trivial⟩,H⟩
     ·rintro - jy w H
      refine Ax _ rfl ?_ ?_
      ·intro hc
       have hc:=of_decide_eq_true hc
       refine Av (Aa (Au (Aw (Ad rfl rfl (Bf rfl rfl rfl (by omega) (by omega) ?_)))))
       refine Af rfl rfl (Ab (A5 (Aa ?_)))
       exact ⟨j - 1,rfl,⟨congrArg (Value.int .i64) (by omega),trivial⟩,⟨⟨by omega,by omega,by omega,hiv.2.2.2.1,fun y h1 h2=>(if e:y=j then by rw [e]; exact hc.2 else hiv.2.2.2.2 y (by omega) h2)⟩,H⟩,by omega⟩
      ·intro hc
       have hc:=of_decide_eq_false hc
       have hci:¬ (i≤j∧g i<g a):=fun h=>hci ⟨by omega,h.2⟩
       refine Bd (Aj (Aj (AD (Aa (Aq (Ag (Ad rfl rfl (Ad rfl rfl (C0 rfl rfl rfl (Ab (Aa (Ax _ rfl ?_ ?_))))))))))))
       ·intro h5
        replace h5:=AF h5
        have hji:j+1=i:=by omega
        refine CZ [([0,1,2,3,4,5,6,7,8,9,10,11,12],13),([14],15)] (fun z=>z.heap[q]? = some (Bl 24 (C4 (g) m))) [13,15] B3 (by kernel_rfl) (H.drew.get at0) ?_
        refine Ba rfl rfl ?_
        refine Bo rfl rfl (AO rfl rfl (Bo rfl rfl (AO rfl rfl (Bo rfl rfl (AO rfl rfl (AE rfl Be AY rfl rfl (by omega) (by omega) ?_))))))
        refine Ck rfl BK rfl (fun _ hx=>(Cv hx (by omega))) ?_
        refine Bo rfl rfl (AO rfl rfl (AE rfl Be AY rfl rfl (by omega) (by omega) ?_))
        refine Ck rfl BK rfl (fun _ hx=>(Cv hx (by omega))) ?_
        refine AE rfl Be AY rfl rfl (by omega) (by omega) ?_
        refine BJ ?_
        replace H:=H.drew
        refine BP (j) (fun z => .int .u64 (if z=j then (g) (a) else (g) z)) (.int _ _) rfl AY rfl rfl rfl H at0 (by omega) (by omega) (by rw [if_pos rfl]; exact congrArg (fun z=>Value.int .u64 ((g) z)) (by omega)) (fun z _ hz=>by rw [if_neg hz]) ?_
        rintro w H
        refine Ab (BS rfl (Ba rfl rfl ?_))
        refine AE rfl Be AY rfl rfl (by omega) (by omega) ?_
        refine BJ (BP (a) (fun z => .int .u64 (sw (g) (j) (a) z)) (.int _ _) rfl AY rfl rfl rfl H at0 (by omega) (by omega) (by rw [D0]; exact congrArg (fun z=>Value.int .u64 ((g) z)) (by omega)) (fun z _ hz=>by rw [Dv hz]) ?_)
        rintro w H
        refine Ab (BS rfl (Ch (Ag (Ad rfl rfl (Af rfl rfl (Ai rfl rfl (Ab (Aa (A9 (Al (DK (v1:=(.int _ _)) (v2:=(.bool _)) rfl rfl rfl rfl ?_)))))))))))
        exact ⟨j,true,sw g j a,rfl,hS0.step j a ⟨by omega,by omega⟩ ⟨by omega,by omega⟩,by omega,by omega,NT (by omega) (fun x h1 h2=>hiv.2.2.2.1 x h1 (by omega)) hiv.2.2.2.2,H⟩
       ·intro h5
        replace h5:=AG h5
        have hne:i<j:=by
         rcases Nat.lt_or_ge i j with h | h
         ·exact h
         ·obtain rfl:i=j:=by omega
          exact absurd ⟨Nat.le_refl i,by rcases Int.lt_or_le (g i) (g a) with h7 | h7; exact absurd ⟨Nat.le_refl i,h7⟩ hci; exact h7⟩ hc
        have hgi:g a≤g i:=by rcases Int.lt_or_le (g i) (g a) with h7 | h7; exact absurd ⟨by omega,h7⟩ hci; exact h7
        have hgj:g j<g a:=by rcases Int.lt_or_le (g j) (g a) with h7 | h7; exact h7; exact absurd ⟨by omega,h7⟩ hc
        refine Av (Aa (CZ [([0,1,2,3,4,5,6,7,8,9,10,11,12],13),([14],15)] (fun z=>z.heap[q]? = some (Bl 24 (C4 (g) m))) [13,15] B3 (by kernel_rfl) (H.drew.get at0) ?_))
        refine Ba rfl rfl ?_
        refine Bo rfl rfl (AO rfl rfl (Bo rfl rfl (AO rfl rfl (Bo rfl rfl (AO rfl rfl (AE rfl Be AY rfl rfl (by omega) (by omega) ?_))))))
        refine Ck rfl BK rfl (fun _ hx=>(Cv hx (by omega))) ?_
        refine Bo rfl rfl (AO rfl rfl (AE rfl Be AY rfl rfl (by omega) (by omega) ?_))
        refine Ck rfl BK rfl (fun _ hx=>(Cv hx (by omega))) ?_
        refine AE rfl Be AY rfl rfl (by omega) (by omega) ?_
        refine BJ ?_
        replace H:=H.drew
        refine BP (i) (fun z => .int .u64 (if z=i then (g) (j) else (g) z)) (.int _ _) rfl AY rfl rfl rfl H at0 (by omega) (by omega) (by rw [if_pos rfl]; exact congrArg (fun z=>Value.int .u64 ((g) z)) (by omega)) (fun z _ hz=>by rw [if_neg hz]) ?_
        rintro w H
        refine Ab (BS rfl (Ba rfl rfl ?_))
        refine AE rfl Be AY rfl rfl (by omega) (by omega) ?_
        refine BJ (BP (j) (fun z => .int .u64 (sw (g) (i) (j) z)) (.int _ _) rfl AY rfl rfl rfl H at0 (by omega) (by omega) (by rw [D0]; exact congrArg (fun z=>Value.int .u64 ((g) z)) (by omega)) (fun z _ hz=>by rw [Dv hz]) ?_)
        rintro w H
        refine Ab (BS rfl (Ch (Ag (Ad rfl rfl (Ap rfl rfl rfl (by omega) (by omega) ?_)))))
        refine Af rfl rfl (Ab (Aa (Ag (Ad rfl rfl (Bf rfl rfl rfl (by omega) (by omega) ?_)))))
        refine Af rfl rfl (Ab (Aa (Aq (Au (Bi 11417981541647678414640987641481260342710373376 (α:=Nat × Nat × (Nat→Int)) (fun t=>[(10,.int .i64 (t.1:Int)),(11,.int .i64 (t.2.1:Int))]) (fun t w'=>(a+1≤t.1∧t.1≤t.2.1+1∧t.2.1<b∧(∀ x,a<x→x<t.1→(t.2.2) x<(t.2.2) a)∧∀ y,t.2.1<y→y<b→(t.2.2) a≤(t.2.2) y)∧Sw a b f t.2.2∧Ctx w0 [q] w' [(q,Bl 24 (C4 t.2.2 m))]) (fun t=>b - t.1) (i+1,j - 1,sw g i j) rfl ?_ ?_ ?_)))))
        ·exact ⟨rfl,congrArg (Value.int .i64) (by dsimp only; omega),trivial⟩
        ·exact ⟨NU hiv hne hgi hgj,hS0.step i j ⟨by omega,by omega⟩ ⟨by omega,by omega⟩,H⟩
        ·rintro ⟨i,j,g⟩ j0 w ⟨hi0,hS0,H⟩; dsimp only at hi0 hS0 H; dsimp only
         obtain ⟨i0,hi0e⟩:∃ i0,i0=i:=⟨_,rfl⟩
         obtain ⟨j1,hj1e⟩:∃ j1,j1=j:=⟨_,rfl⟩
         have hi1:i0≤i∧a+1≤i∧i≤j+1∧j<b∧(∀ x,a<x→x<i→(g) x<(g) a)∧∀ y,j<y→y<b→(g) a≤(g) y:=⟨by omega,hi0⟩
         refine Au (Aq (Au (Bi 41537741042978506913543222282159104 (α:=Nat) (fun i=>[(10,.int .i64 (i:Int))]) (fun i w'=>(i0≤i∧a+1≤i∧i≤j+1∧j<b∧(∀ x,a<x→x<i→(g) x<(g) a)∧∀ y,j<y→y<b→(g) a≤(g) y)∧Ctx w0 [q] w' [(q,Bl 24 (C4 (g) m))]) (fun i=>j+1 - i) i rfl ?_ ?_ ?_)))
         ·exact ⟨by rfl,trivial⟩
         ·exact ⟨hi1,H⟩
         ·rintro i jx w ⟨hiv,H⟩
          refine Aq (Dw 10383959891769541142360244306837504 (α:=Unit) (fun _=>[(112,.bool (decide (i≤j∧g i<g a)))]) (fun _ w'=>Ctx w0 [q] w' [(q,Bl 24 (C4 (g) m))]) rfl ?_ ?_)
          ·skip
           refine Ff 12 B3 (by kernel_rfl) rfl rfl ?_
           refine AM rfl rfl (AM rfl rfl (N5 rfl rfl rfl (Di rfl rfl (Dc 102 rfl ?_ ?_))))
           ·intro h5
            replace h5:=AF h5
            refine BT rfl rfl (AM rfl rfl (AL rfl Be AY rfl rfl (by omega) (by omega) ?_))
            refine Cc rfl BK rfl (by rintro _ rfl; exact ((Cv (H.drew.get at0) (by omega)))) ?_
            refine BT rfl rfl (AM rfl rfl (AL rfl Be AY rfl rfl (by omega) (by omega) ?_))
            refine Cc rfl BK rfl (by rintro _ rfl; exact ((Cv (H.drew.get at0) (by omega)))) ?_
            refine BQ ?_
            replace H:=H.drew
            refine Ao rfl Fo (E1 _ _ _) rfl ?_
            rintro v w ⟨rfl,rfl⟩
            simp only [Int.toNat_natCast]
            refine Am rfl rfl (.bool _) rfl (Ab (Aa ?_))
            exact ⟨(),rfl,⟨congrArg Value.bool (by clear hiv; rw [Bool.eq_iff_iff]; simp_all; try omega),trivial⟩,H⟩
           ·intro h6
            replace h6:=AG h6
            refine Az rfl (Az rfl (Az rfl (Az rfl (Az rfl (Az rfl (Az rfl (Az rfl (BQ ?_))))))))
            replace H:=H.drew
            refine Ae rfl (A3 rfl rfl (.bool _) rfl (Ab (Aa ?_)))
            exact ⟨(),rfl,⟨congrArg Value.bool (by clear hiv; rw [Bool.eq_iff_iff]; simp_all; try omega),trivial⟩,H⟩
          ·rintro - jy w H
           refine Ax _ rfl ?_ ?_
           ·intro hc
            have hc:=of_decide_eq_true hc
            refine Av (Aa (Au (Aw (Ad rfl rfl (Ap rfl rfl rfl (by omega) (by omega) ?_)))))
            refine Af rfl rfl (Ab (A5 (Aa ?_)))
            exact ⟨i+1,rfl,⟨congrArg (Value.int .i64) (by omega),trivial⟩,⟨⟨by omega,by omega,by omega,by omega,fun x h1 h2=>(if e:x=i then by rw [e]; exact hc.2 else hiv.2.2.2.2.1 x h1 (by omega)),hiv.2.2.2.2.2⟩,H⟩,by omega⟩
           ·intro hc
            have hc:=of_decide_eq_false hc
            have hci:=hc
            have hi2:j≤j1∧a+1≤i∧i≤j+1∧j<b∧(∀ x,a<x→x<i→(g) x<(g) a)∧∀ y,j<y→y<b→(g) a≤(g) y:=⟨by omega,hiv.2⟩
            have hi3:=hiv.1
            refine Bd (Aj (Aj (AD (Aa (Aq (Au (Bi 5444476332360147136792965474937657624576 (α:=Nat) (fun j=>[(11,.int .i64 (j:Int))]) (fun j w'=>(j≤j1∧a+1≤i∧i≤j+1∧j<b∧(∀ x,a<x→x<i→(g) x<(g) a)∧∀ y,j<y→y<b→(g) a≤(g) y)∧Ctx w0 [q] w' [(q,Bl 24 (C4 (g) m))]) (fun j=>j) j rfl ?_ ?_ ?_)))))))
            ·exact ⟨by rfl,trivial⟩
            ·exact ⟨hi2,H⟩
            ·rintro j jx w ⟨hiv,H⟩
             refine Aq (Dw 1361087929308885575232470185756439085056 (α:=Unit) (fun _=>[(129,.bool (decide (i≤j∧g a≤g j)))]) (fun _ w'=>Ctx w0 [q] w' [(q,Bl 24 (C4 (g) m))]) rfl ?_ ?_)
             ·skip
              refine Ff 12 B3 (by kernel_rfl) rfl rfl ?_
              refine AM rfl rfl (AM rfl rfl (N5 rfl rfl rfl (Di rfl rfl (Dc 118 rfl ?_ ?_))))
              ·intro h7
               replace h7:=AF h7
               refine BT rfl rfl (AM rfl rfl (AL rfl Be AY rfl rfl (by omega) (by omega) ?_))
               refine Cc rfl BK rfl (by rintro _ rfl; exact ((Cv (H.drew.get at0) (by omega)))) ?_
               refine BT rfl rfl (AM rfl rfl (AL rfl Be AY rfl rfl (by omega) (by omega) ?_))
               refine Cc rfl BK rfl (by rintro _ rfl; exact ((Cv (H.drew.get at0) (by omega)))) ?_
               refine BQ ?_
               replace H:=H.drew
               refine Ao rfl Fo (E1 _ _ _) rfl ?_
               rintro v w ⟨rfl,rfl⟩
               simp only [Int.toNat_natCast]
               refine Bu rfl rfl (Am rfl rfl (.bool _) rfl (Ab (Aa ?_)))
               exact ⟨(),rfl,⟨congrArg Value.bool (by clear hiv; rw [Bool.eq_iff_iff]; simp_all; try omega),trivial⟩,H⟩
              ·intro h8
               replace h8:=AG h8
               refine Az rfl (Az rfl (Az rfl (Az rfl (Az rfl (Az rfl (Az rfl (Az rfl (BQ ?_))))))))
               replace H:=H.drew
               refine Ae rfl (Ae rfl (A3 rfl rfl (.bool _) rfl (Ab (Aa ?_))))
               exact ⟨(),rfl,⟨congrArg Value.bool (by clear hiv; rw [Bool.eq_iff_iff]; simp_all; try omega),trivial⟩,H⟩
             ·rintro - jy w H
              refine Ax _ rfl ?_ ?_
              ·intro hc
               have hc:=of_decide_eq_true hc
               refine Av (Aa (Au (Aw (Ad rfl rfl (Bf rfl rfl rfl (by omega) (by omega) ?_)))))
               refine Af rfl rfl (Ab (A5 (Aa ?_)))
               exact ⟨j - 1,rfl,⟨congrArg (Value.int .i64) (by omega),trivial⟩,⟨⟨by omega,by omega,by omega,by omega,hiv.2.2.2.2.1,fun y h1 h2=>(if e:y=j then by rw [e]; exact hc.2 else hiv.2.2.2.2.2 y (by omega) h2)⟩,H⟩,by omega⟩
              ·intro hc
               have hc:=of_decide_eq_false hc
               have hci:¬ (i≤j∧g i<g a):=fun h=>hci ⟨by omega,h.2⟩
               replace hiv:=hiv.2
               refine Bd (Aj (Aj (AD (Aa (Aq (Ag (Ad rfl rfl (Ad rfl rfl (C0 rfl rfl rfl (Ab (Aa (Ax _ rfl ?_ ?_))))))))))))
               ·intro h5
                replace h5:=AF h5
                have hji:j+1=i:=by omega
                refine Bd (Aj (EA rfl (Aj (AD (Aa (CZ [([0,1,2,3,4,5,6,7,8,9,10,11,12],13),([14],15)] (fun z=>z.heap[q]? = some (Bl 24 (C4 (g) m))) [13,15] B3 (by kernel_rfl) (H.drew.get at0) ?_))))))
                refine Ba rfl rfl ?_
                refine Bo rfl rfl (AO rfl rfl (Bo rfl rfl (AO rfl rfl (Bo rfl rfl (AO rfl rfl (AE rfl Be AY rfl rfl (by omega) (by omega) ?_))))))
                refine Ck rfl BK rfl (fun _ hx=>(Cv hx (by omega))) ?_
                refine Bo rfl rfl (AO rfl rfl (AE rfl Be AY rfl rfl (by omega) (by omega) ?_))
                refine Ck rfl BK rfl (fun _ hx=>(Cv hx (by omega))) ?_
                refine AE rfl Be AY rfl rfl (by omega) (by omega) ?_
                refine BJ ?_
                replace H:=H.drew
                refine BP (j) (fun z => .int .u64 (if z=j then (g) (a) else (g) z)) (.int _ _) rfl AY rfl rfl rfl H at0 (by omega) (by omega) (by rw [if_pos rfl]; exact congrArg (fun z=>Value.int .u64 ((g) z)) (by omega)) (fun z _ hz=>by rw [if_neg hz]) ?_
                rintro w H
                refine Ab (BS rfl (Ba rfl rfl ?_))
                refine AE rfl Be AY rfl rfl (by omega) (by omega) ?_
                refine BJ (BP (a) (fun z => .int .u64 (sw (g) (j) (a) z)) (.int _ _) rfl AY rfl rfl rfl H at0 (by omega) (by omega) (by rw [D0]; exact congrArg (fun z=>Value.int .u64 ((g) z)) (by omega)) (fun z _ hz=>by rw [Dv hz]) ?_)
                rintro w H
                refine Ab (BS rfl (Ch (Ag (Ad rfl rfl (Af rfl rfl (Ai rfl rfl (Ab (Aa (A9 (DK (v1:=(.int _ _)) (v2:=(.bool _)) rfl rfl rfl rfl ?_))))))))))
                exact ⟨j,false,sw g j a,rfl,hS0.step j a ⟨by omega,by omega⟩ ⟨by omega,by omega⟩,by omega,by omega,NT (by omega) (fun x h1 h2=>hiv.2.2.2.1 x h1 (by omega)) hiv.2.2.2.2,H⟩
               ·intro h5
                replace h5:=AG h5
                have hne:i<j:=by
                 rcases Nat.lt_or_ge i j with h | h
                 ·exact h
                 ·obtain rfl:i=j:=by omega
                  exact absurd ⟨Nat.le_refl i,by rcases Int.lt_or_le (g i) (g a) with h7 | h7; exact absurd ⟨Nat.le_refl i,h7⟩ hci; exact h7⟩ hc
                refine Av (Aa (CZ [([0,1,2,3,4,5,6,7,8,9,10,11,12],13),([14],15)] (fun z=>z.heap[q]? = some (Bl 24 (C4 (g) m))) [13,15] B3 (by kernel_rfl) (H.drew.get at0) ?_))
                refine Ba rfl rfl ?_
                refine Bo rfl rfl (AO rfl rfl (Bo rfl rfl (AO rfl rfl (Bo rfl rfl (AO rfl rfl (AE rfl Be AY rfl rfl (by omega) (by omega) ?_))))))
                refine Ck rfl BK rfl (fun _ hx=>(Cv hx (by omega))) ?_
                refine Bo rfl rfl (AO rfl rfl (AE rfl Be AY rfl rfl (by omega) (by omega) ?_))
                refine Ck rfl BK rfl (fun _ hx=>(Cv hx (by omega))) ?_
                refine AE rfl Be AY rfl rfl (by omega) (by omega) ?_
                refine BJ ?_
                replace H:=H.drew
                refine BP (i) (fun z => .int .u64 (if z=i then (g) (j) else (g) z)) (.int _ _) rfl AY rfl rfl rfl H at0 (by omega) (by omega) (by rw [if_pos rfl]; exact congrArg (fun z=>Value.int .u64 ((g) z)) (by omega)) (fun z _ hz=>by rw [if_neg hz]) ?_
                rintro w H
                refine Ab (BS rfl (Ba rfl rfl ?_))
                refine AE rfl Be AY rfl rfl (by omega) (by omega) ?_
                refine BJ (BP (j) (fun z => .int .u64 (sw (g) (i) (j) z)) (.int _ _) rfl AY rfl rfl rfl H at0 (by omega) (by omega) (by rw [D0]; exact congrArg (fun z=>Value.int .u64 ((g) z)) (by omega)) (fun z _ hz=>by rw [Dv hz]) ?_)
                rintro w H
                refine Ab (BS rfl (Ch (Ag (Ad rfl rfl (Ap rfl rfl rfl (by omega) (by omega) ?_)))))
                refine Af rfl rfl (Ab (Aa (Aw (Ad rfl rfl (Bf rfl rfl rfl (by omega) (by omega) ?_)))))
                refine Af rfl rfl (Ab (A5 (Aa ?_)))
                have hgi:g a≤g i:=by rcases Int.lt_or_le (g i) (g a) with h7 | h7; exact absurd ⟨by omega,h7⟩ hci; exact h7
                have hgj:g j<g a:=by rcases Int.lt_or_le (g j) (g a) with h7 | h7; exact h7; exact absurd ⟨by omega,h7⟩ hc
                exact ⟨(i+1,j - 1,sw g i j),rfl,⟨rfl,congrArg (Value.int .i64) (by dsimp only; omega),trivial⟩,⟨NU hiv hne hgi hgj,hS0.step i j ⟨by omega,by omega⟩ ⟨by omega,by omega⟩,H⟩,by dsimp only; omega⟩
end

end Go.Proofs.YtapphbmlkdhnmaaGreat

/- Sorting numbers of 64 bits: those that are the same as the pivot; patterns broken; almost sorted. -/
namespace Go.Proofs.YtapphbmlkdhnmaaGreat
open Go.GV
attribute [local irreducible] A2 W Wq Wt

theorem Zu {g:Nat→Int} {a i j b:Nat} (h:a+1≤i∧i≤j+1∧j<b∧(∀ x,a<x→x<i→(g) x≤(g) a)∧∀ y,j<y→y<b→(g) a<(g) y) (hij:i<j) (hi:g a<g i) (hj:g j≤g a):a+1≤i+1∧i+1≤(j - 1)+1∧(j - 1)<b∧(∀ x,a<x→x<i+1→(sw g i j) x≤(sw g i j) a)∧∀ y,(j - 1)<y→y<b→(sw g i j) a<(sw g i j) y:=by
 obtain ⟨h1,h2,h3,h4,h5⟩:=h
 have ha:sw g i j a=g a:=Ei (by omega) (by omega)
 rw [ha]
 refine ⟨by omega,by omega,by omega,fun x hx hxi=>?_,fun y hy hyb=>?_⟩
 ·by_cases e:x=i
  ·rw [e,G2]; exact hj
  ·rw [Ei e (by omega)]; exact h4 x hx (by omega)
 ·by_cases e:y=j
  ·rw [e,D0]; exact hi
  ·rw [Ei (by omega) e]; exact h5 y (by omega) hyb

section
variable {w:World} {q n c m:Nat} {f:Nat→Int}
set_option maxRecDepth 20000 in
set_option maxHeartbeats 4000000 in
theorem UZ {a b p:Nat} (hd:w.heap[q]? = some (Bl 24 (C4 f m))) (hab:a<b) (hb:b≤n) (hn:n≤m) (hm:n≤1000000000) (hp:a≤p∧p<b) :
  Ret Tryz.prog 207 #[.slice (some ⟨q,0,none⟩) n c,.int .i64 (a:Int),.int .i64 (b:Int),.int .i64 (p:Int)] w fun v w'=>∃ (i:Nat) (g:Nat→Int),v = .int .i64 (i:Int)∧Sw a b f g∧a<i∧i≤b∧g a=f p∧(∀ x,a≤x→x<i→g x≤g a)∧(∀ y,i≤y→y<b→g a<g y)∧Ctx w [q] w' [(q,Bl 24 (C4 g m))]:=by
 obtain ⟨w0,rfl⟩:∃ w0,w0=w:=⟨_,rfl⟩
 have H:=Ctx.start1 hd
 refine A1 (fn:=Tryz.f207) Tryz.func207 rfl [.slice (some ⟨q,0,none⟩) n c,.int .i64 (a:Int),.int .i64 (b:Int),.int .i64 (p:Int)] rfl (by kernel_rfl) ?_
 refine Ag (Af rfl rfl (Ab (Aa (CZ [([0,1,2,3,4,5,6,7,8,9,10,11,12],13),([14],15)] (fun z=>z.heap[q]? = some (Bl 24 (C4 (f) m))) [13,15] B3 (by kernel_rfl) (H.drew.get at0) ?_))))
 refine Ba rfl rfl ?_
 refine Bo rfl rfl (AO rfl rfl (Bo rfl rfl (AO rfl rfl (Bo rfl rfl (AO rfl rfl (AE rfl Be AY rfl rfl (by omega) (by omega) ?_))))))
 refine Ck rfl BK rfl (fun _ hx=>(Cv hx (by omega))) ?_
 refine Bo rfl rfl (AO rfl rfl (AE rfl Be AY rfl rfl (by omega) (by omega) ?_))
 refine Ck rfl BK rfl (fun _ hx=>(Cv hx (by omega))) ?_
 refine AE rfl Be AY rfl rfl (by omega) (by omega) ?_
 refine BJ ?_
 replace H:=H.drew
 refine BP (a) (fun z => .int .u64 (if z=a then (f) (p) else (f) z)) (.int _ _) rfl AY rfl rfl rfl H at0 (by omega) (by omega) (by rw [if_pos rfl]; exact congrArg (fun z=>Value.int .u64 ((f) z)) (by omega)) (fun z _ hz=>by rw [if_neg hz]) ?_
 rintro w H
 refine Ab (BS rfl (Ba rfl rfl ?_))
 refine AE rfl Be AY rfl rfl (by omega) (by omega) ?_
 refine BJ (BP (p) (fun z => .int .u64 (sw (f) (a) (p) z)) (.int _ _) rfl AY rfl rfl rfl H at0 (by omega) (by omega) (by rw [D0]; exact congrArg (fun z=>Value.int .u64 ((f) z)) (by omega)) (fun z _ hz=>by rw [Dv hz]) ?_)
 rintro w H
 refine Ab (BS rfl (Ch ?_))
 have hS0:=(Sw.refl (a:=a) (b:=b) f).step a p ⟨by omega,by omega⟩ hp
 obtain ⟨g,hg⟩:∃ g,g=sw f a p:=⟨_,rfl⟩
 have hga:g a=f p:=by rw [hg,G2]
 rw [← hg] at hS0 H
 refine Ag (Ad rfl rfl (Ap rfl rfl rfl (by omega) (by omega) ?_))
 rw [show (a:Int)+1=((a+1:Nat):Int) by omega]
 refine Ad rfl rfl (Bf rfl rfl rfl (by omega) (by omega) ?_)
 rw [show (b:Int) - 1=((b - 1:Nat):Int) by omega]
 refine Af rfl rfl (Af rfl rfl (Ab (Aa (Aq (Au (Bi 9671406556917032860780032 (α:=Nat × Nat × (Nat→Int)) (fun t=>[(9,.int .i64 (t.1:Int)),(10,.int .i64 (t.2.1:Int))]) (fun t w'=>(a+1≤t.1∧t.1≤t.2.1+1∧t.2.1<b∧(∀ x,a<x→x<t.1→(t.2.2) x≤(t.2.2) a)∧∀ y,t.2.1<y→y<b→(t.2.2) a<(t.2.2) y)∧t.2.2 a=f p∧Sw a b f t.2.2∧Ctx w0 [q] w' [(q,Bl 24 (C4 t.2.2 m))]) (fun t=>b - t.1) (a+1,b - 1,g) rfl ?_ ?_ ?_))))))
 ·exact ⟨rfl,rfl,trivial⟩
 ·exact ⟨⟨Nat.le_refl _,by dsimp only; omega,by dsimp only; omega,fun x h1 h2=>by dsimp only at h2; omega,fun y h1 h2=>by dsimp only at h1; omega⟩,hga,hS0,H⟩
 ·rintro ⟨i,j,g⟩ j0 w ⟨hi0,hga,hS0,H⟩; dsimp only at hi0 hga hS0 H; dsimp only
  obtain ⟨i0,hi0e⟩:∃ i0,i0=i:=⟨_,rfl⟩
  obtain ⟨j1,hj1e⟩:∃ j1,j1=j:=⟨_,rfl⟩
  have hi1:i0≤i∧a+1≤i∧i≤j+1∧j<b∧(∀ x,a<x→x<i→(g) x≤(g) a)∧∀ y,j<y→y<b→(g) a<(g) y:=⟨by omega,hi0⟩
  refine Au (Aq (Au (Bi 70368207307264 (α:=Nat) (fun i=>[(9,.int .i64 (i:Int))]) (fun i w'=>(i0≤i∧a+1≤i∧i≤j+1∧j<b∧(∀ x,a<x→x<i→(g) x≤(g) a)∧∀ y,j<y→y<b→(g) a<(g) y)∧Ctx w0 [q] w' [(q,Bl 24 (C4 (g) m))]) (fun i=>j+1 - i) i rfl ?_ ?_ ?_)))
  ·exact ⟨by rfl,trivial⟩
  ·exact ⟨hi1,H⟩
  ·rintro i jx w ⟨hiv,H⟩
   refine Aq (Dw 17591649173504 (α:=Unit) (fun _=>[(43,.bool (decide (i≤j∧¬ g a<g i)))]) (fun _ w'=>Ctx w0 [q] w' [(q,Bl 24 (C4 (g) m))]) rfl ?_ ?_)
   ·skip
    refine Ff 12 B3 (by kernel_rfl) rfl rfl ?_
    refine AM rfl rfl (AM rfl rfl (N5 rfl rfl rfl (Di rfl rfl (Dc 32 rfl ?_ ?_))))
    ·intro h1
     replace h1:=AF h1
     refine BT rfl rfl (AM rfl rfl (AL rfl Be AY rfl rfl (by omega) (by omega) ?_))
     refine Cc rfl BK rfl (by rintro _ rfl; exact ((Cv (H.drew.get at0) (by omega)))) ?_
     refine BT rfl rfl (AM rfl rfl (AL rfl Be AY rfl rfl (by omega) (by omega) ?_))
     refine Cc rfl BK rfl (by rintro _ rfl; exact ((Cv (H.drew.get at0) (by omega)))) ?_
     refine BQ ?_
     replace H:=H.drew
     refine Ao rfl Fo (E1 _ _ _) rfl ?_
     rintro v w ⟨rfl,rfl⟩
     simp only [Int.toNat_natCast]
     refine Bu rfl rfl (Am rfl rfl (.bool _) rfl (Ab (Aa ?_)))
     exact ⟨(),rfl,⟨congrArg Value.bool (by clear hiv; rw [Bool.eq_iff_iff]; simp_all; try omega),trivial⟩,H⟩
    ·intro h2
     replace h2:=AG h2
     refine Az rfl (Az rfl (Az rfl (Az rfl (Az rfl (Az rfl (Az rfl (Az rfl (BQ ?_))))))))
     replace H:=H.drew
     refine Ae rfl (Ae rfl (A3 rfl rfl (.bool _) rfl (Ab (Aa ?_))))
     exact ⟨(),rfl,⟨congrArg Value.bool (by clear hiv; rw [Bool.eq_iff_iff]; simp_all; try omega),trivial⟩,H⟩
   ·rintro - jy w H
    refine Ax _ rfl ?_ ?_
    ·intro hc
     have hc:=of_decide_eq_true hc
     refine Av (Aa (Au (Aw (Ad rfl rfl (Ap rfl rfl rfl (by omega) (by omega) ?_)))))
     refine Af rfl rfl (Ab (A5 (Aa ?_)))
     exact ⟨i+1,rfl,⟨congrArg (Value.int .i64) (by omega),trivial⟩,⟨⟨by omega,by omega,by omega,by omega,fun x h1 h2=>(if e:x=i then by rw [e]; omega else hiv.2.2.2.2.1 x h1 (by omega)),hiv.2.2.2.2.2⟩,H⟩,by omega⟩
    ·intro hc
     have hc:=of_decide_eq_false hc
     have hci:=hc
     have hi2:j≤j1∧a+1≤i∧i≤j+1∧j<b∧(∀ x,a<x→x<i→(g) x≤(g) a)∧∀ y,j<y→y<b→(g) a<(g) y:=⟨by omega,hiv.2⟩
     have hi3:=hiv.1
     refine Bd (Aj (Aj (AD (Aa (Aq (Au (Bi 4611615649683211264 (α:=Nat) (fun j=>[(10,.int .i64 (j:Int))]) (fun j w'=>(j≤j1∧a+1≤i∧i≤j+1∧j<b∧(∀ x,a<x→x<i→(g) x≤(g) a)∧∀ y,j<y→y<b→(g) a<(g) y)∧Ctx w0 [q] w' [(q,Bl 24 (C4 (g) m))]) (fun j=>j) j rfl ?_ ?_ ?_)))))))
     ·exact ⟨by rfl,trivial⟩
     ·exact ⟨hi2,H⟩
     ·rintro j jx w ⟨hiv,H⟩
      refine Aq (Dw 1152851135862669312 (α:=Unit) (fun _=>[(59,.bool (decide (i≤j∧g a<g j)))]) (fun _ w'=>Ctx w0 [q] w' [(q,Bl 24 (C4 (g) m))]) rfl ?_ ?_)
      ·skip
       refine Ff 12 B3 (by kernel_rfl) rfl rfl ?_
       refine AM rfl rfl (AM rfl rfl (N5 rfl rfl rfl (Di rfl rfl (Dc 49 rfl ?_ ?_))))
       ·intro h3
        replace h3:=AF h3
        refine BT rfl rfl (AM rfl rfl (AL rfl Be AY rfl rfl (by omega) (by omega) ?_))
        refine Cc rfl BK rfl (by rintro _ rfl; exact ((Cv (H.drew.get at0) (by omega)))) ?_
        refine BT rfl rfl (AM rfl rfl (AL rfl Be AY rfl rfl (by omega) (by omega) ?_))
        refine Cc rfl BK rfl (by rintro _ rfl; exact ((Cv (H.drew.get at0) (by omega)))) ?_
        refine BQ ?_
        replace H:=H.drew
        refine Ao rfl Fo (E1 _ _ _) rfl ?_
        rintro v w ⟨rfl,rfl⟩
        simp only [Int.toNat_natCast]
        refine Am rfl rfl (.bool _) rfl (Ab (Aa ?_))
        exact ⟨(),rfl,⟨congrArg Value.bool (by clear hiv; rw [Bool.eq_iff_iff]; simp_all; try omega),trivial⟩,H⟩
       ·intro h4
        replace h4:=AG h4
        refine Az rfl (Az rfl (Az rfl (Az rfl (Az rfl (Az rfl (Az rfl (Az rfl (BQ ?_))))))))
        replace H:=H.drew
        refine Ae rfl (A3 rfl rfl (.bool _) rfl (Ab (Aa ?_)))
        exact ⟨(),rfl,⟨congrArg Value.bool (by clear hiv; rw [Bool.eq_iff_iff]; simp_all; try omega),trivial⟩,H⟩
      ·rintro - jy w H
       refine Ax _ rfl ?_ ?_
       ·intro hc
        have hc:=of_decide_eq_true hc
        refine Av (Aa (Au (Aw (Ad rfl rfl (Bf rfl rfl rfl (by omega) (by omega) ?_)))))
        refine Af rfl rfl (Ab (A5 (Aa ?_)))
        exact ⟨j - 1,rfl,⟨congrArg (Value.int .i64) (by omega),trivial⟩,⟨⟨by omega,by omega,by omega,by omega,hiv.2.2.2.2.1,fun y h1 h2=>(if e:y=j then by rw [e]; exact hc.2 else hiv.2.2.2.2.2 y (by omega) h2)⟩,H⟩,by omega⟩
       ·intro hc
        have hc:=of_decide_eq_false hc
        have hci:¬ (i≤j∧¬ g a<g i):=fun h=>hci ⟨by omega,h.2⟩
        replace hiv:=hiv.2
        refine Bd (Aj (Aj (AD (Aa (Aq (Ag (Ad rfl rfl (Ad rfl rfl (C0 rfl rfl rfl (Ab (Aa (Ax _ rfl ?_ ?_))))))))))))
        ·intro h5
         replace h5:=AF h5
         have hji:j+1=i:=by omega
         refine Bd (Aj (EA rfl (Aj (AD (Aa (Ag (Ad rfl rfl (Af rfl rfl (Ab (Aa (A9 (AB (v:=(.int _ _)) rfl rfl rfl ?_))))))))))))
         exact ⟨i,g,rfl,hS0,by omega,by omega,hga,fun x h1 h2=>(if e:x=a then by rw [e]; exact Int.le_refl _ else hiv.2.2.2.1 x (by omega) h2),fun y h1 h2=>hiv.2.2.2.2 y (by omega) h2,H⟩
        ·intro h5
         replace h5:=AG h5
         have hgi:g a<g i:=by rcases Int.lt_or_le (g a) (g i) with h7 | h7; exact h7; exact absurd ⟨by omega,by omega⟩ hci
         have hgj:g j≤g a:=by rcases Int.lt_or_le (g a) (g j) with h7 | h7; exact absurd ⟨by omega,h7⟩ hc; exact h7
         have hne:i<j:=by
          rcases Nat.lt_or_ge i j with h | h
          ·exact h
          ·obtain rfl:i=j:=by omega
           omega
         refine Av (Aa (CZ [([0,1,2,3,4,5,6,7,8,9,10,11,12],13),([14],15)] (fun z=>z.heap[q]? = some (Bl 24 (C4 (g) m))) [13,15] B3 (by kernel_rfl) (H.drew.get at0) ?_))
         refine Ba rfl rfl ?_
         refine Bo rfl rfl (AO rfl rfl (Bo rfl rfl (AO rfl rfl (Bo rfl rfl (AO rfl rfl (AE rfl Be AY rfl rfl (by omega) (by omega) ?_))))))
         refine Ck rfl BK rfl (fun _ hx=>(Cv hx (by omega))) ?_
         refine Bo rfl rfl (AO rfl rfl (AE rfl Be AY rfl rfl (by omega) (by omega) ?_))
         refine Ck rfl BK rfl (fun _ hx=>(Cv hx (by omega))) ?_
         refine AE rfl Be AY rfl rfl (by omega) (by omega) ?_
         refine BJ ?_
         replace H:=H.drew
         refine BP (i) (fun z => .int .u64 (if z=i then (g) (j) else (g) z)) (.int _ _) rfl AY rfl rfl rfl H at0 (by omega) (by omega) (by rw [if_pos rfl]; exact congrArg (fun z=>Value.int .u64 ((g) z)) (by omega)) (fun z _ hz=>by rw [if_neg hz]) ?_
         rintro w H
         refine Ab (BS rfl (Ba rfl rfl ?_))
         refine AE rfl Be AY rfl rfl (by omega) (by omega) ?_
         refine BJ (BP (j) (fun z => .int .u64 (sw (g) (i) (j) z)) (.int _ _) rfl AY rfl rfl rfl H at0 (by omega) (by omega) (by rw [D0]; exact congrArg (fun z=>Value.int .u64 ((g) z)) (by omega)) (fun z _ hz=>by rw [Dv hz]) ?_)
         rintro w H
         refine Ab (BS rfl (Ch (Ag (Ad rfl rfl (Ap rfl rfl rfl (by omega) (by omega) ?_)))))
         refine Af rfl rfl (Ab (Aa (Aw (Ad rfl rfl (Bf rfl rfl rfl (by omega) (by omega) ?_)))))
         refine Af rfl rfl (Ab (A5 (Aa ?_)))
         exact ⟨(i+1,j - 1,sw g i j),rfl,⟨rfl,congrArg (Value.int .i64) (by dsimp only; omega),trivial⟩,⟨Zu hiv hne hgi hgj,(Ei (by omega) (by omega)).trans hga,hS0.step i j ⟨by omega,by omega⟩ ⟨by omega,by omega⟩,H⟩,by dsimp only; omega⟩

set_option maxRecDepth 20000 in
set_option maxHeartbeats 4000000 in
theorem S7 {a b:Nat} (hd:w.heap[q]? = some (Bl 24 (C4 f m))) (hab:a<b) (hb:b≤n) (hn:n≤m) (hm:n≤1000000000) (hLB:0<a→∀ x,a≤x→x<b→f (a - 1)≤f x) :
  Ret Tryz.prog 205 #[.slice (some ⟨q,0,none⟩) n c,.int .i64 (a:Int),.int .i64 (b:Int)] w fun v w'=>∃ (t:Bool) (g:Nat→Int),v = .bool t∧Sw a b f g∧(t=true→Ii g a b)∧Ctx w [q] w' [(q,Bl 24 (C4 g m))]:=by
 obtain ⟨w0,rfl⟩:∃ w0,w0=w:=⟨_,rfl⟩
 have H:=Ctx.start1 hd
 refine A1 (fn:=Tryz.f205) Tryz.func205 rfl [.slice (some ⟨q,0,none⟩) n c,.int .i64 (a:Int),.int .i64 (b:Int)] rfl (by kernel_rfl) ?_
 refine Ag (Ai rfl rfl (Ab (Aa (Ag (Ad rfl rfl (Ap rfl rfl rfl (by omega) (by omega) ?_))))))
 rw [show (a:Int)+1=((a+1:Nat):Int) by omega]
 refine Af rfl rfl (Ab (Aa (Aq (Ag (Af rfl rfl (Ab (Aa (Au (Bi 10889035741470030830827987437816582760384 (α:=Nat × Nat × (Nat→Int)) (fun t=>[(8,.int .i64 (t.1:Int)),(7,.int .i64 (t.2.1:Int))]) (fun t w'=>t.1≤5∧(a+1≤t.2.1∧t.2.1≤b∧Ii t.2.2 a t.2.1)∧Sw a b f t.2.2∧Ctx w0 [q] w' [(q,Bl 24 (C4 t.2.2 m))]) (fun t=>5 - t.1) (0,a+1,f) rfl ?_ ?_ ?_)))))))))
 ·exact ⟨rfl,rfl,trivial⟩
 ·exact ⟨by dsimp only; omega,⟨Nat.le_refl _,by dsimp only; omega,fun x y h1 h2 h3=>by dsimp only at h3; omega⟩,.refl _,H⟩
 ·rintro ⟨st,i,g⟩ j0 w ⟨hst,hi0,hS0,H⟩; dsimp only at hst hi0 hS0 H; dsimp only
  refine Aq (Ag (Ad rfl rfl (AN rfl rfl rfl (Ab (Aa (Ax _ rfl ?_ ?_))))))
  ·intro h1
   replace h1:=AF h1
   have hLBg:0<a→∀ g',Sw a b f g'→∀ x,a≤x→x<b→g' (a - 1)≤g' x:=fun h0 g' h x hx hxb=>by
    obtain ⟨z,hz1,hz2,hz3⟩:=h.mem x hx hxb
    rw [h.out (a - 1) (.inl (by omega)),hz3]
    exact hLB h0 z hz1 hz2
   refine Av (Aa (Aq (Au (Aq (Au (Bi 34359607424 (α:=Nat) (fun i=>[(7,.int .i64 (i:Int))]) (fun i w'=>(a+1≤i∧i≤b∧Ii g a i)∧Ctx w0 [q] w' [(q,Bl 24 (C4 (g) m))]) (fun i=>b - i) i rfl ?_ ?_ ?_))))))
   ·exact ⟨by rfl,trivial⟩
   ·exact ⟨hi0,H⟩
   ·rintro i jx w ⟨hiv,H⟩
    refine Aq (Dw 8589803520 (α:=Unit) (fun _=>[(32,.bool (decide (i<b∧¬ g i<g (i - 1))))]) (fun _ w'=>Ctx w0 [q] w' [(q,Bl 24 (C4 (g) m))]) rfl ?_ ?_)
    ·skip
     refine Ff 13 B3 (by kernel_rfl) rfl rfl ?_
     refine AM rfl rfl (AM rfl rfl (KS rfl rfl rfl (Di rfl rfl (Dc 20 rfl ?_ ?_))))
     ·intro h1
      replace h1:=AF h1
      refine BT rfl rfl (AM rfl rfl (AL rfl Be AY rfl rfl (by omega) (by omega) ?_))
      refine Cc rfl BK rfl (by rintro _ rfl; exact ((Cv (H.drew.get at0) (by omega)))) ?_
      refine BT rfl rfl (AM rfl rfl (CW rfl rfl rfl (by omega) (by omega) ?_))
      refine AL rfl Be AY rfl rfl (by omega) (by omega) ?_
      refine Cc rfl BK rfl (by rintro _ rfl; exact ((Cv (H.drew.get at0) (by omega)))) ?_
      refine BQ ?_
      replace H:=H.drew
      refine Ao rfl Fo (E1 _ _ _) rfl ?_
      rintro v w ⟨rfl,rfl⟩
      rw [show ((i:Int) - 1).toNat=i - 1 by omega,Int.toNat_natCast]
      refine Bu rfl rfl (Am rfl rfl (.bool _) rfl (Ab (Aa ?_)))
      exact ⟨(),rfl,⟨congrArg Value.bool (by clear hiv; rw [Bool.eq_iff_iff]; simp_all; try omega),trivial⟩,H⟩
     ·intro h2
      replace h2:=AG h2
      refine Az rfl (Az rfl (Az rfl (Az rfl (Az rfl (Az rfl (Az rfl (Az rfl (Az rfl (BQ ?_)))))))))
      replace H:=H.drew
      refine Ae rfl (Ae rfl (A3 rfl rfl (.bool _) rfl (Ab (Aa ?_))))
      exact ⟨(),rfl,⟨congrArg Value.bool (by clear hiv; rw [Bool.eq_iff_iff]; simp_all; try omega),trivial⟩,H⟩
    ·rintro - jy w H
     refine Ax _ rfl ?_ ?_
     ·intro hc
      have hc:=of_decide_eq_true hc
      refine Av (Aa (Au (Aw (Ad rfl rfl (Ap rfl rfl rfl (by omega) (by omega) ?_)))))
      refine Af rfl rfl (Ab (A5 (Aa ?_)))
      exact ⟨i+1,rfl,⟨congrArg (Value.int .i64) (by omega),trivial⟩,⟨⟨by omega,by omega,fun x y hx hxy hy=>(if e:y=i then (by rw [e]; exact (if e2:x=i - 1 then by rw [e2]; omega else Int.le_trans (hiv.2.2 x (i - 1) hx (by omega) (by omega)) (by omega))) else hiv.2.2 x y hx hxy (by omega))⟩,H⟩,by omega⟩
     ·intro hc
      have hc:=of_decide_eq_false hc
      refine Bd (Aj (Aj (AD (Aa (Aq (Ag (Ad rfl rfl (Ad rfl rfl (BX rfl rfl rfl (Ab (Aa (Ax _ rfl ?_ ?_))))))))))))
      ·intro h2
       replace h2:=AF h2
       refine Ag (Ai rfl rfl (Ab (Aa (A9 (Al (A4 (Al (Al (A4 (Al (AB (v:=(.bool _)) rfl rfl rfl ?_)))))))))))
       obtain rfl:i=b:=by omega
       exact ⟨true,g,rfl,hS0,fun _=>hiv.2.2,H⟩
      ·intro h2
       replace h2:=AG h2
       have hib:i<b:=by omega
       have hlt:g i<g (i - 1):=by rcases Int.lt_or_le (g i) (g (i - 1)) with h7 | h7; exact h7; exact absurd ⟨hib,by omega⟩ hc
       refine Av (Aa (Aq (Ag (Ad rfl rfl (Ad rfl rfl (Bf rfl rfl rfl (by omega) (by omega) ?_))))))
       refine AN rfl rfl rfl (Ab (Aa (Ax _ rfl ?_ ?_)))
       ·intro h3
        replace h3:=AF h3
        refine Ag (Ai rfl rfl (Ab (Aa (A9 (Al (A4 (Al (Al (A4 (Al (AB (v:=(.bool _)) rfl rfl rfl ?_)))))))))))
        exact ⟨false,g,rfl,hS0,(fun h=>by cases h),H⟩
       ·intro h3
        replace h3:=AG h3
        refine Av (Aa (CZ [([0,1,2,3,4,5,6,7,8,9,10,11,12,13,14],15),([16],17)] (fun z=>z.heap[q]? = some (Bl 24 (C4 (g) m))) [15,17] B3 (by kernel_rfl) (H.drew.get at0) ?_))
        refine Ba rfl rfl ?_
        refine Bo rfl rfl (AO rfl rfl (Bo rfl rfl (AO rfl rfl (EC rfl rfl rfl (by omega) (by omega) ?_))))
        refine Bo rfl rfl (AO rfl rfl (EC rfl rfl rfl (by omega) (by omega) ?_))
        refine AE rfl Be AY rfl rfl (by omega) (by omega) ?_
        refine Ck rfl BK rfl (fun _ hx=>(Cv hx (by omega))) ?_
        refine Bo rfl rfl (AO rfl rfl (AE rfl Be AY rfl rfl (by omega) (by omega) ?_))
        refine Ck rfl BK rfl (fun _ hx=>(Cv hx (by omega))) ?_
        refine AE rfl Be AY rfl rfl (by omega) (by omega) ?_
        refine BJ ?_
        replace H:=H.drew
        refine BP (i) (fun z => .int .u64 (if z=i then (g) (i - 1) else (g) z)) (.int _ _) rfl AY rfl rfl rfl H at0 (by omega) (by omega) (by rw [if_pos rfl]; exact congrArg (fun z=>Value.int .u64 ((g) z)) (by omega)) (fun z _ hz=>by rw [if_neg hz]) ?_
        rintro w H
        refine Ab (BS rfl (Ba rfl rfl ?_))
        refine AE rfl Be AY rfl rfl (by omega) (by omega) ?_
        refine BJ (BP (i - 1) (fun z => .int .u64 (sw (g) (i) (i - 1) z)) (.int _ _) rfl AY rfl rfl rfl H at0 (by omega) (by omega) (by rw [D0]; exact congrArg (fun z=>Value.int .u64 ((g) z)) (by omega)) (fun z _ hz=>by rw [Dv hz]) ?_)
        rintro w H
        refine Ab (BS rfl (Ch (Aq ?_)))
        have hS1:=hS0.step i (i - 1) ⟨by omega,by omega⟩ ⟨by omega,by omega⟩
        have hI1:InsU (sw g i (i - 1)) a (i - 1) (i - 1):=fun x y hx hxy hy hne=>by rw [Ei (by omega) (by omega),Ei (by omega) (by omega)]; exact hiv.2.2 x y hx hxy (by omega)
        obtain ⟨g1,hg1⟩:∃ g1,g1=sw g i (i - 1):=⟨_,rfl⟩
        rw [← hg1] at hS1 hI1 H
        refine Ag (Ad rfl rfl (Ad rfl rfl (Bf rfl rfl rfl (by omega) (by omega) ?_)))
        refine CD rfl rfl rfl (Ab (Aa (Em 39614081252520482778344587776 (α:=Nat→Int) (fun _=>[]) (fun g w'=>Ii g a i∧Sw a b f g∧Ctx w0 [q] w' [(q,Bl 24 (C4 g m))]) rfl ?_ ?_)))
        ·skip
         refine Ax _ rfl ?_ ?_
         ·intro h4
          replace h4:=AF h4
          refine Ag (Ad rfl rfl (Bf rfl rfl rfl (by omega) (by omega) ?_))
          rw [show (i:Int) - 1=((i - 1:Nat):Int) by omega]
          refine Af rfl rfl (Ab (Aa (Au (Bi 39614081238685424723062424064 (α:=Nat × (Nat→Int)) (fun t=>[(9,.int .i64 (t.1:Int))]) (fun t w'=>(a≤t.1∧t.1≤i - 1∧InsU t.2 a t.1 (i - 1))∧Sw a b f t.2∧Ctx w0 [q] w' [(q,Bl 24 (C4 t.2 m))]) (fun t=>t.1) (i - 1,g1) rfl ?_ ?_ ?_))))
          ·exact ⟨rfl,trivial⟩
          ·exact ⟨⟨by dsimp only; omega,Nat.le_refl _,hI1⟩,hS1,H⟩
          ·rintro ⟨j,g⟩ j3 w ⟨hj,hS,H⟩; dsimp only at hj hS H; dsimp only
           have hex:(a<j→g (j - 1)≤g j)→Ii g a i:=fun h7=>by have h8:=hj.2.2.done hj.1 h7; rw [show i - 1+1=i by omega] at h8; exact h8
           refine Aq (Ag (Ad rfl rfl (CD rfl rfl rfl (Ab (Aa (Ax _ rfl ?_ ?_))))))
           ·intro h5
            replace h5:=AF h5
            refine Av (Aa (Aq (Au (Aq (Ek 9 B3 (by kernel_rfl) rfl rfl ?_)))))
            refine BT rfl rfl (AM rfl rfl (AL rfl Be AY rfl rfl (by omega) (by omega) ?_))
            refine Cc rfl BK rfl (by rintro _ rfl; exact ((Cv (H.drew.get at0) (by omega)))) ?_
            refine BT rfl rfl (AM rfl rfl (CW rfl rfl rfl (by omega) (by omega) ?_))
            refine AL rfl Be AY rfl rfl (by omega) (by omega) ?_
            refine Cc rfl BK rfl (by rintro _ rfl; exact ((Cv (H.drew.get at0) (by omega)))) ?_
            refine BQ ?_
            replace H:=H.drew
            refine Ao rfl Fo (E1 _ _ _) rfl ?_
            rintro v w ⟨rfl,rfl⟩
            rw [show ((j:Int) - 1).toNat=j - 1 by omega,Int.toNat_natCast]
            refine Bu rfl rfl (Ab (Aa (Ax _ rfl ?_ ?_)))
            ·intro h6
             replace h6:=Bp h6
             have h6:¬ g j<g (j - 1):=by simpa using h6
             refine Bd (Aj (EA rfl (Aj (Aj (AD (Aa ?_))))))
             exact ⟨g,rfl,trivial,hex fun _=>by omega,hS,H⟩
            ·intro h6
             replace h6:=Bq h6
             have h6:g j<g (j - 1):=by simpa using h6
             have haj:a<j:=by
              rcases Nat.lt_or_ge a j with h | h
              ·exact h
              ·obtain rfl:a=j:=by omega
               have:=hLBg (by omega) g hS a (Nat.le_refl _) hab
               omega
             refine Av (Aa (Fx [([0,1,2,3,4,5,6,7,8,9,10,11,12,13,14],15),([16],17)] (fun z=>z.heap[q]? = some (Bl 24 (C4 (g) m))) [15,17] B3 (by kernel_rfl) (H.drew.get at0) ?_))
             refine Ba rfl rfl ?_
             refine Bo rfl rfl (AO rfl rfl (Bo rfl rfl (AO rfl rfl (EC rfl rfl rfl (by omega) (by omega) ?_))))
             refine Bo rfl rfl (AO rfl rfl (EC rfl rfl rfl (by omega) (by omega) ?_))
             refine AE rfl Be AY rfl rfl (by omega) (by omega) ?_
             refine Ck rfl BK rfl (fun _ hx=>(Cv hx (by omega))) ?_
             refine Bo rfl rfl (AO rfl rfl (AE rfl Be AY rfl rfl (by omega) (by omega) ?_))
             refine Ck rfl BK rfl (fun _ hx=>(Cv hx (by omega))) ?_
             refine AE rfl Be AY rfl rfl (by omega) (by omega) ?_
             refine BJ ?_
             replace H:=H.drew
             refine BP (j) (fun z => .int .u64 (if z=j then (g) (j - 1) else (g) z)) (.int _ _) rfl AY rfl rfl rfl H at0 (by omega) (by omega) (by rw [if_pos rfl]; exact congrArg (fun z=>Value.int .u64 ((g) z)) (by omega)) (fun z _ hz=>by rw [if_neg hz]) ?_
             rintro w H
             refine Ab (BS rfl (Ba rfl rfl ?_))
             refine AE rfl Be AY rfl rfl (by omega) (by omega) ?_
             refine BJ (BP (j - 1) (fun z => .int .u64 (sw (g) (j) (j - 1) z)) (.int _ _) rfl AY rfl rfl rfl H at0 (by omega) (by omega) (by rw [D0]; exact congrArg (fun z=>Value.int .u64 ((g) z)) (by omega)) (fun z _ hz=>by rw [Dv hz]) ?_)
             rintro w H
             refine Ab (BS rfl (Ch (A5 (Aa (Aw (Ad rfl rfl (Bf rfl rfl rfl (by omega) (by omega) ?_)))))))
             refine Af rfl rfl (Ab (Aa ?_))
             exact ⟨(j - 1,sw g j (j - 1)),rfl,⟨congrArg (Value.int .i64) (by dsimp only; omega),trivial⟩,⟨⟨by dsimp only; omega,by dsimp only; omega,hj.2.2.step haj hj.2.1 h6⟩,hS.step j (j - 1) ⟨by omega,by omega⟩ ⟨by omega,by omega⟩,H⟩,by dsimp only; omega⟩
           ·intro h5
            replace h5:=AG h5
            refine Bd (Aj (Aj (AD (Aa ?_))))
            exact ⟨g,rfl,trivial,hex fun _=>by omega,hS,H⟩
         ·intro h4
          replace h4:=AG h4
          refine Av (Aa ?_)
          exact ⟨g1,rfl,trivial,fun x y hx hxy hy=>by omega,hS1,H⟩
        ·rintro g2 j4 w ⟨hO2,hS2,H⟩
         refine Ag (Ad rfl rfl (Ad rfl rfl (Bf rfl rfl rfl (by omega) (by omega) ?_)))
         refine CD rfl rfl rfl (Ab (Aa (Ax _ rfl ?_ ?_)))
         ·intro h4
          replace h4:=AF h4
          refine Ag (Ad rfl rfl (Ap rfl rfl rfl (by omega) (by omega) ?_))
          rw [show (i:Int)+1=((i+1:Nat):Int) by omega]
          refine Af rfl rfl (Ab (Aa (Au (Bi 10889035738934729630371528634823176356864 (α:=Nat × (Nat→Int)) (fun t=>[(10,.int .i64 (t.1:Int))]) (fun t w'=>(i+1≤t.1∧t.1≤b∧Ii t.2 a i)∧Sw a b f t.2∧Ctx w0 [q] w' [(q,Bl 24 (C4 t.2 m))]) (fun t=>b - t.1) (i+1,g2) rfl ?_ ?_ ?_))))
          ·exact ⟨rfl,trivial⟩
          ·exact ⟨⟨Nat.le_refl _,by dsimp only; omega,hO2⟩,hS2,H⟩
          ·rintro ⟨j,g⟩ j5 w ⟨hj,hS,H⟩; dsimp only at hj hS H; dsimp only
           refine Aq (Ag (Ad rfl rfl (Ad rfl rfl (AN rfl rfl rfl (Ab (Aa (Ax _ rfl ?_ ?_)))))))
           ·intro h5
            replace h5:=AF h5
            refine Av (Aa (Aq (Au (Aq (Ek 9 B3 (by kernel_rfl) rfl rfl ?_)))))
            refine BT rfl rfl (AM rfl rfl (AL rfl Be AY rfl rfl (by omega) (by omega) ?_))
            refine Cc rfl BK rfl (by rintro _ rfl; exact ((Cv (H.drew.get at0) (by omega)))) ?_
            refine BT rfl rfl (AM rfl rfl (CW rfl rfl rfl (by omega) (by omega) ?_))
            refine AL rfl Be AY rfl rfl (by omega) (by omega) ?_
            refine Cc rfl BK rfl (by rintro _ rfl; exact ((Cv (H.drew.get at0) (by omega)))) ?_
            refine BQ ?_
            replace H:=H.drew
            refine Ao rfl Fo (E1 _ _ _) rfl ?_
            rintro v w ⟨rfl,rfl⟩
            rw [show ((j:Int) - 1).toNat=j - 1 by omega,Int.toNat_natCast]
            refine Bu rfl rfl (Ab (Aa (Ax _ rfl ?_ ?_)))
            ·intro h6
             replace h6:=Bp h6
             refine Bd (Aj (EA rfl (Aj (Aj (AD (A5 (Aa (Aw (Ad rfl rfl (Ap rfl rfl rfl (by omega) (by omega) ?_))))))))))
             refine Af rfl rfl (Ab (Aa ?_))
             exact ⟨(st+1,i,g),rfl,⟨rfl,rfl,trivial⟩,⟨by dsimp only; omega,⟨by dsimp only; omega,by dsimp only; omega,hj.2.2⟩,hS,H⟩,by dsimp only; omega⟩
            ·intro h6
             replace h6:=Bq h6
             refine Av (Aa (Fx [([0,1,2,3,4,5,6,7,8,9,10,11,12,13,14],15),([16],17)] (fun z=>z.heap[q]? = some (Bl 24 (C4 (g) m))) [15,17] B3 (by kernel_rfl) (H.drew.get at0) ?_))
             refine Ba rfl rfl ?_
             refine Bo rfl rfl (AO rfl rfl (Bo rfl rfl (AO rfl rfl (EC rfl rfl rfl (by omega) (by omega) ?_))))
             refine Bo rfl rfl (AO rfl rfl (EC rfl rfl rfl (by omega) (by omega) ?_))
             refine AE rfl Be AY rfl rfl (by omega) (by omega) ?_
             refine Ck rfl BK rfl (fun _ hx=>(Cv hx (by omega))) ?_
             refine Bo rfl rfl (AO rfl rfl (AE rfl Be AY rfl rfl (by omega) (by omega) ?_))
             refine Ck rfl BK rfl (fun _ hx=>(Cv hx (by omega))) ?_
             refine AE rfl Be AY rfl rfl (by omega) (by omega) ?_
             refine BJ ?_
             replace H:=H.drew
             refine BP (j) (fun z => .int .u64 (if z=j then (g) (j - 1) else (g) z)) (.int _ _) rfl AY rfl rfl rfl H at0 (by omega) (by omega) (by rw [if_pos rfl]; exact congrArg (fun z=>Value.int .u64 ((g) z)) (by omega)) (fun z _ hz=>by rw [if_neg hz]) ?_
             rintro w H
             refine Ab (BS rfl (Ba rfl rfl ?_))
             refine AE rfl Be AY rfl rfl (by omega) (by omega) ?_
             refine BJ (BP (j - 1) (fun z => .int .u64 (sw (g) (j) (j - 1) z)) (.int _ _) rfl AY rfl rfl rfl H at0 (by omega) (by omega) (by rw [D0]; exact congrArg (fun z=>Value.int .u64 ((g) z)) (by omega)) (fun z _ hz=>by rw [Dv hz]) ?_)
             rintro w H
             refine Ab (BS rfl (Ch (A5 (Aa (Aw (Ad rfl rfl (Ap rfl rfl rfl (by omega) (by omega) ?_)))))))
             refine Af rfl rfl (Ab (Aa ?_))
             exact ⟨(j+1,sw g j (j - 1)),rfl,⟨rfl,trivial⟩,⟨⟨by dsimp only; omega,by dsimp only; omega,fun x y hx hxy hy=>by dsimp only; rw [Ei (by omega) (by omega),Ei (by omega) (by omega)]; exact hj.2.2 x y hx hxy hy⟩,hS.step j (j - 1) ⟨by omega,by omega⟩ ⟨by omega,by omega⟩,H⟩,by dsimp only; omega⟩
           ·intro h5
            replace h5:=AG h5
            refine Bd (Aj (Aj (AD (A5 (Aa (Aw (Ad rfl rfl (Ap rfl rfl rfl (by omega) (by omega) ?_))))))))
            refine Af rfl rfl (Ab (Aa ?_))
            exact ⟨(st+1,i,g),rfl,⟨rfl,rfl,trivial⟩,⟨by dsimp only; omega,⟨by dsimp only; omega,by dsimp only; omega,hj.2.2⟩,hS,H⟩,by dsimp only; omega⟩
         ·intro h4
          replace h4:=AG h4
          refine Av (A5 (Aa (Aw (Ad rfl rfl (Ap rfl rfl rfl (by omega) (by omega) ?_)))))
          refine Af rfl rfl (Ab (Aa ?_))
          exact ⟨(st+1,i,g2),rfl,⟨rfl,rfl,trivial⟩,⟨by dsimp only; omega,⟨by dsimp only; omega,by dsimp only; omega,hO2⟩,hS2,H⟩,by dsimp only; omega⟩
  ·intro h1
   replace h1:=AG h1
   refine Bd (Aj (Aj (AD (Aa (Ag (Ai rfl rfl (Ab (Aa (A9 (AB (v:=(.bool _)) rfl rfl rfl ?_))))))))))
   exact ⟨false,g,rfl,hS0,(fun h=>by cases h),H⟩
end

end Go.Proofs.YtapphbmlkdhnmaaGreat

/- Sorting numbers of 64 bits: the whole. -/
namespace Go.Proofs.YtapphbmlkdhnmaaGreat
open Go.GV
attribute [local irreducible] A2 W Wq Wt

theorem S8 (x:Nat) (hx:x≤4503599627370496) (w:World):Ret Tryz.prog 175 #[.int .u64 (x:Int)] w fun v w'=>∃ r:Nat,v = .int .i64 (r:Int)∧x<2 ^ r∧r≤64∧(0<x→2 ^ r≤2*x)∧w=w':=by
 refine A1 (fn:=Tryz.f175) Tryz.func175 rfl [.int .u64 (x:Int)] rfl (by kernel_rfl) ?_
 refine Ag (Af rfl rfl (Ab (Aa (Aq (Ax _ rfl ?_ ?_)))))
 ·intro h
  cases h
 ·intro h
  refine Av (Aa (Ag (Ad rfl rfl (Ao rfl Wn (Q9 x hx w) rfl ?_))))
  rintro v w ⟨r,rfl,h1,h2,h3,rfl⟩
  refine Af rfl rfl (Ab (Aa (A9 (AB (v:=(.int _ _)) rfl rfl rfl ?_))))
  exact ⟨r,rfl,h1,h2,h3,rfl⟩
theorem Zv (l:Nat) (h0:0<l) (hl:l≤1000000000) (w:World):Ret Tryz.prog 219 #[.int .i64 (l:Int)] w fun v w'=>∃ r:Nat,v = .int .u64 (r:Int)∧0<r∧r≤2*l∧w=w':=by
 refine A1 (fn:=Tryz.f219) Tryz.func219 rfl [.int .i64 (l:Int)] rfl (by kernel_rfl) ?_
 refine Ag (Af rfl rfl (Ab (Aa (Ag (Ad rfl rfl (D3 rfl rfl Gu Qu (by omega) (by omega) ?_))))))
 refine Ao rfl Si (S8 l (by omega) w) rfl ?_
 rintro v w ⟨r,rfl,h1,h2,h3,rfl⟩
 refine Me (a:=1) (n:=r) rfl rfl rfl h2 ?_
 refine Af rfl rfl (Ab (Aa (A9 (AB (v:=(.int _ _)) rfl rfl rfl ?_))))
 have h4:=h3 h0
 have h5:=Nat.two_pow_pos r
 exact ⟨2 ^ r,congrArg (Value.int .u64) (by rw [Nat.one_mul,Nat.mod_eq_of_lt (by omega)]),h5,h4,rfl⟩
theorem Xq {x y:Nat} (hx:x<18446744073709551616) (hy:y<18446744073709551616):x ^^^ y<18446744073709551616:=Nat.xor_lt_two_pow (n:=64) hx hy
section
variable {w:World} {q n c m s:Nat} {f:Nat→Int}
set_option maxRecDepth 20000 in
theorem Zw {z:Nat} (hs:w.heap[s]? = some (Bl 260 [.int .u64 (z:Int)])) (hz:z<18446744073709551616) :
  Ret Tryz.prog 220 #[ptr s] w fun v w'=>∃ z':Nat,v = .int .u64 (z':Int)∧z'<18446744073709551616∧Ctx w [s] w' [(s,Bl 260 [.int .u64 (z':Int)])]:=by
 obtain ⟨w0,rfl⟩:∃ w0,w0=w:=⟨_,rfl⟩
 have H:=Ctx.start1 hs
 refine A1 (fn:=Tryz.f220) Tryz.func220 rfl [.pointer (some ⟨s,0,none⟩)] rfl (by kernel_rfl) ?_
 have b1:=Nat.mod_lt (z*2 ^ 13) (show 0<18446744073709551616 by decide)
 obtain ⟨y1,hy1⟩:∃ y1,y1=z*2 ^ 13 % 18446744073709551616:=⟨_,rfl⟩
 rw [← hy1] at b1
 refine Ag (Af rfl rfl (Ab (Aa (Ek 9 B3 (by kernel_rfl) rfl rfl ?_))))
 refine Cb rfl rfl (Bg rfl rfl (BZ rfl J9 rfl (by rintro _ rfl; exact H.drew) at0 rfl ?_))
 refine Cb rfl rfl (Bg rfl rfl (BZ rfl J9 rfl (by rintro _ rfl; exact H.drew) at0 rfl ?_))
 refine N9 (a:=z) (n:=13) rfl rfl rfl (by decide) ?_
 rw [← hy1]
 refine K3 (a:=z) (b:=y1) rfl rfl rfl hz b1 ?_
 refine Bg rfl rfl (BQ ?_)
 replace H:=H.drew
 refine Cj (.int _ _) rfl Pc rfl rfl rfl H at0 (by (simp; done)) ?_
 rintro w H
 refine Ab (Aa ?_)
 obtain ⟨z1,hz1⟩:∃ z1,z1=z ^^^ y1:=⟨_,rfl⟩
 have c1:=Xq hz b1
 rw [← hz1] at c1
 replace H:Ctx w0 [s] w [(s,Bl 260 [.int .u64 (z1:Int)])]:=by rw [hz1]; exact H
 have b2:z1 / 2 ^ 7<18446744073709551616:=Nat.lt_of_le_of_lt (Nat.div_le_self _ _) c1
 obtain ⟨y2,hy2⟩:∃ y2,y2=z1 / 2 ^ 7:=⟨_,rfl⟩
 rw [← hy2] at b2
 refine Ek 9 B3 (by kernel_rfl) rfl rfl ?_
 refine Cb rfl rfl (Bg rfl rfl (BZ rfl J9 rfl (by rintro _ rfl; exact H.drew) at0 rfl ?_))
 refine Cb rfl rfl (Bg rfl rfl (BZ rfl J9 rfl (by rintro _ rfl; exact H.drew) at0 rfl ?_))
 refine U3 (a:=z1) (n:=7) rfl rfl rfl (by decide) ?_
 rw [← hy2]
 refine K3 (a:=z1) (b:=y2) rfl rfl rfl c1 b2 ?_
 refine Bg rfl rfl (BQ ?_)
 replace H:=H.drew
 refine Cj (.int _ _) rfl Pc rfl rfl rfl H at0 (by (simp; done)) ?_
 rintro w H
 refine Ab (Aa ?_)
 obtain ⟨z2,hz2⟩:∃ z2,z2=z1 ^^^ y2:=⟨_,rfl⟩
 have c2:=Xq c1 b2
 rw [← hz2] at c2
 replace H:Ctx w0 [s] w [(s,Bl 260 [.int .u64 (z2:Int)])]:=by rw [hz2]; exact H
 have b3:=Nat.mod_lt (z2*2 ^ 17) (show 0<18446744073709551616 by decide)
 obtain ⟨y3,hy3⟩:∃ y3,y3=z2*2 ^ 17 % 18446744073709551616:=⟨_,rfl⟩
 rw [← hy3] at b3
 refine Ek 9 B3 (by kernel_rfl) rfl rfl ?_
 refine Cb rfl rfl (Bg rfl rfl (BZ rfl J9 rfl (by rintro _ rfl; exact H.drew) at0 rfl ?_))
 refine Cb rfl rfl (Bg rfl rfl (BZ rfl J9 rfl (by rintro _ rfl; exact H.drew) at0 rfl ?_))
 refine N9 (a:=z2) (n:=17) rfl rfl rfl (by decide) ?_
 rw [← hy3]
 refine K3 (a:=z2) (b:=y3) rfl rfl rfl c2 b3 ?_
 refine Bg rfl rfl (BQ ?_)
 replace H:=H.drew
 refine Cj (.int _ _) rfl Pc rfl rfl rfl H at0 (by (simp; done)) ?_
 rintro w H
 refine Ab (Aa (Ag (Bj rfl rfl (Bc rfl rfl (AA rfl J9 rfl H at0 rfl (Af rfl rfl (Ab (Aa (A9 (AB (v:=(.int _ _)) rfl rfl rfl ?_))))))))))
 exact ⟨z2 ^^^ y3,rfl,Xq c2 b3,H⟩

set_option maxRecDepth 20000 in
set_option maxHeartbeats 2000000 in
theorem Xr {a b:Nat} (hd:w.heap[q]? = some (Bl 24 (C4 f m))) (hab:a<b) (hb:b≤n) (hn:n≤m) (hm:n≤1000000000) :
  Ret Tryz.prog 202 #[.slice (some ⟨q,0,none⟩) n c,.int .i64 (a:Int),.int .i64 (b:Int)] w fun v w'=>v = .tuple #[]∧∃ g,Sw a b f g∧Ctx w [q] w' [(q,Bl 24 (C4 g m))]:=by
 obtain ⟨w0,rfl⟩:∃ w0,w0=w:=⟨_,rfl⟩
 have H:=Ctx.start1 hd
 obtain ⟨l,rfl⟩:∃ l,b=a+l:=⟨b - a,by omega⟩
 have hl:((a+l:Nat):Int) - (a:Int)=(l:Int):=by omega
 refine A1 (fn:=Tryz.f202) Tryz.func202 rfl [.slice (some ⟨q,0,none⟩) n c,.int .i64 (a:Int),.int .i64 ((a+l:Nat):Int)] rfl (by kernel_rfl) ?_
 refine Ag (Ad rfl rfl (Ad rfl rfl (Bf rfl rfl rfl (by omega) (by omega) ?_)))
 rw [hl]
 refine Af rfl rfl (Ab (Aa (Ag (Ad rfl rfl (CD rfl rfl rfl (Ab (Aa (Ax _ rfl ?_ ?_))))))))
 ·intro h1
  replace h1:=AF h1
  refine Ag (Ad rfl rfl (D3 rfl rfl Gu Ac7 (by omega) (by omega) ?_))
  refine Bm rfl Adh H ?_
  rintro b7 w - H
  refine Cj (.int _ _) rfl Pc rfl rfl rfl H at0 (by decide) ?_
  rintro w H
  refine Ab (Aa (Ag (Ad rfl rfl (Ao rfl Acu (Zv l (by omega) (by omega) _) rfl ?_))))
  rintro v w ⟨M,rfl,hM0,hM,rfl⟩
  refine Af rfl rfl (Ab (Aa (Ag (Ad rfl rfl (Ad rfl rfl (GK rfl rfl rfl (by omega) (by omega) (show _≤(9223372036854775807:Int) by omega) ?_))))))
  refine Cf rfl rfl rfl (by omega) (by omega) ?_
  refine Ap rfl rfl rfl (by omega) (by omega) ?_
  refine Bf rfl rfl rfl (by omega) (by omega) ?_
  rw [show (a:Int)+(l:Int) / 4*2 - 1=((a+l / 4*2 - 1:Nat):Int) by omega]
  refine Af rfl rfl (Ab (Aa (Au (Bi 36893488147351995904 (α:=Nat × (Nat→Int) × Nat) (fun t=>[(9,.int .i64 (t.1:Int))]) (fun t w'=>a≤t.1∧t.1≤a+l / 4*2+2∧t.2.2<18446744073709551616∧Sw a (a+l) f t.2.1∧Ctx w0 [q] w' [(b7,Bl 260 [.int .u64 (t.2.2:Int)]),(q,Bl 24 (C4 t.2.1 m))]) (fun t=>a+l / 4*2+2 - t.1) (a+l / 4*2 - 1,f,l) rfl ?_ ?_ ?_))))
  ·exact ⟨rfl,trivial⟩
  ·exact ⟨by dsimp only; omega,by dsimp only; omega,by dsimp only; omega,.refl _,H⟩
  ·rintro ⟨i,g,z⟩ j0 w ⟨hi1,hi2,hz,hS,H⟩; dsimp only at hi1 hi2 hz hS H; dsimp only
   refine Aq (Ag (Ad rfl rfl (Ad rfl rfl (Ad rfl rfl (GK rfl rfl rfl (by omega) (by omega) (show _≤(9223372036854775807:Int) by omega) ?_)))))
   refine Cf rfl rfl rfl (by omega) (by omega) ?_
   refine Ap rfl rfl rfl (by omega) (by omega) ?_
   refine Ap rfl rfl rfl (by omega) (by omega) ?_
   refine J3 rfl rfl rfl (Ab (Aa (Ax _ rfl ?_ ?_)))
   ·intro h2
    replace h2:=AF h2
    refine Av (Aa (Aq (Au (Ag (Ao rfl Acv (Zw (H.get at0) hz) rfl ?_)))))
    rintro v w ⟨z2,rfl,hz2,H2⟩
    replace H:=Ctx.back (L1:=[_]) (L2:=[_]) H H2
    refine Ad rfl rfl (LW rfl rfl rfl (by omega) (by omega) ?_)
    rw [show (M:Int) - 1=((M - 1:Nat):Int) by omega]
    refine HC (a:=z2) (b:=M - 1) rfl rfl rfl hz2 (by omega) ?_
    have hand:z2 &&& (M - 1)≤M - 1:=Nat.and_le_right
    refine Eh rfl rfl Qu Gu (by omega) (by omega) ?_
    refine Af rfl rfl (Ab (Aa (Aq (Ag (Ad rfl rfl (Ad rfl rfl (CD rfl rfl rfl (Ab (Aa ?_)))))))))
    obtain ⟨r,hr⟩:∃ r,r=z2 &&& (M - 1):=⟨_,rfl⟩
    have hr2:r≤M - 1:=by rw [hr]; exact Nat.and_le_right
    rw [← hr]
    refine Em 123145302311936 (α:=Nat) (fun r=>[(10,.int .i64 (r:Int))]) (fun r w'=>r<l∧Ctx w0 [q] w' [(b7,Bl 260 [.int .u64 (z2:Int)]),(q,Bl 24 (C4 g m))]) rfl ?_ ?_
    ·skip
     refine Ax _ rfl ?_ ?_
     ·intro h3
      replace h3:=AF h3
      refine Aw (Ad rfl rfl (Ad rfl rfl (Bf rfl rfl rfl (by omega) (by omega) ?_)))
      refine Af rfl rfl (Ab (Aa ?_))
      exact ⟨r - l,rfl,⟨congrArg (Value.int .i64) (by omega),trivial⟩,by omega,H⟩
     ·intro h3
      replace h3:=AG h3
      refine Av (Aa ?_)
      exact ⟨r,rfl,⟨rfl,trivial⟩,by omega,H⟩
    ·rintro r2 j1 w ⟨hr3,H⟩
     refine Fx [([0,1,2,3,4,5,6,7,8,9,10,11,12,13,14,15,16],17),([18],19)] (fun z=>z.heap[q]? = some (Bl 24 (C4 (g) m))) [17,19] B3 (by kernel_rfl) (H.drew.get at1) ?_
     refine Ba rfl rfl ?_
     refine Bo rfl rfl (AO rfl rfl (Bo rfl rfl (AO rfl rfl (AO rfl rfl (DW rfl rfl rfl (by omega) (by omega) ?_)))))
     refine Bo rfl rfl (AO rfl rfl (AO rfl rfl (DW rfl rfl rfl (by omega) (by omega) ?_)))
     refine AE rfl Be AY rfl rfl (by omega) (by omega) ?_
     refine Ck rfl BK rfl (fun _ hx=>(Cv hx (by omega))) ?_
     refine Bo rfl rfl (AO rfl rfl (AE rfl Be AY rfl rfl (by omega) (by omega) ?_))
     refine Ck rfl BK rfl (fun _ hx=>(Cv hx (by omega))) ?_
     refine AE rfl Be AY rfl rfl (by omega) (by omega) ?_
     refine BJ ?_
     replace H:=H.drew
     refine BP (i) (fun z => .int .u64 (if z=i then (g) (a+r2) else (g) z)) (.int _ _) rfl AY rfl rfl rfl H at1 (by omega) (by omega) (by rw [if_pos rfl]; exact congrArg (fun z=>Value.int .u64 ((g) z)) (by omega)) (fun z _ hz=>by rw [if_neg hz]) ?_
     rintro w H
     refine Ab (BS rfl (Ba rfl rfl ?_))
     refine AE rfl Be AY rfl rfl (by omega) (by omega) ?_
     refine BJ (BP (a+r2) (fun z => .int .u64 (sw (g) (i) (a+r2) z)) (.int _ _) rfl AY rfl rfl rfl H at1 (by omega) (by omega) (by rw [D0]; exact congrArg (fun z=>Value.int .u64 ((g) z)) (by omega)) (fun z _ hz=>by rw [Dv hz]) ?_)
     rintro w H
     refine Ab (BS rfl (Ch (A5 (Aa (Aw (Ad rfl rfl (Ap rfl rfl rfl (by omega) (by omega) ?_)))))))
     refine Af rfl rfl (Ab (Aa ?_))
     exact ⟨(i+1,sw g i (a+r2),z2),rfl,⟨rfl,trivial⟩,⟨by dsimp only; omega,by dsimp only; omega,hz2,hS.step i (a+r2) ⟨by omega,by omega⟩ ⟨by omega,by omega⟩,H⟩,by dsimp only; omega⟩
   ·intro h2
    replace h2:=AG h2
    refine Bd (Aj (Aj (AD (CJ rfl rfl ?_))))
    exact ⟨rfl,g,hS,H.tail⟩
 ·intro h1
  replace h1:=AG h1
  refine Av (CJ rfl rfl ?_)
  exact ⟨rfl,f,.refl _,H⟩
end

end Go.Proofs.YtapphbmlkdhnmaaGreat
