/- Part 8 of the proof. -/
import Derived.Test.YtdagmpmdcgedcaaGreatPart2
import Derived.Test.YtdagmpmdcgedcaaGreatPart7
import Derived.Test.YtdagmpmdcgedcaaGreatPart4
import Derived.Test.YtdagmpmdcgedcaaGreatPart6
import Derived.Test.YtdagmpmdcgedcaaGreatPart3
/- Sorting numbers of 64 bits: those that are the same as the pivot; patterns broken; almost sorted. -/
namespace Go.Proofs.YtdagmpmdcgedcaaGreat
open Go.GV
attribute [local irreducible] AB W Wq Wt

theorem Aa4 {g:Nat→Int} {a i j b:Nat} (h:a+1≤i∧i≤j+1∧j<b∧(∀ x,a<x→x<i→(g) x≤(g) a)∧∀ y,j<y→y<b→(g) a<(g) y) (hij:i<j) (hi:g a<g i) (hj:g j≤g a):a+1≤i+1∧i+1≤(j - 1)+1∧(j - 1)<b∧(∀ x,a<x→x<i+1→(sw g i j) x≤(sw g i j) a)∧∀ y,(j - 1)<y→y<b→(sw g i j) a<(sw g i j) y:=by
 obtain ⟨h1,h2,h3,h4,h5⟩:=h;have ha:sw g i j a=g a:=Eu (by omega) (by omega);rw [ha];refine ⟨by omega,by omega,by omega,fun x hx hxi=>?_,fun y hy hyb=>?_⟩
 ·by_cases e:x=i
  ·rw [e,Hh]; exact hj
  ·rw [Eu e (by omega)]; exact h4 x hx (by omega)
 ·by_cases e:y=j
  ·rw [e,DH]; exact hi
  ·rw [Eu (by omega) e]; exact h5 y (by omega) hyb

section
variable {w:World} {q n c m:Nat} {f:Nat→Int}
set_option maxRecDepth 20000 in
set_option maxHeartbeats 4000000 in
theorem VY {a b p:Nat} (hd:w.heap[q]? = some (Bl 28 (C5 f m))) (hab:a<b) (hb:b≤n) (hn:n≤m) (hm:n≤1000000000) (hp:a≤p∧p<b) :
  Ret Tryz.prog 237 #[.slice (some ⟨q,0,none⟩) n c,.int .i64 (a:Int),.int .i64 (b:Int),.int .i64 (p:Int)] w fun v w'=>∃ (i:Nat) (g:Nat→Int),v = .int .i64 (i:Int)∧Sw a b f g∧a<i∧i≤b∧g a=f p∧(∀ x,a≤x→x<i→g x≤g a)∧(∀ y,i≤y→y<b→g a<g y)∧Ctx w [q] w' [(q,Bl 28 (C5 g m))]:=by
 obtain ⟨w0,rfl⟩:∃ w0,w0=w:=⟨_,rfl⟩;have H:=Ctx.start1 hd;refine Au (fn:=Tryz.f237) Tryz.func237 U [.slice (some ⟨q,0,none⟩) n c,.int .i64 (a:Int),.int .i64 (b:Int),.int .i64 (p:Int)] U (by kernel_rfl) ?_;refine Ad (Ae U U (Ab (Aa (Cv [([0,1,2,3,4,5,6,7,8,9,10,11,12],13),([14],15)] (fun z=>z.heap[q]? = some (Bl 28 (C5 (f) m))) [13,15] Bq (by kernel_rfl) (H.drew.get at0) ?_))));refine AH U U ?_;refine B1 U U (Bc U U (B1 U U (Bc U U (B1 U U (Bc U U (AF U Br Bi U U (by omega) (by omega) ?_))))));refine B0 U B2 U (fun _ hx=>(Ct hx (by omega))) ?_;refine B1 U U (Bc U U (AF U Br Bi U U (by omega) (by omega) ?_));refine B0 U B2 U (fun _ hx=>(Ct hx (by omega))) ?_;refine AF U Br Bi U U (by omega) (by omega) ?_;refine AS ?_;replace H:=H.drew
 refine BT (a) (fun z => .int .u64 (if z=a then (f) (p) else (f) z)) (.int _ _) U Bi U U U H at0 (by omega) (by omega) (by rw [if_pos rfl]; exact congrArg (fun z=>Value.int .u64 ((f) z)) (by omega)) (fun z _ hz=>by rw [if_neg hz]) ?_;rintro w H;refine Ab (B3 U (AH U U ?_));refine AF U Br Bi U U (by omega) (by omega) ?_;refine AS (BT (p) (fun z => .int .u64 (sw (f) (a) (p) z)) (.int _ _) U Bi U U U H at0 (by omega) (by omega) (by rw [DH]; exact congrArg (fun z=>Value.int .u64 ((f) z)) (by omega)) (fun z _ hz=>by rw [DC hz]) ?_);rintro w H;refine Ab (B3 U (BJ ?_));have hS0:=(Sw.refl (a:=a) (b:=b) f).step a p ⟨by omega,by omega⟩ hp;obtain ⟨g,hg⟩:∃ g,g=sw f a p:=⟨_,rfl⟩;have hga:g a=f p:=by rw [hg,Hh]
 rw [← hg] at hS0 H;refine Ad (Af U U (Ay U U U (by omega) (by omega) ?_));rw [show (a:Int)+1=((a+1:Nat):Int) by omega];refine Af U U (Bp U U U (by omega) (by omega) ?_);rw [show (b:Int) - 1=((b - 1:Nat):Int) by omega];refine Ae U U (Ae U U (Ab (Aa (Aw (Az (Bv 9671406556917032860780032 (α:=Nat × Nat × (Nat→Int)) (fun t=>[(9,.int .i64 (t.1:Int)),(10,.int .i64 (t.2.1:Int))]) (fun t w'=>(a+1≤t.1∧t.1≤t.2.1+1∧t.2.1<b∧(∀ x,a<x→x<t.1→(t.2.2) x≤(t.2.2) a)∧∀ y,t.2.1<y→y<b→(t.2.2) a<(t.2.2) y)∧t.2.2 a=f p∧Sw a b f t.2.2∧Ctx w0 [q] w' [(q,Bl 28 (C5 t.2.2 m))]) (fun t=>b - t.1) (a+1,b - 1,g) U ?_ ?_ ?_))))))
 ·exact ⟨rfl,rfl,trivial⟩
 ·exact ⟨⟨Nat.le_refl _,by dsimp only; omega,by dsimp only; omega,fun x h1 h2=>by dsimp only at h2; omega,fun y h1 h2=>by dsimp only at h1; omega⟩,hga,hS0,H⟩
 ·rintro ⟨i,j,g⟩ j0 w ⟨hi0,hga,hS0,H⟩; dsimp only at hi0 hga hS0 H; dsimp only;obtain ⟨i0,hi0e⟩:∃ i0,i0=i:=⟨_,rfl⟩;obtain ⟨j1,hj1e⟩:∃ j1,j1=j:=⟨_,rfl⟩;have hi1:i0≤i∧a+1≤i∧i≤j+1∧j<b∧(∀ x,a<x→x<i→(g) x≤(g) a)∧∀ y,j<y→y<b→(g) a<(g) y:=⟨by omega,hi0⟩;refine Az (Aw (Az (Bv 70368207307264 (α:=Nat) (fun i=>[(9,.int .i64 (i:Int))]) (fun i w'=>(i0≤i∧a+1≤i∧i≤j+1∧j<b∧(∀ x,a<x→x<i→(g) x≤(g) a)∧∀ y,j<y→y<b→(g) a<(g) y)∧Ctx w0 [q] w' [(q,Bl 28 (C5 (g) m))]) (fun i=>j+1 - i) i U ?_ ?_ ?_)))
  ·exact ⟨by rfl,trivial⟩
  ·exact ⟨hi1,H⟩
  ·rintro i jx w ⟨hiv,H⟩;refine Aw (DE 17591649173504 (α:=Unit) (fun _=>[(43,.bool (decide (i≤j∧¬ g a<g i)))]) (fun _ w'=>Ctx w0 [q] w' [(q,Bl 28 (C5 (g) m))]) U ?_ ?_)
   ·skip
    refine Fq 12 Bq (by kernel_rfl) U U ?_;refine AU U U (AU U U (Nf U U U (CM U U (Dt 32 U ?_ ?_))))
    ·intro h1;replace h1:=AM h1;refine Ca U U (AU U U (Ba U Br Bi U U (by omega) (by omega) ?_));refine BP U B2 U (by rintro _ rfl; exact ((Ct (H.drew.get at0) (by omega)))) ?_;refine Ca U U (AU U U (Ba U Br Bi U U (by omega) (by omega) ?_));refine BP U B2 U (by rintro _ rfl; exact ((Ct (H.drew.get at0) (by omega)))) ?_;refine BK ?_;replace H:=H.drew;refine Al U FC (EH _ _ _) U ?_;rintro v w ⟨rfl,rfl⟩;simp only [Int.toNat_natCast];refine BG U U (AG U U (.bool _) U (Ab (Aa ?_)));exact ⟨(),rfl,⟨congrArg Value.bool (by clear hiv; rw [Bool.eq_iff_iff]; simp_all; try omega),trivial⟩,H⟩
    ·intro h2;replace h2:=AN h2;refine Ax U (Ax U (Ax U (Ax U (Ax U (Ax U (Ax U (Ax U (BK ?_))))))));replace H:=H.drew;refine Ag U (Ag U (AJ U U (.bool _) U (Ab (Aa ?_))));exact ⟨(),rfl,⟨congrArg Value.bool (by clear hiv; rw [Bool.eq_iff_iff]; simp_all; try omega),trivial⟩,H⟩
   ·rintro - jy w H;refine Aq _ U ?_ ?_
    ·intro hc;have hc:=of_decide_eq_true hc;refine Av (Aa (Az (A0 (Af U U (Ay U U U (by omega) (by omega) ?_)))));refine Ae U U (Ab (A6 (Aa ?_)));exact ⟨i+1,rfl,⟨congrArg (Value.int .i64) (by omega),trivial⟩,⟨⟨by omega,by omega,by omega,by omega,fun x h1 h2=>(if e:x=i then by rw [e]; omega else hiv.2.2.2.2.1 x h1 (by omega)),hiv.2.2.2.2.2⟩,H⟩,by omega⟩
    ·intro hc;have hc:=of_decide_eq_false hc;have hci:=hc;have hi2:j≤j1∧a+1≤i∧i≤j+1∧j<b∧(∀ x,a<x→x<i→(g) x≤(g) a)∧∀ y,j<y→y<b→(g) a<(g) y:=⟨by omega,hiv.2⟩;have hi3:=hiv.1;refine Bt (Am (Am (AK (Aa (Aw (Az (Bv 4611615649683211264 (α:=Nat) (fun j=>[(10,.int .i64 (j:Int))]) (fun j w'=>(j≤j1∧a+1≤i∧i≤j+1∧j<b∧(∀ x,a<x→x<i→(g) x≤(g) a)∧∀ y,j<y→y<b→(g) a<(g) y)∧Ctx w0 [q] w' [(q,Bl 28 (C5 (g) m))]) (fun j=>j) j U ?_ ?_ ?_)))))))
     ·exact ⟨by rfl,trivial⟩
     ·exact ⟨hi2,H⟩
     ·rintro j jx w ⟨hiv,H⟩;refine Aw (DE 1152851135862669312 (α:=Unit) (fun _=>[(59,.bool (decide (i≤j∧g a<g j)))]) (fun _ w'=>Ctx w0 [q] w' [(q,Bl 28 (C5 (g) m))]) U ?_ ?_)
      ·skip
       refine Fq 12 Bq (by kernel_rfl) U U ?_;refine AU U U (AU U U (Nf U U U (CM U U (Dt 49 U ?_ ?_))))
       ·intro h3;replace h3:=AM h3;refine Ca U U (AU U U (Ba U Br Bi U U (by omega) (by omega) ?_));refine BP U B2 U (by rintro _ rfl; exact ((Ct (H.drew.get at0) (by omega)))) ?_;refine Ca U U (AU U U (Ba U Br Bi U U (by omega) (by omega) ?_));refine BP U B2 U (by rintro _ rfl; exact ((Ct (H.drew.get at0) (by omega)))) ?_;refine BK ?_;replace H:=H.drew;refine Al U FC (EH _ _ _) U ?_;rintro v w ⟨rfl,rfl⟩;simp only [Int.toNat_natCast];refine AG U U (.bool _) U (Ab (Aa ?_));exact ⟨(),rfl,⟨congrArg Value.bool (by clear hiv; rw [Bool.eq_iff_iff]; simp_all; try omega),trivial⟩,H⟩
       ·intro h4;replace h4:=AN h4;refine Ax U (Ax U (Ax U (Ax U (Ax U (Ax U (Ax U (Ax U (BK ?_))))))));replace H:=H.drew;refine Ag U (AJ U U (.bool _) U (Ab (Aa ?_)));exact ⟨(),rfl,⟨congrArg Value.bool (by clear hiv; rw [Bool.eq_iff_iff]; simp_all; try omega),trivial⟩,H⟩
      ·rintro - jy w H;refine Aq _ U ?_ ?_
       ·intro hc;have hc:=of_decide_eq_true hc;refine Av (Aa (Az (A0 (Af U U (Bp U U U (by omega) (by omega) ?_)))));refine Ae U U (Ab (A6 (Aa ?_)));exact ⟨j - 1,rfl,⟨congrArg (Value.int .i64) (by omega),trivial⟩,⟨⟨by omega,by omega,by omega,by omega,hiv.2.2.2.2.1,fun y h1 h2=>(if e:y=j then by rw [e]; exact hc.2 else hiv.2.2.2.2.2 y (by omega) h2)⟩,H⟩,by omega⟩
       ·intro hc;have hc:=of_decide_eq_false hc;have hci:¬ (i≤j∧¬ g a<g i):=fun h=>hci ⟨by omega,h.2⟩;replace hiv:=hiv.2;refine Bt (Am (Am (AK (Aa (Aw (Ad (Af U U (Af U U (Dn U U U (Ab (Aa (Aq _ U ?_ ?_))))))))))))
        ·intro h5;replace h5:=AM h5;have hji:j+1=i:=by omega
         refine Bt (Am (ER U (Am (AK (Aa (Ad (Af U U (Ae U U (Ab (Aa (A5 (AA (v:=(.int _ _)) U U U ?_))))))))))));exact ⟨i,g,rfl,hS0,by omega,by omega,hga,fun x h1 h2=>(if e:x=a then by rw [e]; exact Int.le_refl _ else hiv.2.2.2.1 x (by omega) h2),fun y h1 h2=>hiv.2.2.2.2 y (by omega) h2,H⟩
        ·intro h5;replace h5:=AN h5
         have hgi:g a<g i:=by rcases Int.lt_or_le (g a) (g i) with h7 | h7; exact h7; exact absurd ⟨by omega,by omega⟩ hci
         have hgj:g j≤g a:=by rcases Int.lt_or_le (g a) (g j) with h7 | h7; exact absurd ⟨by omega,h7⟩ hc; exact h7
         have hne:i<j:=by
          rcases Nat.lt_or_ge i j with h | h
          ·exact h
          ·obtain rfl:i=j:=by omega
           omega
         refine Av (Aa (Cv [([0,1,2,3,4,5,6,7,8,9,10,11,12],13),([14],15)] (fun z=>z.heap[q]? = some (Bl 28 (C5 (g) m))) [13,15] Bq (by kernel_rfl) (H.drew.get at0) ?_));refine AH U U ?_;refine B1 U U (Bc U U (B1 U U (Bc U U (B1 U U (Bc U U (AF U Br Bi U U (by omega) (by omega) ?_))))));refine B0 U B2 U (fun _ hx=>(Ct hx (by omega))) ?_;refine B1 U U (Bc U U (AF U Br Bi U U (by omega) (by omega) ?_));refine B0 U B2 U (fun _ hx=>(Ct hx (by omega))) ?_;refine AF U Br Bi U U (by omega) (by omega) ?_;refine AS ?_;replace H:=H.drew;refine BT (i) (fun z => .int .u64 (if z=i then (g) (j) else (g) z)) (.int _ _) U Bi U U U H at0 (by omega) (by omega) (by rw [if_pos rfl]; exact congrArg (fun z=>Value.int .u64 ((g) z)) (by omega)) (fun z _ hz=>by rw [if_neg hz]) ?_;rintro w H;refine Ab (B3 U (AH U U ?_));refine AF U Br Bi U U (by omega) (by omega) ?_
         refine AS (BT (j) (fun z => .int .u64 (sw (g) (i) (j) z)) (.int _ _) U Bi U U U H at0 (by omega) (by omega) (by rw [DH]; exact congrArg (fun z=>Value.int .u64 ((g) z)) (by omega)) (fun z _ hz=>by rw [DC hz]) ?_);rintro w H;refine Ab (B3 U (BJ (Ad (Af U U (Ay U U U (by omega) (by omega) ?_)))));refine Ae U U (Ab (Aa (A0 (Af U U (Bp U U U (by omega) (by omega) ?_)))));refine Ae U U (Ab (A6 (Aa ?_)));exact ⟨(i+1,j - 1,sw g i j),rfl,⟨rfl,congrArg (Value.int .i64) (by dsimp only; omega),trivial⟩,⟨Aa4 hiv hne hgi hgj,(Eu (by omega) (by omega)).trans hga,hS0.step i j ⟨by omega,by omega⟩ ⟨by omega,by omega⟩,H⟩,by dsimp only; omega⟩

set_option maxRecDepth 20000 in
set_option maxHeartbeats 4000000 in
theorem TK {a b:Nat} (hd:w.heap[q]? = some (Bl 28 (C5 f m))) (hab:a<b) (hb:b≤n) (hn:n≤m) (hm:n≤1000000000) (hLB:0<a→∀ x,a≤x→x<b→f (a - 1)≤f x) :
  Ret Tryz.prog 235 #[.slice (some ⟨q,0,none⟩) n c,.int .i64 (a:Int),.int .i64 (b:Int)] w fun v w'=>∃ (t:Bool) (g:Nat→Int),v = .bool t∧Sw a b f g∧(t=true→Ja g a b)∧Ctx w [q] w' [(q,Bl 28 (C5 g m))]:=by
 obtain ⟨w0,rfl⟩:∃ w0,w0=w:=⟨_,rfl⟩;have H:=Ctx.start1 hd;refine Au (fn:=Tryz.f235) Tryz.func235 U [.slice (some ⟨q,0,none⟩) n c,.int .i64 (a:Int),.int .i64 (b:Int)] U (by kernel_rfl) ?_;refine Ad (Ai U U (Ab (Aa (Ad (Af U U (Ay U U U (by omega) (by omega) ?_))))));rw [show (a:Int)+1=((a+1:Nat):Int) by omega];refine Ae U U (Ab (Aa (Aw (Ad (Ae U U (Ab (Aa (Az (Bv 10889035741470030830827987437816582760384 (α:=Nat × Nat × (Nat→Int)) (fun t=>[(8,.int .i64 (t.1:Int)),(7,.int .i64 (t.2.1:Int))]) (fun t w'=>t.1≤5∧(a+1≤t.2.1∧t.2.1≤b∧Ja t.2.2 a t.2.1)∧Sw a b f t.2.2∧Ctx w0 [q] w' [(q,Bl 28 (C5 t.2.2 m))]) (fun t=>5 - t.1) (0,a+1,f) U ?_ ?_ ?_)))))))))
 ·exact ⟨rfl,rfl,trivial⟩
 ·exact ⟨by dsimp only; omega,⟨Nat.le_refl _,by dsimp only; omega,fun x y h1 h2 h3=>by dsimp only at h3; omega⟩,.refl _,H⟩
 ·rintro ⟨st,i,g⟩ j0 w ⟨hst,hi0,hS0,H⟩; dsimp only at hst hi0 hS0 H; dsimp only;refine Aw (Ad (Af U U (Bj U U U (Ab (Aa (Aq _ U ?_ ?_))))))
  ·intro h1;replace h1:=AM h1
   have hLBg:0<a→∀ g',Sw a b f g'→∀ x,a≤x→x<b→g' (a - 1)≤g' x:=fun h0 g' h x hx hxb=>by
    obtain ⟨z,hz1,hz2,hz3⟩:=h.mem x hx hxb;rw [h.out (a - 1) (.inl (by omega)),hz3];exact hLB h0 z hz1 hz2
   refine Av (Aa (Aw (Az (Aw (Az (Bv 34359607424 (α:=Nat) (fun i=>[(7,.int .i64 (i:Int))]) (fun i w'=>(a+1≤i∧i≤b∧Ja g a i)∧Ctx w0 [q] w' [(q,Bl 28 (C5 (g) m))]) (fun i=>b - i) i U ?_ ?_ ?_))))))
   ·exact ⟨by rfl,trivial⟩
   ·exact ⟨hi0,H⟩
   ·rintro i jx w ⟨hiv,H⟩;refine Aw (DE 8589803520 (α:=Unit) (fun _=>[(32,.bool (decide (i<b∧¬ g i<g (i - 1))))]) (fun _ w'=>Ctx w0 [q] w' [(q,Bl 28 (C5 (g) m))]) U ?_ ?_)
    ·skip
     refine Fq 13 Bq (by kernel_rfl) U U ?_;refine AU U U (AU U U (JV U U U (CM U U (Dt 20 U ?_ ?_))))
     ·intro h1;replace h1:=AM h1;refine Ca U U (AU U U (Ba U Br Bi U U (by omega) (by omega) ?_));refine BP U B2 U (by rintro _ rfl; exact ((Ct (H.drew.get at0) (by omega)))) ?_;refine Ca U U (AU U U (DV U U U (by omega) (by omega) ?_));refine Ba U Br Bi U U (by omega) (by omega) ?_;refine BP U B2 U (by rintro _ rfl; exact ((Ct (H.drew.get at0) (by omega)))) ?_;refine BK ?_;replace H:=H.drew;refine Al U FC (EH _ _ _) U ?_;rintro v w ⟨rfl,rfl⟩;rw [show ((i:Int) - 1).toNat=i - 1 by omega,Int.toNat_natCast];refine BG U U (AG U U (.bool _) U (Ab (Aa ?_)));exact ⟨(),rfl,⟨congrArg Value.bool (by clear hiv; rw [Bool.eq_iff_iff]; simp_all; try omega),trivial⟩,H⟩
     ·intro h2;replace h2:=AN h2;refine Ax U (Ax U (Ax U (Ax U (Ax U (Ax U (Ax U (Ax U (Ax U (BK ?_)))))))));replace H:=H.drew;refine Ag U (Ag U (AJ U U (.bool _) U (Ab (Aa ?_))));exact ⟨(),rfl,⟨congrArg Value.bool (by clear hiv; rw [Bool.eq_iff_iff]; simp_all; try omega),trivial⟩,H⟩
    ·rintro - jy w H;refine Aq _ U ?_ ?_
     ·intro hc;have hc:=of_decide_eq_true hc;refine Av (Aa (Az (A0 (Af U U (Ay U U U (by omega) (by omega) ?_)))));refine Ae U U (Ab (A6 (Aa ?_)));exact ⟨i+1,rfl,⟨congrArg (Value.int .i64) (by omega),trivial⟩,⟨⟨by omega,by omega,fun x y hx hxy hy=>(if e:y=i then (by rw [e]; exact (if e2:x=i - 1 then by rw [e2]; omega else Int.le_trans (hiv.2.2 x (i - 1) hx (by omega) (by omega)) (by omega))) else hiv.2.2 x y hx hxy (by omega))⟩,H⟩,by omega⟩
     ·intro hc;have hc:=of_decide_eq_false hc;refine Bt (Am (Am (AK (Aa (Aw (Ad (Af U U (Af U U (Cz U U U (Ab (Aa (Aq _ U ?_ ?_))))))))))))
      ·intro h2;replace h2:=AM h2;refine Ad (Ai U U (Ab (Aa (A5 (Ao (A9 (Ao (Ao (A9 (Ao (AA (v:=(.bool _)) U U U ?_)))))))))));obtain rfl:i=b:=by omega
       exact ⟨true,g,rfl,hS0,fun _=>hiv.2.2,H⟩
      ·intro h2;replace h2:=AN h2;have hib:i<b:=by omega
       have hlt:g i<g (i - 1):=by rcases Int.lt_or_le (g i) (g (i - 1)) with h7 | h7; exact h7; exact absurd ⟨hib,by omega⟩ hc
       refine Av (Aa (Aw (Ad (Af U U (Af U U (Bp U U U (by omega) (by omega) ?_))))));refine Bj U U U (Ab (Aa (Aq _ U ?_ ?_)))
       ·intro h3;replace h3:=AM h3;refine Ad (Ai U U (Ab (Aa (A5 (Ao (A9 (Ao (Ao (A9 (Ao (AA (v:=(.bool _)) U U U ?_)))))))))));exact ⟨false,g,rfl,hS0,(fun h=>by cases h),H⟩
       ·intro h3;replace h3:=AN h3;refine Av (Aa (Cv [([0,1,2,3,4,5,6,7,8,9,10,11,12,13,14],15),([16],17)] (fun z=>z.heap[q]? = some (Bl 28 (C5 (g) m))) [15,17] Bq (by kernel_rfl) (H.drew.get at0) ?_));refine AH U U ?_;refine B1 U U (Bc U U (B1 U U (Bc U U (EC U U U (by omega) (by omega) ?_))));refine B1 U U (Bc U U (EC U U U (by omega) (by omega) ?_));refine AF U Br Bi U U (by omega) (by omega) ?_;refine B0 U B2 U (fun _ hx=>(Ct hx (by omega))) ?_;refine B1 U U (Bc U U (AF U Br Bi U U (by omega) (by omega) ?_));refine B0 U B2 U (fun _ hx=>(Ct hx (by omega))) ?_;refine AF U Br Bi U U (by omega) (by omega) ?_;refine AS ?_;replace H:=H.drew;refine BT (i) (fun z => .int .u64 (if z=i then (g) (i - 1) else (g) z)) (.int _ _) U Bi U U U H at0 (by omega) (by omega) (by rw [if_pos rfl]; exact congrArg (fun z=>Value.int .u64 ((g) z)) (by omega)) (fun z _ hz=>by rw [if_neg hz]) ?_;rintro w H
        refine Ab (B3 U (AH U U ?_));refine AF U Br Bi U U (by omega) (by omega) ?_;refine AS (BT (i - 1) (fun z => .int .u64 (sw (g) (i) (i - 1) z)) (.int _ _) U Bi U U U H at0 (by omega) (by omega) (by rw [DH]; exact congrArg (fun z=>Value.int .u64 ((g) z)) (by omega)) (fun z _ hz=>by rw [DC hz]) ?_);rintro w H;refine Ab (B3 U (BJ (Aw ?_)));have hS1:=hS0.step i (i - 1) ⟨by omega,by omega⟩ ⟨by omega,by omega⟩;have hI1:InsU (sw g i (i - 1)) a (i - 1) (i - 1):=fun x y hx hxy hy hne=>by rw [Eu (by omega) (by omega),Eu (by omega) (by omega)]; exact hiv.2.2 x y hx hxy (by omega)
        obtain ⟨g1,hg1⟩:∃ g1,g1=sw g i (i - 1):=⟨_,rfl⟩;rw [← hg1] at hS1 hI1 H;refine Ad (Af U U (Af U U (Bp U U U (by omega) (by omega) ?_)));refine C3 U U U (Ab (Aa (Fl 39614081252520482778344587776 (α:=Nat→Int) (fun _=>[]) (fun g w'=>Ja g a i∧Sw a b f g∧Ctx w0 [q] w' [(q,Bl 28 (C5 g m))]) U ?_ ?_)))
        ·skip
         refine Aq _ U ?_ ?_
         ·intro h4;replace h4:=AM h4;refine Ad (Af U U (Bp U U U (by omega) (by omega) ?_));rw [show (i:Int) - 1=((i - 1:Nat):Int) by omega];refine Ae U U (Ab (Aa (Az (Bv 39614081238685424723062424064 (α:=Nat × (Nat→Int)) (fun t=>[(9,.int .i64 (t.1:Int))]) (fun t w'=>(a≤t.1∧t.1≤i - 1∧InsU t.2 a t.1 (i - 1))∧Sw a b f t.2∧Ctx w0 [q] w' [(q,Bl 28 (C5 t.2 m))]) (fun t=>t.1) (i - 1,g1) U ?_ ?_ ?_))))
          ·exact ⟨rfl,trivial⟩
          ·exact ⟨⟨by dsimp only; omega,Nat.le_refl _,hI1⟩,hS1,H⟩
          ·rintro ⟨j,g⟩ j3 w ⟨hj,hS,H⟩; dsimp only at hj hS H; dsimp only;have hex:(a<j→g (j - 1)≤g j)→Ja g a i:=fun h7=>by have h8:=hj.2.2.done hj.1 h7; rw [show i - 1+1=i by omega] at h8; exact h8
           refine Aw (Ad (Af U U (C3 U U U (Ab (Aa (Aq _ U ?_ ?_))))))
           ·intro h5;replace h5:=AM h5;refine Av (Aa (Aw (Az (Aw (DM 9 Bq (by kernel_rfl) U U ?_)))));refine Ca U U (AU U U (Ba U Br Bi U U (by omega) (by omega) ?_));refine BP U B2 U (by rintro _ rfl; exact ((Ct (H.drew.get at0) (by omega)))) ?_;refine Ca U U (AU U U (DV U U U (by omega) (by omega) ?_));refine Ba U Br Bi U U (by omega) (by omega) ?_;refine BP U B2 U (by rintro _ rfl; exact ((Ct (H.drew.get at0) (by omega)))) ?_;refine BK ?_;replace H:=H.drew;refine Al U FC (EH _ _ _) U ?_;rintro v w ⟨rfl,rfl⟩;rw [show ((j:Int) - 1).toNat=j - 1 by omega,Int.toNat_natCast];refine BG U U (Ab (Aa (Aq _ U ?_ ?_)))
            ·intro h6;replace h6:=BD h6;have h6:¬ g j<g (j - 1):=by simpa using h6
             refine Bt (Am (ER U (Am (Am (AK (Aa ?_))))));exact ⟨g,rfl,trivial,hex fun _=>by omega,hS,H⟩
            ·intro h6;replace h6:=BE h6;have h6:g j<g (j - 1):=by simpa using h6
             have haj:a<j:=by
              rcases Nat.lt_or_ge a j with h | h
              ·exact h
              ·obtain rfl:a=j:=by omega
               have:=hLBg (by omega) g hS a (Nat.le_refl _) hab;omega
             refine Av (Aa (Fa [([0,1,2,3,4,5,6,7,8,9,10,11,12,13,14],15),([16],17)] (fun z=>z.heap[q]? = some (Bl 28 (C5 (g) m))) [15,17] Bq (by kernel_rfl) (H.drew.get at0) ?_));refine AH U U ?_;refine B1 U U (Bc U U (B1 U U (Bc U U (EC U U U (by omega) (by omega) ?_))));refine B1 U U (Bc U U (EC U U U (by omega) (by omega) ?_));refine AF U Br Bi U U (by omega) (by omega) ?_;refine B0 U B2 U (fun _ hx=>(Ct hx (by omega))) ?_;refine B1 U U (Bc U U (AF U Br Bi U U (by omega) (by omega) ?_));refine B0 U B2 U (fun _ hx=>(Ct hx (by omega))) ?_;refine AF U Br Bi U U (by omega) (by omega) ?_;refine AS ?_;replace H:=H.drew;refine BT (j) (fun z => .int .u64 (if z=j then (g) (j - 1) else (g) z)) (.int _ _) U Bi U U U H at0 (by omega) (by omega) (by rw [if_pos rfl]; exact congrArg (fun z=>Value.int .u64 ((g) z)) (by omega)) (fun z _ hz=>by rw [if_neg hz]) ?_;rintro w H
             refine Ab (B3 U (AH U U ?_));refine AF U Br Bi U U (by omega) (by omega) ?_;refine AS (BT (j - 1) (fun z => .int .u64 (sw (g) (j) (j - 1) z)) (.int _ _) U Bi U U U H at0 (by omega) (by omega) (by rw [DH]; exact congrArg (fun z=>Value.int .u64 ((g) z)) (by omega)) (fun z _ hz=>by rw [DC hz]) ?_);rintro w H;refine Ab (B3 U (BJ (A6 (Aa (A0 (Af U U (Bp U U U (by omega) (by omega) ?_)))))));refine Ae U U (Ab (Aa ?_));exact ⟨(j - 1,sw g j (j - 1)),rfl,⟨congrArg (Value.int .i64) (by dsimp only; omega),trivial⟩,⟨⟨by dsimp only; omega,by dsimp only; omega,hj.2.2.step haj hj.2.1 h6⟩,hS.step j (j - 1) ⟨by omega,by omega⟩ ⟨by omega,by omega⟩,H⟩,by dsimp only; omega⟩
           ·intro h5;replace h5:=AN h5;refine Bt (Am (Am (AK (Aa ?_))));exact ⟨g,rfl,trivial,hex fun _=>by omega,hS,H⟩
         ·intro h4;replace h4:=AN h4;refine Av (Aa ?_);exact ⟨g1,rfl,trivial,fun x y hx hxy hy=>by omega,hS1,H⟩
        ·rintro g2 j4 w ⟨hO2,hS2,H⟩;refine Ad (Af U U (Af U U (Bp U U U (by omega) (by omega) ?_)));refine C3 U U U (Ab (Aa (Aq _ U ?_ ?_)))
         ·intro h4;replace h4:=AM h4;refine Ad (Af U U (Ay U U U (by omega) (by omega) ?_));rw [show (i:Int)+1=((i+1:Nat):Int) by omega];refine Ae U U (Ab (Aa (Az (Bv 10889035738934729630371528634823176356864 (α:=Nat × (Nat→Int)) (fun t=>[(10,.int .i64 (t.1:Int))]) (fun t w'=>(i+1≤t.1∧t.1≤b∧Ja t.2 a i)∧Sw a b f t.2∧Ctx w0 [q] w' [(q,Bl 28 (C5 t.2 m))]) (fun t=>b - t.1) (i+1,g2) U ?_ ?_ ?_))))
          ·exact ⟨rfl,trivial⟩
          ·exact ⟨⟨Nat.le_refl _,by dsimp only; omega,hO2⟩,hS2,H⟩
          ·rintro ⟨j,g⟩ j5 w ⟨hj,hS,H⟩; dsimp only at hj hS H; dsimp only;refine Aw (Ad (Af U U (Af U U (Bj U U U (Ab (Aa (Aq _ U ?_ ?_)))))))
           ·intro h5;replace h5:=AM h5;refine Av (Aa (Aw (Az (Aw (DM 9 Bq (by kernel_rfl) U U ?_)))));refine Ca U U (AU U U (Ba U Br Bi U U (by omega) (by omega) ?_));refine BP U B2 U (by rintro _ rfl; exact ((Ct (H.drew.get at0) (by omega)))) ?_;refine Ca U U (AU U U (DV U U U (by omega) (by omega) ?_));refine Ba U Br Bi U U (by omega) (by omega) ?_;refine BP U B2 U (by rintro _ rfl; exact ((Ct (H.drew.get at0) (by omega)))) ?_;refine BK ?_;replace H:=H.drew;refine Al U FC (EH _ _ _) U ?_;rintro v w ⟨rfl,rfl⟩;rw [show ((j:Int) - 1).toNat=j - 1 by omega,Int.toNat_natCast];refine BG U U (Ab (Aa (Aq _ U ?_ ?_)))
            ·intro h6;replace h6:=BD h6;refine Bt (Am (ER U (Am (Am (AK (A6 (Aa (A0 (Af U U (Ay U U U (by omega) (by omega) ?_))))))))));refine Ae U U (Ab (Aa ?_));exact ⟨(st+1,i,g),rfl,⟨rfl,rfl,trivial⟩,⟨by dsimp only; omega,⟨by dsimp only; omega,by dsimp only; omega,hj.2.2⟩,hS,H⟩,by dsimp only; omega⟩
            ·intro h6;replace h6:=BE h6;refine Av (Aa (Fa [([0,1,2,3,4,5,6,7,8,9,10,11,12,13,14],15),([16],17)] (fun z=>z.heap[q]? = some (Bl 28 (C5 (g) m))) [15,17] Bq (by kernel_rfl) (H.drew.get at0) ?_));refine AH U U ?_;refine B1 U U (Bc U U (B1 U U (Bc U U (EC U U U (by omega) (by omega) ?_))));refine B1 U U (Bc U U (EC U U U (by omega) (by omega) ?_));refine AF U Br Bi U U (by omega) (by omega) ?_;refine B0 U B2 U (fun _ hx=>(Ct hx (by omega))) ?_;refine B1 U U (Bc U U (AF U Br Bi U U (by omega) (by omega) ?_));refine B0 U B2 U (fun _ hx=>(Ct hx (by omega))) ?_;refine AF U Br Bi U U (by omega) (by omega) ?_;refine AS ?_;replace H:=H.drew;refine BT (j) (fun z => .int .u64 (if z=j then (g) (j - 1) else (g) z)) (.int _ _) U Bi U U U H at0 (by omega) (by omega) (by rw [if_pos rfl]; exact congrArg (fun z=>Value.int .u64 ((g) z)) (by omega)) (fun z _ hz=>by rw [if_neg hz]) ?_;rintro w H
             refine Ab (B3 U (AH U U ?_));refine AF U Br Bi U U (by omega) (by omega) ?_;refine AS (BT (j - 1) (fun z => .int .u64 (sw (g) (j) (j - 1) z)) (.int _ _) U Bi U U U H at0 (by omega) (by omega) (by rw [DH]; exact congrArg (fun z=>Value.int .u64 ((g) z)) (by omega)) (fun z _ hz=>by rw [DC hz]) ?_);rintro w H;refine Ab (B3 U (BJ (A6 (Aa (A0 (Af U U (Ay U U U (by omega) (by omega) ?_)))))));refine Ae U U (Ab (Aa ?_));exact ⟨(j+1,sw g j (j - 1)),rfl,⟨rfl,trivial⟩,⟨⟨by dsimp only; omega,by dsimp only; omega,fun x y hx hxy hy=>by dsimp only; rw [Eu (by omega) (by omega),Eu (by omega) (by omega)]; exact hj.2.2 x y hx hxy hy⟩,hS.step j (j - 1) ⟨by omega,by omega⟩ ⟨by omega,by omega⟩,H⟩,by dsimp only; omega⟩
           ·intro h5;replace h5:=AN h5;refine Bt (Am (Am (AK (A6 (Aa (A0 (Af U U (Ay U U U (by omega) (by omega) ?_))))))));refine Ae U U (Ab (Aa ?_));exact ⟨(st+1,i,g),rfl,⟨rfl,rfl,trivial⟩,⟨by dsimp only; omega,⟨by dsimp only; omega,by dsimp only; omega,hj.2.2⟩,hS,H⟩,by dsimp only; omega⟩
         ·intro h4;replace h4:=AN h4;refine Av (A6 (Aa (A0 (Af U U (Ay U U U (by omega) (by omega) ?_)))));refine Ae U U (Ab (Aa ?_));exact ⟨(st+1,i,g2),rfl,⟨rfl,rfl,trivial⟩,⟨by dsimp only; omega,⟨by dsimp only; omega,by dsimp only; omega,hO2⟩,hS2,H⟩,by dsimp only; omega⟩
  ·intro h1;replace h1:=AN h1;refine Bt (Am (Am (AK (Aa (Ad (Ai U U (Ab (Aa (A5 (AA (v:=(.bool _)) U U U ?_))))))))));exact ⟨false,g,rfl,hS0,(fun h=>by cases h),H⟩
end

end Go.Proofs.YtdagmpmdcgedcaaGreat

/- Sorting numbers of 64 bits: the whole. -/
namespace Go.Proofs.YtdagmpmdcgedcaaGreat
open Go.GV
attribute [local irreducible] AB W Wq Wt

theorem TL (x:Nat) (hx:x≤4503599627370496) (w:World):Ret Tryz.prog 205 #[.int .u64 (x:Int)] w fun v w'=>∃ r:Nat,v = .int .i64 (r:Int)∧x<2 ^ r∧r≤64∧(0<x→2 ^ r≤2*x)∧w=w':=by
 refine Au (fn:=Tryz.f205) Tryz.func205 U [.int .u64 (x:Int)] U (by kernel_rfl) ?_;refine Ad (Ae U U (Ab (Aa (Aw (Aq _ U ?_ ?_)))))
 ·intro h;cases h
 ·intro h;refine Av (Aa (Ad (Af U U (Al U Xy (RC x hx w) U ?_))));rintro v w ⟨r,rfl,h1,h2,h3,rfl⟩;refine Ae U U (Ab (Aa (A5 (AA (v:=(.int _ _)) U U U ?_))));exact ⟨r,rfl,h1,h2,h3,rfl⟩
theorem Aa5 (l:Nat) (h0:0<l) (hl:l≤1000000000) (w:World):Ret Tryz.prog 257 #[.int .i64 (l:Int)] w fun v w'=>∃ r:Nat,v = .int .u64 (r:Int)∧0<r∧r≤2*l∧w=w':=by
 refine Au (fn:=Tryz.f257) Tryz.func257 U [.int .i64 (l:Int)] U (by kernel_rfl) ?_;refine Ad (Ae U U (Ab (Aa (Ad (Af U U (Er U U PY PX (by omega) (by omega) ?_))))));refine Al U To (TL l (by omega) w) U ?_;rintro v w ⟨r,rfl,h1,h2,h3,rfl⟩;refine SV (a:=1) (n:=r) U U U h2 ?_;refine Ae U U (Ab (Aa (A5 (AA (v:=(.int _ _)) U U U ?_))));have h4:=h3 h0;have h5:=Nat.two_pow_pos r;exact ⟨2 ^ r,congrArg (Value.int .u64) (by rw [Nat.one_mul,Nat.mod_eq_of_lt (by omega)]),h5,h4,rfl⟩
theorem Yt {x y:Nat} (hx:x<18446744073709551616) (hy:y<18446744073709551616):x ^^^ y<18446744073709551616:=Nat.xor_lt_two_pow (n:=64) hx hy
section
variable {w:World} {q n c m s:Nat} {f:Nat→Int}
set_option maxRecDepth 20000 in
theorem Aa6 {z:Nat} (hs:w.heap[s]? = some (Bl 286 [.int .u64 (z:Int)])) (hz:z<18446744073709551616) :
  Ret Tryz.prog 258 #[ptr s] w fun v w'=>∃ z':Nat,v = .int .u64 (z':Int)∧z'<18446744073709551616∧Ctx w [s] w' [(s,Bl 286 [.int .u64 (z':Int)])]:=by
 obtain ⟨w0,rfl⟩:∃ w0,w0=w:=⟨_,rfl⟩;have H:=Ctx.start1 hs;refine Au (fn:=Tryz.f258) Tryz.func258 U [.pointer (some ⟨s,0,none⟩)] U (by kernel_rfl) ?_;have b1:=Nat.mod_lt (z*2 ^ 13) (show 0<18446744073709551616 by decide);obtain ⟨y1,hy1⟩:∃ y1,y1=z*2 ^ 13 % 18446744073709551616:=⟨_,rfl⟩;rw [← hy1] at b1;refine Ad (Ae U U (Ab (Aa (DM 9 Bq (by kernel_rfl) U U ?_))));refine B4 U U (AX U U (BU U Kk U (by rintro _ rfl; exact H.drew) at0 U ?_));refine B4 U U (AX U U (BU U Kk U (by rintro _ rfl; exact H.drew) at0 U ?_));refine OC (a:=z) (n:=13) U U U (by decide) ?_;rw [← hy1];refine L9 (a:=z) (b:=y1) U U U hz b1 ?_;refine AX U U (BK ?_);replace H:=H.drew;refine Cg (.int _ _) U PW U U U H at0 (by (simp; done)) ?_;rintro w H;refine Ab (Aa ?_);obtain ⟨z1,hz1⟩:∃ z1,z1=z ^^^ y1:=⟨_,rfl⟩;have c1:=Yt hz b1;rw [← hz1] at c1;replace H:Ctx w0 [s] w [(s,Bl 286 [.int .u64 (z1:Int)])]:=by rw [hz1]; exact H
 have b2:z1 / 2 ^ 7<18446744073709551616:=Nat.lt_of_le_of_lt (Nat.div_le_self _ _) c1;obtain ⟨y2,hy2⟩:∃ y2,y2=z1 / 2 ^ 7:=⟨_,rfl⟩;rw [← hy2] at b2;refine DM 9 Bq (by kernel_rfl) U U ?_;refine B4 U U (AX U U (BU U Kk U (by rintro _ rfl; exact H.drew) at0 U ?_));refine B4 U U (AX U U (BU U Kk U (by rintro _ rfl; exact H.drew) at0 U ?_));refine Vw (a:=z1) (n:=7) U U U (by decide) ?_;rw [← hy2];refine L9 (a:=z1) (b:=y2) U U U c1 b2 ?_;refine AX U U (BK ?_);replace H:=H.drew;refine Cg (.int _ _) U PW U U U H at0 (by (simp; done)) ?_;rintro w H;refine Ab (Aa ?_);obtain ⟨z2,hz2⟩:∃ z2,z2=z1 ^^^ y2:=⟨_,rfl⟩;have c2:=Yt c1 b2;rw [← hz2] at c2;replace H:Ctx w0 [s] w [(s,Bl 286 [.int .u64 (z2:Int)])]:=by rw [hz2]; exact H
 have b3:=Nat.mod_lt (z2*2 ^ 17) (show 0<18446744073709551616 by decide);obtain ⟨y3,hy3⟩:∃ y3,y3=z2*2 ^ 17 % 18446744073709551616:=⟨_,rfl⟩;rw [← hy3] at b3;refine DM 9 Bq (by kernel_rfl) U U ?_;refine B4 U U (AX U U (BU U Kk U (by rintro _ rfl; exact H.drew) at0 U ?_));refine B4 U U (AX U U (BU U Kk U (by rintro _ rfl; exact H.drew) at0 U ?_));refine OC (a:=z2) (n:=17) U U U (by decide) ?_;rw [← hy3];refine L9 (a:=z2) (b:=y3) U U U c2 b3 ?_;refine AX U U (BK ?_);replace H:=H.drew;refine Cg (.int _ _) U PW U U U H at0 (by (simp; done)) ?_;rintro w H;refine Ab (Aa (Ad (A3 U U (A8 U U (AE U Kk U H at0 U (Ae U U (Ab (Aa (A5 (AA (v:=(.int _ _)) U U U ?_))))))))));exact ⟨z2 ^^^ y3,rfl,Yt c2 b3,H⟩

set_option maxRecDepth 20000 in
set_option maxHeartbeats 2000000 in
theorem Yu {a b:Nat} (hd:w.heap[q]? = some (Bl 28 (C5 f m))) (hab:a<b) (hb:b≤n) (hn:n≤m) (hm:n≤1000000000) :
  Ret Tryz.prog 232 #[.slice (some ⟨q,0,none⟩) n c,.int .i64 (a:Int),.int .i64 (b:Int)] w fun v w'=>v = .tuple #[]∧∃ g,Sw a b f g∧Ctx w [q] w' [(q,Bl 28 (C5 g m))]:=by
 obtain ⟨w0,rfl⟩:∃ w0,w0=w:=⟨_,rfl⟩;have H:=Ctx.start1 hd;obtain ⟨l,rfl⟩:∃ l,b=a+l:=⟨b - a,by omega⟩;have hl:((a+l:Nat):Int) - (a:Int)=(l:Int):=by omega
 refine Au (fn:=Tryz.f232) Tryz.func232 U [.slice (some ⟨q,0,none⟩) n c,.int .i64 (a:Int),.int .i64 ((a+l:Nat):Int)] U (by kernel_rfl) ?_;refine Ad (Af U U (Af U U (Bp U U U (by omega) (by omega) ?_)));rw [hl];refine Ae U U (Ab (Aa (Ad (Af U U (C3 U U U (Ab (Aa (Aq _ U ?_ ?_))))))))
 ·intro h1;replace h1:=AM h1;refine Ad (Af U U (Er U U PY Af6 (by omega) (by omega) ?_));refine AZ U Agb H ?_;rintro b7 w - H;refine Cg (.int _ _) U PW U U U H at0 (by decide) ?_;rintro w H;refine Ab (Aa (Ad (Af U U (Al U Aff (Aa5 l (by omega) (by omega) _) U ?_))));rintro v w ⟨M,rfl,hM0,hM,rfl⟩;refine Ae U U (Ab (Aa (Ad (Af U U (Af U U (Jg U U U (by omega) (by omega) (show _≤(9223372036854775807:Int) by omega) ?_))))));refine D8 U U U (by omega) (by omega) ?_;refine Ay U U U (by omega) (by omega) ?_;refine Bp U U U (by omega) (by omega) ?_;rw [show (a:Int)+(l:Int) / 4*2 - 1=((a+l / 4*2 - 1:Nat):Int) by omega]
  refine Ae U U (Ab (Aa (Az (Bv 36893488147351995904 (α:=Nat × (Nat→Int) × Nat) (fun t=>[(9,.int .i64 (t.1:Int))]) (fun t w'=>a≤t.1∧t.1≤a+l / 4*2+2∧t.2.2<18446744073709551616∧Sw a (a+l) f t.2.1∧Ctx w0 [q] w' [(b7,Bl 286 [.int .u64 (t.2.2:Int)]),(q,Bl 28 (C5 t.2.1 m))]) (fun t=>a+l / 4*2+2 - t.1) (a+l / 4*2 - 1,f,l) U ?_ ?_ ?_))))
  ·exact ⟨rfl,trivial⟩
  ·exact ⟨by dsimp only; omega,by dsimp only; omega,by dsimp only; omega,.refl _,H⟩
  ·rintro ⟨i,g,z⟩ j0 w ⟨hi1,hi2,hz,hS,H⟩; dsimp only at hi1 hi2 hz hS H; dsimp only;refine Aw (Ad (Af U U (Af U U (Af U U (Jg U U U (by omega) (by omega) (show _≤(9223372036854775807:Int) by omega) ?_)))));refine D8 U U U (by omega) (by omega) ?_;refine Ay U U U (by omega) (by omega) ?_;refine Ay U U U (by omega) (by omega) ?_;refine L6 U U U (Ab (Aa (Aq _ U ?_ ?_)))
   ·intro h2;replace h2:=AM h2;refine Av (Aa (Aw (Az (Ad (Al U Afg (Aa6 (H.get at0) hz) U ?_)))));rintro v w ⟨z2,rfl,hz2,H2⟩;replace H:=Ctx.back (L1:=[_]) (L2:=[_]) H H2;refine Af U U (Nh U U U (by omega) (by omega) ?_);rw [show (M:Int) - 1=((M - 1:Nat):Int) by omega];refine Iy (a:=z2) (b:=M - 1) U U U hz2 (by omega) ?_;have hand:z2 &&& (M - 1)≤M - 1:=Nat.and_le_right;refine Gn U U PX PY (by omega) (by omega) ?_;refine Ae U U (Ab (Aa (Aw (Ad (Af U U (Af U U (C3 U U U (Ab (Aa ?_)))))))));obtain ⟨r,hr⟩:∃ r,r=z2 &&& (M - 1):=⟨_,rfl⟩;have hr2:r≤M - 1:=by rw [hr]; exact Nat.and_le_right
    rw [← hr];refine Fl 123145302311936 (α:=Nat) (fun r=>[(10,.int .i64 (r:Int))]) (fun r w'=>r<l∧Ctx w0 [q] w' [(b7,Bl 286 [.int .u64 (z2:Int)]),(q,Bl 28 (C5 g m))]) U ?_ ?_
    ·skip
     refine Aq _ U ?_ ?_
     ·intro h3;replace h3:=AM h3;refine A0 (Af U U (Af U U (Bp U U U (by omega) (by omega) ?_)));refine Ae U U (Ab (Aa ?_));exact ⟨r - l,rfl,⟨congrArg (Value.int .i64) (by omega),trivial⟩,by omega,H⟩
     ·intro h3;replace h3:=AN h3;refine Av (Aa ?_);exact ⟨r,rfl,⟨rfl,trivial⟩,by omega,H⟩
    ·rintro r2 j1 w ⟨hr3,H⟩;refine Fa [([0,1,2,3,4,5,6,7,8,9,10,11,12,13,14,15,16],17),([18],19)] (fun z=>z.heap[q]? = some (Bl 28 (C5 (g) m))) [17,19] Bq (by kernel_rfl) (H.drew.get at1) ?_;refine AH U U ?_;refine B1 U U (Bc U U (B1 U U (Bc U U (Bc U U (DW U U U (by omega) (by omega) ?_)))));refine B1 U U (Bc U U (Bc U U (DW U U U (by omega) (by omega) ?_)));refine AF U Br Bi U U (by omega) (by omega) ?_;refine B0 U B2 U (fun _ hx=>(Ct hx (by omega))) ?_;refine B1 U U (Bc U U (AF U Br Bi U U (by omega) (by omega) ?_));refine B0 U B2 U (fun _ hx=>(Ct hx (by omega))) ?_;refine AF U Br Bi U U (by omega) (by omega) ?_;refine AS ?_;replace H:=H.drew;refine BT (i) (fun z => .int .u64 (if z=i then (g) (a+r2) else (g) z)) (.int _ _) U Bi U U U H at1 (by omega) (by omega) (by rw [if_pos rfl]; exact congrArg (fun z=>Value.int .u64 ((g) z)) (by omega)) (fun z _ hz=>by rw [if_neg hz]) ?_;rintro w H
     refine Ab (B3 U (AH U U ?_));refine AF U Br Bi U U (by omega) (by omega) ?_;refine AS (BT (a+r2) (fun z => .int .u64 (sw (g) (i) (a+r2) z)) (.int _ _) U Bi U U U H at1 (by omega) (by omega) (by rw [DH]; exact congrArg (fun z=>Value.int .u64 ((g) z)) (by omega)) (fun z _ hz=>by rw [DC hz]) ?_);rintro w H;refine Ab (B3 U (BJ (A6 (Aa (A0 (Af U U (Ay U U U (by omega) (by omega) ?_)))))));refine Ae U U (Ab (Aa ?_));exact ⟨(i+1,sw g i (a+r2),z2),rfl,⟨rfl,trivial⟩,⟨by dsimp only; omega,by dsimp only; omega,hz2,hS.step i (a+r2) ⟨by omega,by omega⟩ ⟨by omega,by omega⟩,H⟩,by dsimp only; omega⟩
   ·intro h2;replace h2:=AN h2;refine Bt (Am (Am (AK (CG U U ?_))));exact ⟨rfl,g,hS,H.tail⟩
 ·intro h1;replace h1:=AN h1;refine Av (CG U U ?_);exact ⟨rfl,f,.refl _,H⟩
end

end Go.Proofs.YtdagmpmdcgedcaaGreat

/- Sorting numbers of 64 bits: slices.Sort. -/
namespace Go.Proofs.YtdagmpmdcgedcaaGreat
open Go.GV
attribute [local irreducible] AB W Wq Wt

/-- Sorted, once what lies between a' and b' is. -/
structure PQ (f g:Nat→Int) (a b a' b':Nat):Prop where
 ha:a≤a'
 hab:a'≤b'
 hb:b'≤b
 sw:Sw a b f g
 out:∀ x y,a≤x→x<y→y<b→¬ (a'≤x∧y<b')→g x≤g y
 lb:0<a'→∀ x,a'≤x→x<b'→g (a' - 1)≤g x
section
variable {f g g':Nat→Int} {a b a' b':Nat}
theorem PQ.swap (h:PQ f g a b a' b') (s:Sw a' b' g g'):PQ f g' a b a' b':=by
 refine ⟨h.ha,h.hab,h.hb,h.sw.trans (s.mono h.ha h.hb),fun x y hx hxy hy hn=>?_,fun h0 x hx hxb=>?_⟩
 ·by_cases ix:a'≤x∧x<b'
  ·obtain ⟨x2,h1,h2,h3⟩:=s.mem x ix.1 ix.2;rw [h3,s.out y (.inr (by omega))];exact h.out x2 y (Nat.le_trans h.ha h1) (by omega) hy (by omega)
  ·rw [s.out x (by omega)]
   by_cases iy:a'≤y∧y<b'
   ·obtain ⟨y2,h1,h2,h3⟩:=s.mem y iy.1 iy.2;rw [h3];exact h.out x y2 hx (by omega) (Nat.lt_of_lt_of_le h2 h.hb) (by omega)
   ·rw [s.out y (by omega)];exact h.out x y hx hxy hy hn
 ·obtain ⟨x2,h1,h2,h3⟩:=s.mem x hx hxb;rw [h3,s.out (a' - 1) (.inl (by omega))];exact h.lb h0 x2 h1 h2
theorem PQ.done (h:PQ f g a b a' b') (s:Ja g a' b'):Ja g a b:=fun x y hx hxy hy=>by
 by_cases hn:a'≤x∧y<b'
 ·exact s x y hn.1 hxy hn.2
 ·exact h.out x y hx hxy hy hn
theorem PQ.eq {i:Nat} (h:PQ f g a b a' b') (h0:0<a') (hle:g a'≤g (a' - 1)) (hi:a'<i) (hi2:i≤b') (h1:∀ x,a'≤x→x<i→g x≤g a') (h2:∀ y,i≤y→y<b'→g a'<g y):PQ f g a b i b':=by
 refine ⟨by have:=h.ha; omega,hi2,h.hb,h.sw,fun x y hx hxy hy hn=>?_,fun _ x hx hxb=>?_⟩
 ·by_cases hin:a'≤x∧y<b'
  ·have hxi:x<i:=by omega
   have hx1:=h1 x hin.1 hxi
   rcases Nat.lt_or_ge y i with h3 | h3
   ·have:=h.lb h0 y (by omega) hin.2;omega
   ·have:=h2 y h3 hin.2;omega
  ·exact h.out x y hx hxy hy hin
 ·have e1:=h1 (i - 1) (by omega) (by omega);have e2:=h2 x hx hxb;omega
theorem PartU.sw {mid lo hi:Nat} (p:PartU g a' mid b') (s:Sw lo hi g g') (h:(a'≤lo∧hi≤mid)∨(mid<lo∧hi≤b')):PartU g' a' mid b':=by
 have hm:g' mid=g mid:=s.out mid (by omega);refine ⟨fun x hx hxm=>?_,fun y hy hyb=>?_⟩
 ·rw [hm]
  by_cases ix:lo≤x∧x<hi
  ·obtain ⟨x2,h1,h2,h3⟩:=s.mem x ix.1 ix.2;rw [h3]; exact p.le x2 (by omega) (by omega)
  ·rw [s.out x (by omega)]; exact p.le x hx hxm
 ·rw [hm]
  by_cases iy:lo≤y∧y<hi
  ·obtain ⟨y2,h1,h2,h3⟩:=s.mem y iy.1 iy.2;rw [h3]; exact p.ge y2 (by omega) (by omega)
  ·rw [s.out y (by omega)]; exact p.ge y hy hyb
theorem PQ.right {mid:Nat} (h:PQ f g a b a' b') (hm1:a'≤mid) (hm2:mid<b') (p:PartU g a' mid b') (s:Ja g a' mid):PQ f g a b (mid+1) b':=by
 refine ⟨by have:=h.ha; omega,by omega,h.hb,h.sw,fun x y hx hxy hy hn=>?_,fun _ x hx hxb=>p.ge x (by omega) hxb⟩
 by_cases hin:a'≤x∧y<b'
 ·rcases Nat.lt_or_ge y mid with h1 | h1
  ·exact s x y hin.1 hxy h1
  ·have hxm:x≤mid:=by omega
   have e1:g x≤g mid:=by
    rcases Nat.lt_or_ge x mid with h2 | h2
    ·exact p.le x hin.1 h2
    ·rw [show x=mid by omega]; exact Int.le_refl _
   rcases Nat.lt_or_ge mid y with h2 | h2
   ·exact Int.le_trans e1 (p.ge y h2 hin.2)
   ·rw [show y=mid by omega]; exact e1
 ·exact h.out x y hx hxy hy hin
theorem PQ.left {mid:Nat} (h:PQ f g a b a' b') (hm1:a'≤mid) (hm2:mid<b') (p:PartU g a' mid b') (s:Ja g (mid+1) b'):PQ f g a b a' mid:=by
 refine ⟨h.ha,hm1,by have:=h.hb; omega,h.sw,fun x y hx hxy hy hn=>?_,fun h0 x hx hxb=>h.lb h0 x hx (by omega)⟩
 by_cases hin:a'≤x∧y<b'
 ·rcases Nat.lt_or_ge mid x with h1 | h1
  ·exact s x y h1 hxy hin.2
  ·have hym:mid≤y:=by omega
   have e1:g x≤g mid:=by
    rcases Nat.lt_or_ge x mid with h2 | h2
    ·exact p.le x hin.1 h2
    ·rw [show x=mid by omega]; exact Int.le_refl _
   rcases Nat.lt_or_ge mid y with h2 | h2
   ·exact Int.le_trans e1 (p.ge y h2 hin.2)
   ·rw [show y=mid by omega]; exact e1
 ·exact h.out x y hx hxy hy hin
end
structure QSt where
 a:Nat
 b:Nat
 lim:Nat
 t8:Bool
 t9:Bool
 g:Nat→Int

set_option maxRecDepth 20000 in
set_option maxHeartbeats 8000000 in
theorem Ago {q n c m:Nat} (hn:n≤m) (hm:n≤1000000000):∀ (Z:Nat) {w:World} {f:Nat→Int} {a b lim:Nat},b - a<Z→w.heap[q]? = some (Bl 28 (C5 f m))→a≤b→b≤n→lim≤1000→(0<a→∀ x,a≤x→x<b→f (a - 1)≤f x) →
  Ret Tryz.prog 204 #[.slice (some ⟨q,0,none⟩) n c,.int .i64 (a:Int),.int .i64 (b:Int),.int .i64 (lim:Int)] w fun v w'=>v = .tuple #[]∧∃ g,Sw a b f g∧Ja g a b∧Ctx w [q] w' [(q,Bl 28 (C5 g m))]:=by
 intro Z
 induction Z with
 | zero=>intro w f a b lim h; omega
 | succ Z ih =>
 intro w f a b lim hZ hd hab hb hlim hLB;obtain ⟨w0,rfl⟩:∃ w0,w0=w:=⟨_,rfl⟩;have H:=Ctx.start1 hd;refine Au (fn:=Tryz.f204) Tryz.func204 U [.slice (some ⟨q,0,none⟩) n c,.int .i64 (a:Int),.int .i64 (b:Int),.int .i64 (lim:Int)] U (by kernel_rfl) ?_;refine Ad (Ai U U (Ab (Aa (Ad (Ai U U (Ab (Aa (Az (Bv 21778071482940061661655974875633165532942 (α:=QSt) (fun t=>[(1,.int .i64 (t.a:Int)),(2,.int .i64 (t.b:Int)),(3,.int .i64 (t.lim:Int)),(8,.bool t.t8),(9,.bool t.t9)]) (fun t w'=>t.lim≤1000∧PQ f t.g a b t.a t.b∧Ctx w0 [q] w' [(q,Bl 28 (C5 t.g m))]) (fun t=>t.b - t.a) ⟨a,b,lim,true,true,f⟩ U ?_ ?_ ?_)))))))))
 ·exact ⟨rfl,rfl,rfl,rfl,rfl,trivial⟩
 ·exact ⟨hlim,⟨Nat.le_refl _,hab,Nat.le_refl _,.refl _,fun x y h1 h2 h3 h4=>absurd ⟨h1,h3⟩ h4,hLB⟩,H⟩
 ·rintro ⟨a',b',lim,t8,t9,g⟩ j0 w ⟨hlim,P,H⟩; dsimp only at hlim P H; dsimp only;have hP1:=P.ha;have hP2:=P.hab;have hP3:=P.hb;refine Az (Ad (Af U U (Af U U (Bp U U U (by omega) (by omega) ?_))));refine Ae U U (Ab (Aa (Aw (Ad (Af U U (L6 U U U (Ab (Aa (Aq _ U ?_ ?_)))))))))
  ·intro h1;replace h1:=AM h1;refine Ad (A4 U U (Af U U (Af U U (Al U X0 (Qn (a:=a') (b:=b') (H.get at0) hP2 (by omega) hn hm) U ?_))));rintro rv w ⟨rfl,g2,s2,o2,H2⟩;replace H:=Ctx.back (L1:=[_]) (L2:=[]) H H2;refine Ab (Aa (A5 (Ao (A9 (Ao (A9 (Fo U U ?_)))))));exact ⟨rfl,g2,(P.swap s2).sw,(P.swap s2).done o2,H⟩
  ·intro h1;replace h1:=AN h1;refine Av (Aa (Aw (Ad (Af U U (Cz U U U (Ab (Aa (Aq _ U ?_ ?_))))))))
   ·intro h2;replace h2:=AM h2;refine Ad (A4 U U (Af U U (Af U U (Al U Aex (RJ (a:=a') (b:=b') (H.get at0) (by omega) (by omega) hn hm) U ?_))));rintro rv w ⟨rfl,g2,s2,o2,H2⟩;replace H:=Ctx.back (L1:=[_]) (L2:=[]) H H2;refine Ab (Aa (A5 (Ao (A9 (Ao (A9 (Fo U U ?_)))))));exact ⟨rfl,g2,(P.swap s2).sw,(P.swap s2).done o2,H⟩
   ·intro h2;replace h2:=AN h2;refine Av (Aa (Aw (Ad (A7 U U (BG U U (Ab (Aa (Fl 4329327034376 (α:=Nat × (Nat→Int)) (fun t=>[(3,.int .i64 (t.1:Int))]) (fun t w'=>t.1≤1000∧PQ f t.2 a b a' b'∧Ctx w0 [q] w' [(q,Bl 28 (C5 t.2 m))]) U ?_ ?_))))))))
    ·skip
     refine Aq _ U ?_ ?_
     ·intro h3;replace h3:=BD h3;refine Ad (A4 U U (Af U U (Af U U (Al U Aey (Yu (a:=a') (b:=b') (H.get at0) (by omega) (by omega) hn hm) U ?_))));rintro rv w ⟨rfl,g2,s2,H2⟩;replace H:=Ctx.back (L1:=[_]) (L2:=[]) H H2;refine Ab (Aa (A0 (Af U U (Bp U U U (by omega) (by omega) ?_))));refine Ae U U (Ab (Aa ?_));exact ⟨(lim - 1,g2),rfl,⟨congrArg (Value.int .i64) (by dsimp only; omega),trivial⟩,by dsimp only; omega,P.swap s2,H⟩
     ·intro h3;replace h3:=BE h3;refine Av (Aa ?_);exact ⟨(lim,g),rfl,⟨rfl,trivial⟩,hlim,P,H⟩
    ·rintro ⟨lim,g⟩ j1 w ⟨hlim,P,H⟩; dsimp only at hlim P H; dsimp only;refine Ad (A4 U U (Af U U (Af U U (Al U Aez (Ys (a:=a') (b:=b') (H.get at0) (by omega) (by omega) hn hm) U ?_))));rintro rv w ⟨p,hint,hp1,hp2,rfl,hx46⟩;replace H:=H.call hx46;refine C0 U U (AO U U U (AO U U U (Ae U U (Ae U U (Ab (Aa (Aw (Ad (Af U U (Cz U U U ?_))))))))));refine Ab (Aa (Fl 2303591209400014848 (α:=Nat × Int × (Nat→Int)) (fun t=>[(11,.int .i64 (t.1:Int)),(12,.int .i64 t.2.1)]) (fun t w'=>a'≤t.1∧t.1<b'∧PQ f t.2.2 a b a' b'∧Ctx w0 [q] w' [(q,Bl 28 (C5 t.2.2 m))]) U ?_ ?_))
     ·skip
      refine Aq _ U ?_ ?_
      ·intro h4;replace h4:=AM h4;refine Ad (A4 U U (Af U U (Af U U (Al U Ae0 (TJ (a:=a') (b:=b') (H.get at0) (by omega) (by omega) hn hm) U ?_))));rintro rv w ⟨rfl,g2,s2,H2⟩;replace H:=Ctx.back (L1:=[_]) (L2:=[]) H H2;refine Ab (Aa (Ad (Af U U (Bp U U U (by omega) (by omega) ?_))));refine Af U U (Af U U (Bp U U U (by omega) (by omega) ?_));refine Bp U U U (by omega) (by omega) ?_;refine Ae U U (Ab (Aa (A0 (Ae U U (Ab (Aa ?_))))));exact ⟨(b' - 1 - (p - a'),1,g2),rfl,⟨congrArg (Value.int .i64) (by dsimp only; omega),rfl,trivial⟩,by dsimp only; omega,by dsimp only; omega,P.swap s2,H⟩
      ·intro h4;replace h4:=AN h4;refine Av (Aa ?_);exact ⟨(p,hint,g),rfl,⟨rfl,rfl,trivial⟩,hp1,hp2,P,H⟩
     ·rintro ⟨p,hint,g⟩ j2 w ⟨hp1,hp2,P,H⟩; dsimp only at hp1 hp2 P H; dsimp only;refine Aw (DE 587989967349491957760 (α:=Bool) (fun t=>[(68,.bool t)]) (fun _ w'=>Ctx w0 [q] w' [(q,Bl 28 (C5 g m))]) U ?_ ?_)
      ·skip
       refine A0 (A7 U U (A7 U U (AV 62 U ?_ ?_)))
       ·intro h1;refine A7 U U (AG U U (.bool _) U (A7 U U (AV 65 U ?_ ?_)))
        ·intro h2;refine Af U U (Cz U U U (AG U U (.bool _) U (Ab (Aa ?_))));exact ⟨_,rfl,⟨rfl,trivial⟩,H⟩
        ·intro h3;refine Ag U (Ag U (AJ U U (.bool _) U (Ab (Aa ?_))));exact ⟨_,rfl,⟨rfl,trivial⟩,H⟩
       ·intro h4;refine Ag U (AJ U U (.bool _) U (A7 U U (Ag U (Ag U (AJ U U (.bool _) U (Ab (Aa ?_)))))));exact ⟨_,rfl,⟨rfl,trivial⟩,H⟩
      ·rintro t68 j3 w H;refine Fl 8854437155380584775680 (α:=Nat→Int) (fun _=>[]) (fun g w'=>PQ f g a b a' b'∧Ctx w0 [q] w' [(q,Bl 28 (C5 g m))]) U ?_ ?_
       ·skip
        refine Aq _ U ?_ ?_
        ·intro h5;refine Ad (A4 U U (Af U U (Af U U (Al U Ae1 (TK (a:=a') (b:=b') (H.get at0) (by omega) (by omega) hn hm P.lb) U ?_))));rintro rv w ⟨t72,g2,rfl,s2,o2,H2⟩;replace H:=Ctx.back (L1:=[_]) (L2:=[]) H H2;refine Ab (Aa (Aq _ U ?_ ?_))
         ·intro h6;refine A5 (Ao (A9 (Ao (A9 (Fo U U ?_)))));exact ⟨rfl,g2,(P.swap s2).sw,(P.swap s2).done (o2 h6),H⟩
         ·intro h6;refine Av (Aa ?_);exact ⟨g2,rfl,trivial,P.swap s2,H⟩
        ·intro h5;refine Av (Aa ?_);exact ⟨g,rfl,trivial,P,H⟩
       ·rintro g j4 w ⟨P,H⟩;have hP1:=P.ha;have hP3:=P.hb;have e1:((a':Int) - 1).toNat=a' - 1:=by omega
        refine Aw (DE 309475565088379329434353664 (α:=Unit) (fun _=>[(87,.bool (decide (0<a'∧¬ g (a' - 1)<g p)))]) (fun _ w'=>Ctx w0 [q] w' [(q,Bl 28 (C5 g m))]) U ?_ ?_)
        ·skip
         refine Fq 12 Bq (by kernel_rfl) U U ?_;refine AU U U (OA U U U (CM U U (Dt 75 U ?_ ?_)))
         ·intro h5;replace h5:=AM h5;refine Ca U U (AU U U (DV U U U (by omega) (by omega) ?_));refine Ba U Br Bi U U (by omega) (by omega) ?_;refine BP U B2 U (by rintro _ rfl; exact ((Ct (H.drew.get at0) (by omega)))) ?_;refine Ca U U (AU U U (Ba U Br Bi U U (by omega) (by omega) ?_));refine BP U B2 U (by rintro _ rfl; exact ((Ct (H.drew.get at0) (by omega)))) ?_;refine BK ?_;replace H:=H.drew;refine Al U FC (EH _ _ _) U ?_;rintro v w ⟨rfl,rfl⟩;rw [e1,Int.toNat_natCast];refine BG U U (AG U U (.bool _) U (Ab (Aa ?_)));exact ⟨(),rfl,⟨congrArg Value.bool (by clear P ih hLB; rw [Bool.eq_iff_iff]; simp_all; try omega),trivial⟩,H⟩
         ·intro h6;replace h6:=AN h6;refine Ax U (Ax U (Ax U (Ax U (Ax U (Ax U (Ax U (Ax U (Ax U (BK ?_)))))))));replace H:=H.drew;refine Ag U (Ag U (AJ U U (.bool _) U (Ab (Aa ?_))));exact ⟨(),rfl,⟨congrArg Value.bool (by clear P ih hLB; rw [Bool.eq_iff_iff]; simp_all; try omega),trivial⟩,H⟩
        ·rintro - j5 w H;refine Aq _ U ?_ ?_
         ·intro h7;have h7:=of_decide_eq_true h7;refine Ad (A4 U U (Af U U (Af U U (Af U U (Al U Ae2 (VY (a:=a') (b:=b') (p:=p) (H.get at0) (by omega) (by omega) hn hm ⟨hp1,hp2⟩) U ?_)))));rintro rv w ⟨i,g2,rfl,s2,hi1,hi2,hga,o1,o2,H2⟩;replace H:=Ctx.back (L1:=[_]) (L2:=[]) H H2;refine Ae U U (Ab (Aa (Ad (Af U U (Ae U U (Ab (Aa (Bt (Am (AK (Aa ?_)))))))))));have P2:=P.swap s2;have hout:=s2.out (a' - 1) (.inl (by omega));exact ⟨⟨i,b',lim,t8,t9,g2⟩,rfl,⟨rfl,rfl,rfl,rfl,rfl,trivial⟩,⟨hlim,P2.eq h7.1 (by rw [hga,hout]; omega) hi1 hi2 o1 o2,H⟩,by dsimp only; omega⟩
         ·intro h7;refine Av (Aa (Ad (A4 U U (Af U U (Af U U (Af U U (Al U Ae3 (Qo (a:=a') (b:=b') (p:=p) (H.get at0) (by omega) (by omega) hn hm ⟨hp1,hp2⟩) U ?_)))))));rintro rv w ⟨mid,t,g2,rfl,s2,hm1,hm2,PP,H2⟩;replace H:=Ctx.back (L1:=[_]) (L2:=[]) H H2;refine C0 U U (AO U U U (AO U U U (Ae U U (Ai U U (Ab (Aa ?_))))));have P2:=P.swap s2;refine Ad (A7 U U (Ai U U (Ab (Aa (Ad (Af U U (Af U U (Bp U U U (by omega) (by omega) ?_))))))));refine Af U U (Af U U (Bp U U U (by omega) (by omega) ?_));refine Ae U U (Ae U U (Ab (Aa (Ad (Af U U (Jg U U U (by omega) (by omega) (show _≤(9223372036854775807:Int) by omega) ?_))))));refine Ae U U (Ab (Aa (Ad (Af U U (Af U U (Bj U U U (Ab (Aa (Aq _ U ?_ ?_)))))))))
          ·intro h8;replace h8:=AM h8;refine Ad (Af U U (Af U U (C3 U U U (Ai U U (Ab (Aa (Ad (A4 U U (Af U U (Af U U ?_))))))))));refine Af U U (Al U PM (ih (a:=a') (b:=mid) (lim:=lim) (f:=g2) (by omega) (H.get at0) hm1 (by omega) hlim (fun h0 x hx hxb=>P2.lb h0 x hx (by omega))) U ?_);rintro rv w ⟨rfl,g3,s3,o3,H2⟩;replace H:=Ctx.back (L1:=[_]) (L2:=[]) H H2;refine Ab (Aa (A0 (Af U U (Ay U U U (by omega) (by omega) ?_))));refine Ae U U (Ab (A6 (Aa ?_)));have P3:=P2.swap (s3.mono (Nat.le_refl _) (by omega));exact ⟨⟨mid+1,b',lim,_,t,g3⟩,rfl,⟨rfl,rfl,rfl,rfl,rfl,trivial⟩,⟨hlim,P3.right hm1 hm2 (PartU.sw PP s3 (.inl ⟨Nat.le_refl _,Nat.le_refl _⟩)) o3,H⟩,by dsimp only; omega⟩
          ·intro h8;replace h8:=AN h8;refine Ad (Af U U (Af U U (C3 U U U (Ai U U (Ab (Aa (Ad (A4 U U (Af U U (Ay U U U (by omega) (by omega) ?_))))))))));rw [show (mid:Int)+1=((mid+1:Nat):Int) by omega];refine Af U U (Af U U (Al U PM (ih (a:=mid+1) (b:=b') (lim:=lim) (f:=g2) (by omega) (H.get at0) (by omega) (by omega) hlim (fun _ x hx hxb=>PP.ge x (by omega) hxb)) U ?_));rintro rv w ⟨rfl,g3,s3,o3,H2⟩;replace H:=Ctx.back (L1:=[_]) (L2:=[]) H H2;refine Ab (Aa (A0 (Af U U (Ae U U (Ab (A6 (Aa ?_)))))));have P3:=P2.swap (s3.mono (by omega) (Nat.le_refl _));have P4:=P3.left hm1 hm2 (PartU.sw PP s3 (.inr ⟨by omega,Nat.le_refl _⟩)) o3;exact ⟨⟨a',mid,lim,_,t,g3⟩,rfl,⟨rfl,rfl,rfl,rfl,rfl,trivial⟩,⟨hlim,P4,H⟩,by show mid - a'<b' - a'; omega⟩

set_option maxRecDepth 20000 in
theorem Yv {q n c m:Nat} {w:World} {f:Nat→Int} (hd:w.heap[q]? = some (Bl 28 (C5 f m))) (hn:n≤m) (hm:n≤1000000000) :
  Ret Tryz.prog 162 #[.slice (some ⟨q,0,none⟩) n c] w fun v w'=>v = .tuple #[]∧∃ g,(tab g n).Perm (tab f n)∧Ja g 0 n∧Ctx w [q] w' [(q,Bl 28 (C5 g m))]:=by
 obtain ⟨w0,rfl⟩:∃ w0,w0=w:=⟨_,rfl⟩;refine Au (fn:=Tryz.f162) Tryz.func162 U [.slice (some ⟨q,0,none⟩) n c] U (by kernel_rfl) ?_;refine Ad (A4 U U (Bf U Br U (Ae U U (Ab (Aa (A0 (A4 U U (Af U U (Af U U (Er U U PY PX (by omega) (by omega) ?_))))))))));refine Al U To (TL n (by omega) _) U ?_;rintro v w ⟨r,rfl,h1,h2,h3,rfl⟩;refine Al U PM (Ago hn hm (n+1) (a:=0) (b:=n) (lim:=r) (by omega) hd (Nat.zero_le _) (Nat.le_refl _) (by omega) (fun h=>absurd h (Nat.lt_irrefl _))) U ?_;rintro rv w ⟨rfl,g,s,o,H⟩;refine Ab (CG U U ?_);exact ⟨rfl,g,s.perm (Nat.le_refl _),o,H⟩
theorem TM (c:Nat) (w:World):Ret Tryz.prog 162 #[.slice none 0 c] w fun v w'=>v = .tuple #[]∧w=w':=by
 have ins:∀ w,Ret Tryz.prog 230 #[.slice none 0 c,.int .i64 0,.int .i64 0] w fun v w'=>v = .tuple #[]∧w=w':=fun w=>by
  refine Au (fn:=Tryz.f230) Tryz.func230 U [.slice none 0 c,.int .i64 0,.int .i64 0] U (by kernel_rfl) ?_;refine Ad (Af U U (Ay U U U (by omega) (by omega) ?_));refine Ae U U (Ab (Aa (Az (Bv 562949953420480 (α:=Unit) (fun _=>[(6,.int .i64 1)]) (fun _ w'=>w=w') (fun _=>0) () U ?_ ?_ ?_))))
  ·exact ⟨rfl,trivial⟩
  ·rfl
  ·rintro - j0 w rfl;refine Aw (Ad (Af U U (Af U U (Bj U U U (Ab (Aa (Aq _ U ?_ ?_)))))))
   ·intro h1;replace h1:=AM h1;omega
   ·intro h1;replace h1:=AN h1;refine Bt (Am (Am (AK (CG U U ?_))));exact ⟨rfl,rfl⟩
 have pdq:∀ (r:Nat) (w:World),Ret Tryz.prog 204 #[.slice none 0 c,.int .i64 0,.int .i64 0,.int .i64 (r:Int)] w fun v w'=>v = .tuple #[]∧w=w':=fun r w=>by
  refine Au (fn:=Tryz.f204) Tryz.func204 U [.slice none 0 c,.int .i64 0,.int .i64 0,.int .i64 (r:Int)] U (by kernel_rfl) ?_;refine Ad (Ai U U (Ab (Aa (Ad (Ai U U (Ab (Aa (Az (Bv 21778071482940061661655974875633165532942 (α:=Unit) (fun _=>[(1,.int .i64 0),(2,.int .i64 0),(3,.int .i64 (r:Int)),(8,.bool true),(9,.bool true)]) (fun _ w'=>w=w') (fun _=>0) () U ?_ ?_ ?_)))))))))
  ·exact ⟨rfl,rfl,rfl,rfl,rfl,trivial⟩
  ·rfl
  ·rintro - j0 w rfl;refine Az (Ad (Af U U (Af U U (Bp U U U (by omega) (by omega) ?_))));refine Ae U U (Ab (Aa (Aw (Ad (Af U U (L6 U U U (Ab (Aa (Aq _ U ?_ ?_)))))))))
   ·intro h1;replace h1:=AM h1;refine Ad (A4 U U (Af U U (Af U U (Al U X0 (ins _) U ?_))));rintro v w ⟨rfl,rfl⟩;refine Ab (Aa (A5 (Ao (A9 (Ao (A9 (Fo U U ?_)))))));exact ⟨rfl,rfl⟩
   ·intro h1;replace h1:=AN h1;omega
 refine Au (fn:=Tryz.f162) Tryz.func162 U [.slice none 0 c] U (by kernel_rfl) ?_;refine Ad (A4 U U (Bf U Br U (Ae U U (Ab (Aa (A0 (A4 U U (Af U U (Af U U (Er U U PY PX (by omega) (by omega) ?_))))))))));refine Al U To (TL 0 (by omega) _) U ?_;rintro v w ⟨r,rfl,h1,h2,h3,rfl⟩;refine Al U PM (pdq r _) U ?_;rintro v w ⟨rfl,rfl⟩;refine Ab (CG U U ?_);exact ⟨rfl,rfl⟩

end Go.Proofs.YtdagmpmdcgedcaaGreat

/- Money: the walks. -/
namespace Go.Proofs.YtdagmpmdcgedcaaGreat
open Go.GV
attribute [local irreducible] AB W Wq Wt

def CQ (x:Int):Bool:=decide (0≤x) && decide (x≤4503599627370496)
theorem Kt (x:Int) (w:World):Ret Tryz.prog 130 #[.int .i64 x] w fun v w'=>v = .bool (CQ x)∧w=w':=by
 obtain ⟨w0,rfl⟩:∃ w0,w0=w:=⟨_,rfl⟩;refine Au (fn:=Tryz.f130) Tryz.func130 U [.int .i64 x] U (by kernel_rfl) ?_;refine Ad (Ai U U (Ab (Aa (Ad (Af U U (C3 U U U (A7 U U (AV 5 U ?_ ?_))))))))
 ·intro h1;replace h1:=AM h1;refine Af U U (L6 U U U (AG U U (.bool _) U (Ai U U (Ab (Aa (A5 (AA (v:=(.bool _)) U U U ?_)))))));exact ⟨congrArg Value.bool (by unfold CQ; rw [Bool.eq_iff_iff]; simp_all; try omega),rfl⟩
 ·intro h2;replace h2:=AN h2;refine Ag U (Ag U (AJ U U (.bool _) U (Ai U U (Ab (Aa (A5 (AA (v:=(.bool _)) U U U ?_)))))));exact ⟨congrArg Value.bool (by unfold CQ; rw [Bool.eq_iff_iff]; simp_all; try omega),rfl⟩
set_option maxRecDepth 20000 in
theorem OY (a:Option Addr) (n c:Nat) (xs:List Int) (w:World) (R:Rd w a 1 I1 xs) (hn:xs.length=n) (hn2:n≤1000000) :
  Ret Tryz.prog 191 #[.slice a n c] w fun v w'=>v = .bool (xs.all CQ)∧w=w':=by
 subst hn;obtain ⟨w0,rfl⟩:∃ w0,w0=w:=⟨_,rfl⟩;refine Au (fn:=Tryz.f191) Tryz.func191 U [.slice a xs.length c] U (by kernel_rfl) ?_;refine Ad (Ai U U (Ab (Aa (Aw (Ad (A4 U U (Bf U AR U (Af U U (Ab (Aa (Az ?_)))))))))));refine Bv 32660 (α:=Nat) (fun i=>[(7,.int .i64 (i:Int))]) (fun i w'=>i≤xs.length∧w0=w'∧∀ (k:Nat) (x:Int),k<i→xs[k]? = some x→CQ x=true) (fun i=>xs.length - i) 0 U ?_ ?_ ?_
 ·exact ⟨rfl,trivial⟩
 ·exact ⟨Nat.zero_le _,rfl,fun k x h=>absurd h (Nat.not_lt_zero _)⟩
 ·rintro i j w ⟨hi,rfl,hb⟩;refine Ad (Bj U U U (Ab (Aa (Aw (Aq _ U ?_ ?_)))))
  ·intro h1;replace h1:=AM h1;obtain ⟨x,hx⟩:=AD (l:=xs) (i:=i) (by omega);refine Av (Aa (Aw (Az (Ad (Bo R U AR Bx U U (by omega) (by omega) (by rfl) ?_)))));refine Bd U Bw U ((R.fld hx U (j:=0) U)) ?_;refine Ae U U (Ab (Aa (Ad (Af U U (Al U Km (Kt x _) U ?_)))));rintro v w ⟨rfl,rfl⟩;refine BG U U (Ab (Aa (Aq _ U ?_ ?_)))
   ·intro h2;replace h2:=BD h2;refine Ad (Ai U U (Ab (Aa (A5 (A9 (Ao (Ao (A9 (Ao (AA (v:=(.bool _)) U U U ?_))))))))));refine ⟨congrArg Value.bool ?_,rfl⟩;exact (El hx (show CQ x=false by simpa using h2)).symm
   ·intro h2;replace h2:=BE h2;refine Av (A6 (Aa (A0 (Ay U U U (by omega) (by omega) ?_))));refine Af U U (Ab (Aa ?_));refine ⟨i+1,rfl,⟨rfl,trivial⟩,⟨by omega,rfl,fun k y hk hy=>?_⟩,by omega⟩
    rcases Nat.lt_or_ge k i with h7 | h7
    ·exact hb k y h7 hy
    ·obtain rfl:k=i:=by omega
     rw [hx] at hy;cases hy
     simpa using h2
  ·intro h1;replace h1:=AN h1;refine Bt (Am (Am (AK (Aa (Ad (Ai U U (Ab (Aa (A5 (AA (v:=(.bool _)) U U U ?_))))))))));exact ⟨congrArg Value.bool (Fi fun k x hk hx=>hb k x (by omega) hx).symm,rfl⟩
/-! ### The sum -/
def Cm (xs:List Int):Int:=xs.foldl (·+·) 0
theorem VZ (xs:List Int):∀ a:Int,xs.foldl (·+·) a=a+Cm xs:=by
 induction xs with
 | nil=>intro a; show a=a+0; omega
 | cons x xs ih =>
  intro a;show xs.foldl (·+·) (a+x)=a+xs.foldl (·+·) (0+x);rw [ih,ih (0+x)]; omega
theorem JM {xs:List Int} {i:Nat} {x:Int} (h:xs[i]? = some x):Cm (xs.take (i+1))=Cm (xs.take i)+x:=by
 rw [List.take_add_one,h];unfold Cm;rw [List.foldl_append]; rfl
theorem BV (x:Int) (xs:List Int):Cm (x::xs)=x+Cm xs:=by
 show xs.foldl (·+·) (0+x)=_;rw [VZ]; omega
theorem EP (xs ys:List Int):Cm (xs++ys)=Cm xs+Cm ys:=by
 induction xs with
 | nil=>show Cm ys=0+_; omega
 | cons x xs ih=>rw [List.cons_append,BV,BV,ih]; omega
theorem Wa {xs ys:List Int} (h:xs.Perm ys):Cm xs=Cm ys:=by
 induction h with
 | nil=>rfl
 | cons x _ ih=>rw [BV,BV,ih]
 | swap x y l=>rw [BV,BV,BV,BV]; omega
 | trans _ _ h1 h2=>exact h1.trans h2
theorem Gz {xs:List Int} (h:∀ x∈xs,0≤x):0≤Cm xs:=by
 induction xs with
 | nil=>exact Int.le_refl _
 | cons x xs ih =>
  rw [BV];have:=h x (List.mem_cons_self ..);have:=ih fun y hy=>h y (List.mem_cons_of_mem _ hy);omega
theorem Yw (f:Nat→Int) (n:Nat):Cm (tab f n)=B5 f n:=by
 induction n with
 | zero=>rfl
 | succ n ih =>
  unfold tab at ih ⊢;rw [List.range_succ,List.map_append,EP,ih];show _+(0+f n)=B5 f n+f n;omega
/-- What Sum answers: the total, and a code. -/
def E8 (xs:List Int):Int × Int:=if xs.all CQ=false then (0,1) else if Cm xs≤4503599627370496 then (Cm xs,0) else (0,13)
theorem C9 {x:Int}:CQ x=true↔0≤x∧x≤4503599627370496:=by unfold CQ; simp
set_option maxRecDepth 20000 in
set_option maxHeartbeats 2000000 in
theorem Li (a:Option Addr) (n c:Nat) (xs:List Int) (w:World) (R:Rd w a 1 I1 xs) (hn:xs.length=n) (hn2:n≤1000000) :
  Ret Tryz.prog 131 #[.slice a n c] w fun v w'=>v = .tuple #[.int .i64 (E8 xs).1,.int .i64 (E8 xs).2]∧w=w':=by
 subst hn;obtain ⟨w0,rfl⟩:∃ w0,w0=w:=⟨_,rfl⟩;refine Au (fn:=Tryz.f131) Tryz.func131 U [.slice a xs.length c] U (by kernel_rfl) ?_;refine Ad (Ae U U (Ae U U (Ab (Aa (Aw (Ad (A4 U U (Al U Xw (OY a xs.length c xs _ R U hn2) U ?_))))))));rintro v w ⟨rfl,rfl⟩;refine BG U U (Ab (Aa (Aq _ U ?_ ?_)))
 ·intro h1;replace h1:=BD h1;refine Ad (Ae U U (Ae U U (Ab (Aa (A5 (Ao (BR (v1:=(.int _ _)) (v2:=(.int _ _)) U U U U ?_)))))));have h1':xs.all CQ=false:=by simpa using h1
  exact ⟨by unfold E8; rw [if_pos h1'],rfl⟩
 ·intro h1;replace h1:=BE h1;have h1':xs.all CQ=true:=by simpa using h1
  have hall:∀ (k:Nat) (x:Int),xs[k]? = some x→0≤x∧x≤4503599627370496:=fun k x hx=>C9.1 (List.all_eq_true.1 h1' x (List.mem_of_getElem? hx));have hpos:∀ x∈xs,0≤x:=fun x hx=>(C9.1 (List.all_eq_true.1 h1' x hx)).1;refine Av (Aa (Ad (Ae U U (Ab (Aa (Aw (Ad (A4 U U (Bf U AR U (Af U U (Ab (Aa ?_))))))))))));refine Az (Bv 8384604 (α:=Nat) (fun i=>[(4,.int .i64 (Cm (xs.take i))),(12,.int .i64 (i:Int))]) (fun i w'=>i≤xs.length∧w0=w'∧Cm (xs.take i)≤4503599627370496) (fun i=>xs.length - i) 0 U ?_ ?_ ?_)
  ·exact ⟨rfl,rfl,trivial⟩
  ·exact ⟨Nat.zero_le _,rfl,by show (0:Int)≤_; omega⟩
  ·rintro i j w ⟨hi,rfl,hb⟩;have hs0:0≤Cm (xs.take i):=Gz fun y hy=>hpos y (List.mem_of_mem_take hy);refine Ad (Bj U U U (Ab (Aa (Aw (Aq _ U ?_ ?_)))))
   ·intro h2;replace h2:=AM h2;obtain ⟨x,hx⟩:=AD (l:=xs) (i:=i) (by omega);obtain ⟨hx0,hx1⟩:=hall i x hx;have hst:=JM hx;refine Av (Aa (Aw (Az (Ad (Bo R U AR Bx U U (by omega) (by omega) (by rfl) ?_)))));refine Bd U Bw U ((R.fld hx U (j:=0) U)) ?_;refine Ae U U (Ab (Aa (Ad (Af U U (Af U U (Ay U U U (by omega) (by omega) ?_))))));rw [← hst];refine Ae U U (Ab (Aa (Ad (Af U U (Al U Km (Kt (Cm (xs.take (i+1))) _) U ?_)))));rintro v w ⟨rfl,rfl⟩;refine BG U U (Ab (Aa (Aq _ U ?_ ?_)))
    ·intro h3;replace h3:=BD h3;refine Ad (Ae U U (Ae U U (Ab (Aa (A5 (A9 (Ao (Ao (A9 (Ao (BR (v1:=(.int _ _)) (v2:=(.int _ _)) U U U U ?_)))))))))));have h4:CQ (Cm (xs.take (i+1)))=false:=by simpa using h3
     have h5:¬ Cm (xs.take (i+1))≤4503599627370496:=fun h=>by
      rw [C9.2 ⟨by omega,h⟩] at h4; cases h4
     have h6:Cm xs=Cm (xs.take (i+1))+Cm (xs.drop (i+1)):=by rw [← EP,List.take_append_drop]
     have h7:=Gz (xs:=xs.drop (i+1)) fun y hy=>hpos y (List.mem_of_mem_drop hy);exact ⟨by unfold E8; rw [if_neg (by rw [h1']; decide),if_neg (by omega)],rfl⟩
    ·intro h3;replace h3:=BE h3;refine Av (A6 (Aa (A0 (Ay U U U (by omega) (by omega) ?_))));refine Af U U (Ab (Aa ?_));have h4:CQ (Cm (xs.take (i+1)))=true:=by simpa using h3
     exact ⟨i+1,rfl,⟨rfl,rfl,trivial⟩,⟨by omega,rfl,(C9.1 h4).2⟩,by omega⟩
   ·intro h2;replace h2:=AN h2;refine Bt (Am (Am (AK (Aa (Ad (Af U U (Ae U U (Ae U U (Ab (Aa (A5 (BR (v1:=(.int _ _)) (v2:=(.int _ _)) U U U U ?_))))))))))));obtain rfl:i=xs.length:=by omega
    rw [List.take_length] at hb ⊢;exact ⟨by unfold E8; rw [if_neg (by rw [h1']; decide),if_pos hb],rfl⟩
end Go.Proofs.YtdagmpmdcgedcaaGreat

/- Money: sums that come to nothing, shifts. -/
namespace Go.Proofs.YtdagmpmdcgedcaaGreat
open Go.GV
attribute [local irreducible] AB W Wq Wt

section
variable {P:Program} {r:Option Nat} {ops rest:List Oper} {Q:Exit→Env→World→Prop} {e:Env} {w:World} {dst:Option Tmp} {ty:TypeId} {pos:String} {af:Array Edge} {g:Option (Nat × Bool)}
/-- Go's quotient. -/
theorem Aa7 {t t2:TypeId} {x y:Operand} {a b:Int} (hg:AP ⟨dst,.binOp .quo t x y t2,ty,pos,af,g⟩ ops e=true) (hx:ev e x = .int .i64 a) (hy:ev e y = .int .i64 b) (hb:0<b) (h1 : -9223372036854775808≤a.tdiv b) (h2:a.tdiv b≤9223372036854775807)
  (h:AB P r ops Q rest (put e dst (.int .i64 (a.tdiv b))) w):AB P r ops Q (⟨dst,.binOp .quo t x y t2,ty,pos,af,g⟩::rest) e w :=
 BC hg rfl (BW hx hy (v := .int .i64 (a.tdiv b)) (by simp [binOp,Op.intDiv,show ¬ b=0 from by omega,CZ (k := .i64) (n:=a.tdiv b) h1 h2])) h
end
theorem tdm (t:Int):∃ q r,t.tdiv 4503599627370496=q∧t.tmod 4503599627370496=r∧t=4503599627370496*q+r ∧ -4503599627370496<r∧r<4503599627370496∧(-9007199254740992<t→t<9007199254740992 → -1≤q∧q≤1):=by
 refine ⟨_,_,rfl,rfl,?_⟩
 rcases Rj t 0 with h | h
 ·obtain ⟨s,rfl⟩:∃ s,t = -s:=⟨-t,by omega⟩;rw [Int.neg_tdiv,Int.neg_tmod,Int.tdiv_eq_ediv_of_nonneg (by omega),Int.tmod_eq_emod_of_nonneg (by omega)];exact ⟨by omega,by omega,by omega,fun h1 h2=>by omega⟩
 ·rw [Int.tdiv_eq_ediv_of_nonneg h,Int.tmod_eq_emod_of_nonneg h];exact ⟨by omega,by omega,by omega,fun h1 h2=>by omega⟩
def FZ (x:Int):Bool:=decide (-4503599627370496≤x) && decide (x≤4503599627370496)
def HG (xs:List Int):Bool:=xs.all FZ && decide (Cm xs=0)
set_option maxRecDepth 20000 in
set_option maxHeartbeats 2000000 in
theorem Yx (a:Option Addr) (n c:Nat) (xs:List Int) (w:World) (R:Rd w a 1 I1 xs) (hn:xs.length=n) (hn2:n≤1000000) :
  Ret Tryz.prog 254 #[.slice a n c] w fun v w'=>v = .bool (HG xs)∧w=w':=by
 subst hn;obtain ⟨w0,rfl⟩:∃ w0,w0=w:=⟨_,rfl⟩;refine Au (fn:=Tryz.f254) Tryz.func254 U [.slice a xs.length c] U (by kernel_rfl) ?_;refine Ad (Ai U U (Ab (Aa (Ad (Ae U U (Ae U U (Ab (Aa (Aw (Ad (A4 U U ?_)))))))))));refine Bf U AR U (Af U U (Ab (Aa (Az (Bv 536870492 (α:=Nat × Int × Int) (fun t=>[(3,.int .i64 t.2.1),(4,.int .i64 t.2.2),(9,.int .i64 (t.1:Int))]) (fun t w'=>t.1≤xs.length∧w0=w'∧Cm (xs.take t.1)=4503599627370496*t.2.1+t.2.2 ∧ -4503599627370496<t.2.2∧t.2.2<4503599627370496 ∧ -(t.1:Int)≤t.2.1∧t.2.1≤t.1∧∀ (k:Nat) (x:Int),k<t.1→xs[k]? = some x→FZ x=true) (fun t=>xs.length - t.1) (0,0,0) U ?_ ?_ ?_)))))
 ·exact ⟨rfl,rfl,rfl,trivial⟩
 ·exact ⟨Nat.zero_le _,rfl,rfl,by dsimp only; omega,by dsimp only; omega,by dsimp only; omega,by dsimp only; omega,fun k x h=>absurd h (Nat.not_lt_zero _)⟩
 ·rintro ⟨i,hh,ll⟩ j w ⟨hi,rfl,hs,hl1,hl2,hh1,hh2,hb⟩; dsimp only at hi hs hl1 hl2 hh1 hh2 hb; dsimp only;refine Ad (Bj U U U (Ab (Aa (Aw (Aq _ U ?_ ?_)))))
  ·intro h1;replace h1:=AM h1;obtain ⟨x,hx⟩:=AD (l:=xs) (i:=i) (by omega);refine Av (Aa (Aw (Az (Ad (Bo R U AR Bx U U (by omega) (by omega) (by rfl) ?_)))));refine Bd U Bw U ((R.fld hx U (j:=0) U)) ?_;refine Ae U U (Ab (Aa (Aw (Ad (Cw (α:=Unit) 516096 (fun _=>[(18,.bool (!FZ x))]) (fun _ w'=>w'=w0) U ?_ ?_)))))
   ·refine Af U U (Bj U U U (A7 U U (AV 15 U ?_ ?_)))
    ·intro h1;replace h1:=AM h1;refine Ag U (Ag U (AG U U (.bool _) U (Ab ?_)));exact ⟨rfl,(),rfl,⟨congrArg Value.bool (by unfold FZ; rw [Bool.eq_iff_iff]; simp_all; try omega),trivial⟩,rfl⟩
    ·intro h2;replace h2:=AN h2;refine Af U U (Dn U U U (AJ U U (.bool _) U (Ab ?_)));exact ⟨rfl,(),rfl,⟨congrArg Value.bool (by unfold FZ; rw [Bool.eq_iff_iff]; simp_all; try omega),trivial⟩,rfl⟩
   rintro - j18 w hw;subst hw;refine Aq _ U ?_ ?_
   ·intro h2;replace h2:=BD h2;refine Ad (Ai U U (Ab (Aa (A5 (Ao (A9 (Ao (Ao (A9 (Ao (AA (v:=(.bool _)) U U U ?_)))))))))));refine ⟨congrArg Value.bool ?_,rfl⟩;unfold HG;rw [El hx (show FZ x=false by simpa using h2)]; rfl
   ·intro h2;replace h2:=BE h2;have h2':FZ x=true:=by simpa using h2
    have h3 : -4503599627370496≤x∧x≤4503599627370496:=by unfold FZ at h2'; simpa using h2'
    have hst:=JM hx;obtain ⟨q,r,hq,hr,he,hr1,hr2,hq2⟩:=tdm (ll+x);have hq3:=hq2 (by omega) (by omega);refine Av (Aa (Ad (Af U U (Af U U (Ay U U U (by omega) (by omega) ?_)))));refine Ae U U (Ab (Aa (Ad (Af U U (Af U U (Aa7 U U U (by decide) (by omega) (by omega) ?_))))));rw [hq];refine Ay U U U (by omega) (by omega) ?_;refine Ae U U (Ab (Aa (A0 (Af U U (ZQ U U U (by decide) ?_)))));rw [hr];refine Ae U U (Ab (A6 (Aa (A0 (Ay U U U (by omega) (by omega) ?_)))));refine Af U U (Ab (Aa ?_));refine ⟨(i+1,hh+q,r),rfl,⟨rfl,rfl,rfl,trivial⟩,⟨by dsimp only; omega,rfl,by dsimp only; omega,hr1,hr2,by dsimp only; omega,by dsimp only; omega,fun k y hk hy=>?_⟩,by dsimp only; omega⟩
    rcases Nat.lt_or_ge k i with h7 | h7
    ·exact hb k y h7 hy
    ·obtain rfl:k=i:=by dsimp only at hk; omega
     rw [hx] at hy;cases hy;exact h2'
  ·intro h1;replace h1:=AN h1;obtain rfl:i=xs.length:=by omega
   rw [List.take_length] at hs;have hall:xs.all FZ=true:=Fi fun k x hk hx=>hb k x hk hx;refine Bt (Am (Am (AK (Aa (Ad (Af U U (Cz U U U (A7 U U (AV 31 U ?_ ?_)))))))))
   ·intro h3;replace h3:=AM h3;refine Af U U (Cz U U U (AG U U (.bool _) U (Ai U U (Ab (Aa (A5 (AA (v:=(.bool _)) U U U ?_)))))));exact ⟨congrArg Value.bool (by unfold HG; rw [hall,Bool.true_and,Bool.eq_iff_iff]; simp_all; try omega),rfl⟩
   ·intro h4;replace h4:=AN h4;refine Ag U (Ag U (AJ U U (.bool _) U (Ai U U (Ab (Aa (A5 (AA (v:=(.bool _)) U U U ?_)))))));exact ⟨congrArg Value.bool (by unfold HG; rw [hall,Bool.true_and,Bool.eq_iff_iff]; simp_all; try omega),rfl⟩

/-! ### Shift -/
def CS (xs ys:List Int):List Int:=List.zipWith (·+·) xs ys
/-- Its code. -/
def D0 (xs ys:List Int):Int :=
 if (decide (xs.length=ys.length) && (xs.all CQ && HG ys))=false then 1 else if (CS xs ys).all (fun x=>decide (0≤x))=false then 12 else if (CS xs ys).all CQ=false then 13 else 0
theorem Jy {xs ys:List Int} {i:Nat} {x y:Int} (hx:xs[i]? = some x) (hy:ys[i]? = some y):(CS xs ys)[i]? = some (x+y):=by
 unfold CS; rw [List.getElem?_zipWith,hx,hy]
theorem TN {xs ys:List Int} {i:Nat} {x y:Int} (hx:xs[i]? = some x) (hy:ys[i]? = some y):(CS xs ys).take (i+1)=(CS xs ys).take i++[x+y]:=by
 rw [List.take_add_one,Jy hx hy]; rfl
set_option maxRecDepth 20000 in
set_option maxHeartbeats 4000000 in
theorem Wb (a b:Option Addr) (n c m d:Nat) (xs ys:List Int) (w:World) (R:Rd w a 1 I1 xs) (hn:xs.length=n) (hn2:n≤1000000) (Ry:Rd w b 1 I1 ys) (hm:ys.length=m) (hm2:m≤1000000) :
  Ret Tryz.prog 223 #[.slice a n c,.slice b m d] w fun v w'=>∃ v',v = .tuple #[v',.int .i64 (D0 xs ys)]∧(D0 xs ys≠0→v' = .slice none 0 0)∧(D0 xs ys=0→Fresh w w' 2 1 v' ((CS xs ys).map Dq))∧Ext [] w w':=by
 subst hn hm;obtain ⟨w0,rfl⟩:∃ w0,w0=w:=⟨_,rfl⟩;have H:=Ctx.start w0 [];refine Au (fn:=Tryz.f223) Tryz.func223 U [.slice a xs.length c,.slice b ys.length d] U (by kernel_rfl) ?_;refine Ad (A1 U U (Ae U U (Ab (Aa (Aw (Ad (Cw (α:=Unit) 33553408 (fun _=>[(24,.bool (!(decide (xs.length=ys.length) && (xs.all CQ && HG ys))))]) (fun _ w'=>w'=w0) U ?_ ?_)))))))
 ·refine A4 U U (Bf U AR U (A4 U U (Bf U AR U (CI U U U (A7 U U (AV 15 U ?_ ?_))))))
  ·intro h1;replace h1:=CE h1;refine Ag U (Ag U (Ag U (AG U U (.bool _) U (A7 U U (Ag U (Ag U (Ag U (AG U U (.bool _) U (Ab ?_)))))))));exact ⟨rfl,(),rfl,⟨congrArg Value.bool (by generalize xs.all CQ=A at *; generalize HG ys=B at *; rw [Bool.eq_iff_iff]; simp_all; try omega),trivial⟩,rfl⟩
  ·intro h2;replace h2:=CF h2;refine A4 U U (Al U Xw (OY a xs.length c xs _ R U hn2) U ?_);rintro v w ⟨rfl,rfl⟩;refine BG U U (AJ U U (.bool _) U (A7 U U (AV 20 U ?_ ?_)))
   ·intro h3;replace h3:=BD h3;refine Ag U (Ag U (Ag U (AG U U (.bool _) U (Ab ?_))));exact ⟨rfl,(),rfl,⟨congrArg Value.bool (by generalize xs.all CQ=A at *; generalize HG ys=B at *; rw [Bool.eq_iff_iff]; simp_all; try omega),trivial⟩,rfl⟩
   ·intro h4;replace h4:=BE h4;refine A4 U U (Al U Afe (Yx b ys.length d ys _ Ry U hm2) U ?_);rintro v w ⟨rfl,rfl⟩;refine BG U U (AJ U U (.bool _) U (Ab ?_));exact ⟨rfl,(),rfl,⟨congrArg Value.bool (by generalize xs.all CQ=A at *; generalize HG ys=B at *; rw [Bool.eq_iff_iff]; simp_all; try omega),trivial⟩,rfl⟩
 rintro - j24 w hw;subst w;refine Aq _ U ?_ ?_
 ·intro h1;replace h1:=BD h1;refine Ad (A1 U U (Ae U U (Ab (Aa (A5 (Ao (BR (v1:=(.slice _ _ _)) (v2:=(.int _ _)) U U U U ?_)))))));have h1':D0 xs ys=1:=by unfold D0; rw [if_pos (by simpa using h1)]
  exact ⟨_,by rw [h1'],fun _=>rfl,(fun h=>by omega),H.ext⟩
 ·intro h1;replace h1:=BE h1;have h1':(decide (xs.length=ys.length) && (xs.all CQ && HG ys))=true:=by simpa using h1
  have h1c:¬ (decide (xs.length=ys.length) && (xs.all CQ && HG ys))=false:=by rw [h1']; decide
  have hE:=h1';simp only [Bool.and_eq_true,decide_eq_true_eq,List.all_eq_true] at hE;obtain ⟨hle,hma,hev⟩:=hE
  have hsm:∀ y∈ys,-4503599627370496≤y∧y≤4503599627370496:=fun y hy=>by
   unfold HG at hev;simp only [Bool.and_eq_true,List.all_eq_true] at hev;have:=hev.1 y hy;unfold FZ at this
   simpa using this
  have hlen:(CS xs ys).length=xs.length:=by unfold CS; rw [List.length_zipWith]; omega
  refine Av (Aa (Ad (A1 U U (Ab (Aa (Ad (Ae U U (Ab (Aa (Aw (Ad (A4 U U ?_))))))))))));refine Bf U AR U (Af U U (Ab (Aa (Az (Bv 1125899772625904 (α:=LSt × Int) (fun t=>[(6,.slice t.1.a t.1.i t.1.c),(7,.int .i64 t.2),(27,.int .i64 (t.1.i:Int))]) (fun t w'=>t.1.i≤xs.length∧OS t.1.a t.1.i t.1.c 1 t.1.full (((CS xs ys).take t.1.i).map Dq)∧Ctx w0 [] w' (ent t.1.a 2 t.1.full)∧(∀ (k:Nat) (x:Int),k<t.1.i→(CS xs ys)[k]? = some x→0≤x)∧((t.2=0∧∀ (k:Nat) (x:Int),k<t.1.i→(CS xs ys)[k]? = some x→CQ x=true)∨(t.2=13∧(CS xs ys).all CQ=false))) (fun t=>xs.length - t.1.i) (⟨0,none,0,[]⟩,0) U ?_ ?_ ?_)))))
  ·exact ⟨rfl,rfl,rfl,trivial⟩
  ·exact ⟨Nat.zero_le _,OS.nil,H,fun k x h=>absurd h (Nat.not_lt_zero _),.inl ⟨rfl,fun k x h=>absurd h (Nat.not_lt_zero _)⟩⟩
  ·rintro ⟨⟨i,a2,c2,full⟩,ov⟩ j w ⟨hi,O,H,hp,hov⟩; dsimp only at hi O H hp hov; dsimp only;refine Ad (Bj U U U (Ab (Aa (Aw (Aq _ U ?_ ?_)))))
   ·intro h2;replace h2:=AM h2;obtain ⟨x,hx⟩:=AD (l:=xs) (i:=i) (by omega);obtain ⟨y,hy⟩:=AD (l:=ys) (i:=i) (by omega);have hx1:=C9.1 (hma x (List.mem_of_getElem? hx));have hy1:=hsm y (List.mem_of_getElem? hy);have hat:=Jy hx hy;have htk:=TN hx hy;refine Av (Aa (Aw (Az (Ad (Af U U (Bo R U AR Bx U U (by omega) (by omega) (by rfl) ?_))))));refine Bd U Bw U (((R.ext0 H.ext).fld hx U (j:=0) U)) ?_;refine Ae U U (Ae U U (Ab (Aa (Ad (Af U U (A4 U U (Af U U (Bo Ry U AR Bx U U (by omega) (by omega) (by rfl) ?_))))))));refine Bd U Bw U (((Ry.ext0 H.ext).fld hy U (j:=0) U)) ?_;refine Ay U U U (by omega) (by omega) ?_;refine Ae U U (Ab (Aa (Aw (Az (Ad (Af U U (Bj U U U (Ai U U (Ab (Aa (Aq _ U ?_ ?_)))))))))))
    ·intro h3;replace h3:=AM h3;refine Ad (A1 U U (Ae U U (Ab (Aa (A5 (A9 (Ao (A9 (Ao (Ao (A9 (Ao (BR (v1:=(.slice _ _ _)) (v2:=(.int _ _)) U U U U ?_)))))))))))))
     have h4:D0 xs ys=12:=by
      unfold D0;rw [if_neg h1c,if_pos (El hat (by simpa using h3))]
     exact ⟨_,by rw [h4],fun _=>rfl,(fun h=>by omega),H.ext⟩
    ·intro h3;replace h3:=AN h3
     have hp':∀ (k:Nat) (z:Int),k<i+1→(CS xs ys)[k]? = some z→0≤z:=fun k z hk hz=>by
      rcases Nat.lt_or_ge k i with h7 | h7
      ·exact hp k z h7 hz
      ·obtain rfl:k=i:=by omega
       rw [hat] at hz; cases hz; omega
     have hO:((CS xs ys).take (i+1)).map Dq=((CS xs ys).take i).map Dq++[.int .i64 (x+y)]:=by rw [htk,List.map_append]; rfl
     refine Ad (Af U U (Al U Km (Kt (x+y) _) U ?_));rintro v w ⟨rfl,rfl⟩;refine BG U U (Ai U U (Ab (Aa (Aq _ U ?_ ?_))))
     ·intro h4;replace h4:=BD h4;have h4':CQ (x+y)=false:=by simpa using h4
      refine A0 (Ae U U (Ab (A6 (Aa (A0 (A4 U U (Af U U (Ci _ (.int _ _) U AR Bx Eb U (by decide) (by decide) U U U H ?_))))))));rintro b47 w - H;refine CJ (L:=[]) U AR AR Bx Kl Eb U (by decide) U U H O U (by simp [Be]) (by omega) ?_;rintro a' c' full' w H O;refine A1 U U (Ab (A6 (Aa (A0 (Ay U U U (by omega) (by omega) ?_)))));refine Af U U (Ab (Aa ?_));exact ⟨(⟨i+1,a',c',full'⟩,13),rfl,⟨rfl,rfl,rfl,trivial⟩,⟨by dsimp only; omega,by dsimp only; rw [hO]; exact O,H,hp',.inr ⟨rfl,El hat h4'⟩⟩,by dsimp only; omega⟩
     ·intro h4;replace h4:=BE h4;have h4':CQ (x+y)=true:=by simpa using h4
      refine Av (A6 (Aa (A0 (A4 U U (Af U U (Ci _ (.int _ _) U AR Bx Eb U (by decide) (by decide) U U U H ?_))))));rintro b47 w - H;refine CJ (L:=[]) U AR AR Bx Kl Eb U (by decide) U U H O U (by simp [Be]) (by omega) ?_;rintro a' c' full' w H O;refine A1 U U (Ab (A6 (Aa (A0 (Ay U U U (by omega) (by omega) ?_)))));refine Af U U (Ab (Aa ?_));refine ⟨(⟨i+1,a',c',full'⟩,ov),rfl,⟨rfl,rfl,rfl,trivial⟩,⟨by dsimp only; omega,by dsimp only; rw [hO]; exact O,H,hp',?_⟩,by dsimp only; omega⟩
      rcases hov with ⟨h5,h6⟩ | h5
      ·refine .inl ⟨h5,fun k z hk hz=>?_⟩
       rcases Nat.lt_or_ge k i with h7 | h7
       ·exact h6 k z h7 hz
       ·obtain rfl:k=i:=by dsimp only at hk; omega
        rw [hat] at hz; cases hz; exact h4'
      ·exact .inr h5
   ·intro h2;replace h2:=AN h2;obtain rfl:i=xs.length:=by omega
    have hpa:¬ (CS xs ys).all (fun x=>decide (0≤x))=false:=by
     rw [Fi fun k x hk hx=>decide_eq_true (hp k x (by omega) hx)]; decide
    rw [show (CS xs ys).take xs.length=CS xs ys by rw [← hlen,List.take_length]] at O;refine Bt (Am (Am (AK (Aa (Aw (Ad (Af U U (CI U U U (Ab (Aa (Aq _ U ?_ ?_)))))))))))
    ·intro h3;replace h3:=CE h3
     rcases hov with ⟨h5,-⟩ | ⟨rfl,h6⟩
     ·exact absurd h5 h3
     ·refine Ad (Af U U (A1 U U (Ae U U (Ab (Aa (A5 (Ao (BR (v1:=(.slice _ _ _)) (v2:=(.int _ _)) U U U U ?_))))))));have h4:D0 xs ys=13:=by unfold D0; rw [if_neg h1c,if_neg hpa,if_pos h6]
      exact ⟨_,by rw [h4],fun _=>rfl,(fun h=>by omega),H.ext⟩
    ·intro h3;replace h3:=CF h3;refine Av (Aa (Ad (A4 U U (A1 U U (Ae U U (Ab (Aa (A5 (BR (v1:=(.slice _ _ _)) (v2:=(.int _ _)) U U U U ?_)))))))))
     have h4:D0 xs ys=0:=by
      unfold D0
      rcases hov with ⟨-,h6⟩ | ⟨h5,-⟩
      ·rw [if_neg h1c,if_neg hpa,if_neg (by rw [Fi fun k x hk hx=>h6 k x (by omega) hx]; decide)]
      ·omega
     exact ⟨_,by rw [h4],(fun h=>absurd h4 h),(fun _=>Ctx.fresh (L:=[]) H O),H.ext⟩
end Go.Proofs.YtdagmpmdcgedcaaGreat

/- Keys of the dues' map, in whatever order. -/
namespace Go.Proofs.YtdagmpmdcgedcaaGreat
open Go.GV
attribute [local irreducible] AB W Wq Wt

structure DueK (b2 b:Nat) (o:Obj) (w:World):Prop where
 h2:w.heap[b2]? = some (Bl 163 [.map (some b)])
 hb:w.heap[b]? = some o
def Acu (m:List (Int × Value)) (vis:List (Int × Value)) (v:List Value) (vis':List (Int × Value)):Prop:=∃ p,vis'=vis++[p]∧v=[.int .u64 p.1]∧p∈m∧vis.length<m.length
set_option maxRecDepth 20000 in
set_option maxHeartbeats 2000000 in
theorem Yy {b2 b:Nat} {o:Obj} {m:List (Int × Value)} (hM:CL .u64 m o):Up Tryz.prog 163 #[ptr b2] [] (fun _ w=>DueK b2 b o w) ([]:List (Int × Value)) (Acu m) (fun vis=>vis.Perm m) (fun _=>True):=by
 intro l w _ J E hJ0 hJs hEs hK hY;obtain ⟨M0,hJ0⟩:=hJ0;obtain ⟨w0,rfl⟩:∃ w0,w0=w:=⟨_,rfl⟩;have H:=Ctx.start w0 [];refine Au (fn:=Tryz.f163) Tryz.func163 U [.func (.yield l) #[] #[],.pointer (some ⟨b2,0,none⟩)] U (by kernel_rfl) ?_;have K0:=(hK _ _ _ hJ0).2;refine Ad (Bd U EN U ((by rw [Aj K0.h2]; rfl)) ?_);refine QT U Fb U H K0.hb hM ?_;rintro bi it w hV H;refine Ab (Aa (Az ?_));have hbi:w0.heap.size≤bi:=(H.own (bi,it) (List.mem_cons_self ..)).elim (fun h=>by cases h) id;have hJ1:=hJs _ _ _ _ [] hJ0 (fun x hx=>by cases hx) H.ext
 have hM0:¬ M0 bi:=fun h=>by
  have:=(hK _ _ _ hJ0).1 bi h; omega
 refine Bv 16328 (α:=List (Int × Value) × Obj) (fun _=>[]) (fun z w'=>VisO .u64 b m z.1 o z.2∧∃ M,J z.1 M w'∧¬ M bi∧w'.heap[bi]? = some z.2) (fun z=>m.length - z.1.length) (([]:List (Int × Value)),it) U ?_ ?_ ?_
 ·exact trivial
 ·exact ⟨hV,M0,hJ1,hM0,H.get at0⟩
 ·rintro ⟨vis,it⟩ j w ⟨hV,M,hJ,hMb,hit⟩; dsimp only at hV hJ hit; dsimp only;have KK:=(hK _ _ _ hJ).2;obtain ⟨w1,rfl⟩:∃ w1,w1=w:=⟨_,rfl⟩;have H:=Ctx.start1 hit;have hT:∀ x∈[bi],¬ M x∧w0.heap.size≤x:=fun x hx=>by rw [List.mem_singleton] at hx; subst hx; exact ⟨hMb,hbi⟩
  refine Ad (Ur U (fun _=>rfl) U H KK.hb at0 hV ?_);rintro vs more it' w hc H
  skip
  refine Ab (Aa (Aw (Aq _ U ?_ ?_)))
  ·intro h1;obtain ⟨p,hV'⟩:∃ p,VisO .u64 b m (vis++[p]) o it':=hc.elim (fun h=>by rw [h.1] at h1; cases h1) fun h=>h.2;have hJw:=hJs _ _ _ _ [bi] hJ hT H.ext;have KR:=(hK _ _ _ hJw).2;have hle:=hV'.le;rw [List.length_append] at hle;have hst:Acu m vis [.int .u64 p.1] (vis++[p]):=⟨p,rfl,rfl,hV'.mem p (by simp),by simp at hle; omega⟩;refine Av (Aa (Az (Ad (QU U U H KR.hb at0 hV' ?_))));refine AO U U U (Ae U U (Ab (Aa ?_)));have hY1:=hY vis [.int .u64 p.1] (vis++[p]) M w hst hJw;refine Ad (De U (.func _ _ _) U ?_);refine Af U U (Gq (vs:=[.int .u64 p.1]) U U hY1 U ?_);rintro u w hu
   obtain ⟨bb,rfl,hu1,hu0⟩:∃ bb,u = .bool bb∧(bb=true→∃ M,J (vis++[p]) M w∧¬ M bi∧w.heap[bi]? = some it')∧(bb=false→E w):=hu.elim (fun h=>⟨true,h.1,fun _=>let ⟨M',h1,g⟩:=h.2; ⟨M',h1,fun hx=>(g.new _ hx).elim hMb (fun h=>by have:=H.lt at0; omega),g.to (H.get at0) hMb⟩,fun h=>by cases h⟩) (fun h=>⟨false,h.1,(fun h=>by cases h),fun _=>h.2⟩);refine BG U U (Ab (Aa (Aq _ U ?_ ?_)))
   ·intro h2;replace h2:=BD h2;refine A5 (A9 (Ao (A9 (Fo U U ?_))));exact .inr (hu0 (by simpa using h2))
   ·intro h2;replace h2:=BE h2;refine Av (A6 (Aa ?_));exact ⟨(vis++[p],it'),rfl,trivial,⟨hV',hu1 (by simpa using h2)⟩,by dsimp only; rw [List.length_append]; simp; simp at hle; omega⟩
  ·intro h1;obtain ⟨hp,rfl⟩:vis.Perm m∧it'=it:=hc.elim (fun h=>h.2) fun h=>by rw [h.1] at h1; cases h1
   refine Bt (Am (Am (AK (CG U U ?_))));exact .inl ⟨vis,M,hp,hJs _ _ _ _ [bi] hJ hT H.ext⟩
end Go.Proofs.YtdagmpmdcgedcaaGreat

/- The keys of the dues' map: gathered, sorted. -/
namespace Go.Proofs.YtdagmpmdcgedcaaGreat
open Go.GV
attribute [local irreducible] AB W Wq Wt

def FS (x:Int):Value := .int .u64 x
/-- A slice of numbers of 64 bits that the call has made. -/
structure FreshU (w w':World) (v:Value) (l:List Int):Prop where
 ex:∃ a n c full,v = .slice a n c∧OS a n c 1 full (l.map FS)∧(∀ x∈full,∃ z,x=FS z)∧∀ x∈ent a 28 full,w'.heap[x.1]? = some x.2∧w.heap.size≤x.1
 ext:Ext [] w w'
def UO (bk:Nat):Value := .func (.func 163) #[] #[ptr bk]
theorem Aa8 {b:Nat} (w:World):Ret Tryz.prog 100 #[.map (some b)] w fun v w'=>∃ bk,v=UO bk∧w'.heap[bk]? = some (Bl 163 [.map (some b)])∧w.heap.size≤bk∧Ext [] w w':=by
 obtain ⟨w0,rfl⟩:∃ w0,w0=w:=⟨_,rfl⟩;have H:=Ctx.start w0 [];refine Au (fn:=Tryz.f100) Tryz.func100 U [.map (some b)] U (by kernel_rfl) ?_;refine Ad (Bu U _ (.map _) U U H ?_);rintro b1 w - H;refine CK U .nilFunc U ?_;refine Ab (Aa (Ad (BZ U [.pointer _] U (CK U (.func _ _ _) U ?_))));refine Ab (Aa (A5 (AA (v:=(.func _ _ _)) U U U ?_)));exact ⟨_,rfl,H.get at0,(H.own _ (List.mem_cons_self ..)).elim (fun h=>by cases h) id,H.ext⟩

/-- What the rounds leave. -/
def appJ (w0:World) (bk b bb k:Nat) (o:Obj) (vis:List (Int × Value)) (M:Mt) (w:World):Prop :=
 ∃ a c full,(M=fun y=>y∈((bb,Bl 48 [.slice a vis.length c])::ent a 28 full).map (·.1))∧Ctx w0 [] w ((bb,Bl 48 [.slice a vis.length c])::ent a 28 full) ∧
  OS a vis.length c 1 full (vis.map fun p=>FS p.1)∧(∀ x∈full,∃ z,x=FS z)∧DueK bk b o w∧∀ y∈((bb,Bl 48 [.slice a vis.length c])::ent a 28 full).map (·.1),y≠k∧y≠k+1
set_option maxRecDepth 20000 in
set_option maxHeartbeats 2000000 in
theorem Wc {bk b:Nat} {o:Obj} {m:List (Int × Value)} (hM:CL .u64 m o) (hm:m.length≤1000000) (w:World) (K:DueK bk b o w) :
  Ret Tryz.prog 203 #[.slice none 0 0,UO bk] w fun v w'=>∃ vis:List (Int × Value),vis.Perm m∧FreshU w w' v (vis.map (·.1)):=by
 obtain ⟨w0,rfl⟩:∃ w0,w0=w:=⟨_,rfl⟩;have H:=Ctx.start w0 [];have lk:=Bb K.h2;have lb:=Bb K.hb;refine GN (fn:=Tryz.f203) Tryz.func203 U [.slice none 0 0,.func (.func 163) #[] #[.pointer (some ⟨bk,0,none⟩)]] U (by kernel_rfl) ?_;refine Ad (Bu U _ (.slice _ _ _) U U H ?_);rintro b2 w - H;refine A1 U U (Ab (Aa (Aw (Ad (De U (.func _ _ _) U ?_)))));refine Ab (Aa (Az ?_));obtain ⟨ws,rfl⟩:∃ z,z=w:=⟨_,rfl⟩;have hb2:=(H.own _ (List.mem_cons_self ..)).elim (fun h=>by cases h) id;have l2:=H.lt at0;have hsz:=H.size;dsimp only at hb2;have K2:DueK bk b o ws:=⟨H.ext.to K.h2 (by simp),H.ext.to K.hb (by simp)⟩
 refine Xc (gf:=163) U Adv (Yy (b2:=bk) (b:=b) hM) (by kernel_rfl) (by kernel_rfl) (fun vis v vis' h=>by obtain ⟨p,-,rfl,-⟩:=h; rfl)
  (appJ w0 bk b b2 ws.heap.size o) (fun _=>False) (by simp) (fun _ _=>True.intro)
  (fun w2 hx2 _=>⟨_,none,0,[],rfl,H.call hx2,OS.nil,by simp,⟨hx2.to K2.h2 (by simp),hx2.to K2.hb (by simp)⟩,by simp [ent]; omega⟩)
  (fun vis M w' w'' T hJ hT hx=>?_) (fun _ _ h _=>h) (fun vis M w' hJ=>?_) ?_ ?_ (fun _ h _=>h.elim)
 ·obtain ⟨a,c,full,hMM,HJ,O,Z,KJ,hne⟩:=hJ;refine ⟨a,c,full,hMM,HJ.step hx (fun y hy hy2=>(hT _ hy2).1 (by rw [hMM]; exact List.mem_map_of_mem (f:=(·.1)) hy)) (fun x hx => .inr (by have:=(hT x hx).2; omega)),O,Z,⟨hx.to KJ.h2 (fun h=>by have:=(hT _ h).2; omega),hx.to KJ.hb (fun h=>by have:=(hT _ h).2; omega)⟩,hne⟩
 ·obtain ⟨a,c,full,hMM,HJ,O,Z,KJ,hne⟩:=hJ;refine ⟨fun x hx=>?_,KJ⟩;rw [hMM] at hx;obtain ⟨y,hy,rfl⟩:=List.mem_map.1 hx;exact ⟨Bb (HJ.blk y hy),hne _ hx⟩
 ·rintro vis v vis' M w ⟨p,rfl,rfl,hpm,hvl⟩ ⟨a,c,full,rfl,HJ,O,Z,KJ,hne⟩ hsz2;obtain ⟨w1,rfl⟩:∃ z,z=w:=⟨_,rfl⟩;refine A0 (Ae U U (Ab ?_));refine ⟨Ext.refl _ _,fun wB hxB=>?_⟩;have HB:=HJ.step hxB (fun y hy h=>(hne _ (List.mem_map_of_mem (f:=(·.1)) hy)).2 (List.mem_singleton.1 h)) (fun z hz => .inr (by rw [List.mem_singleton.1 hz]; omega));have KB:DueK bk b o wB:=⟨hxB.to KJ.h2 (by rw [List.mem_singleton]; omega),hxB.to KJ.hb (by rw [List.mem_singleton]; omega)⟩
  have hown:∀ y∈((b2,Bl 48 [.slice a vis.length c])::ent a 28 full).map (·.1),w0.heap.size≤y:=fun y hy=>by
   obtain ⟨z,hz,rfl⟩:=List.mem_map.1 hy;exact (HJ.own z hz).elim (fun h=>by cases h) id
  have hsB:=hxB.size;obtain ⟨w2,rfl⟩:∃ z,z=wB:=⟨_,rfl⟩;rw [← List.append_nil ((b2,Bl 48 [.slice a vis.length c])::ent a 28 full)] at HB;have H:=Ctx.lend (L1:=(b2,Bl 48 [.slice a vis.length c])::ent a 28 full) (L2:=[]) HB;obtain ⟨SS,hSS⟩:∃ SS,SS=((b2,Bl 48 [.slice a vis.length c])::ent a 28 full).map (·.1):=⟨_,rfl⟩;rw [← hSS] at H;refine Az (A0 (AE U G5 U H at0 U (Af U U (Ci _ (.int _ _) U Br Bi N4 U (by decide) (by decide) U U U H ?_))));rintro b10 w - H;refine QY (L:=[_]) U Br Br Bi Uu N4 U (by decide) U U H O U (by simp [Be]) (by omega) ?_;rintro a' c' full' w H O Z2;refine Cg (.slice _ _ _) U Acp U U U H at0 (by (simp; done)) ?_;rintro w H;refine Ab (A6 ?_);have hl:(vis++[p]).length=vis.length+1:=by rw [List.length_append]; rfl
  rw [hSS] at H;have HE:=H.ext;refine ⟨_,⟨a',c',full',rfl,by rw [hl,← List.append_nil (_::ent a' _ full')]; exact Ctx.back HB H,by rw [hl,List.map_append]; exact O,fun x hx=>?_,⟨HE.to KB.h2 fun h=>by have:=hown _ h; omega,HE.to KB.hb fun h=>by have:=hown _ h; omega⟩,fun y hy=>?_⟩,fun y hy=>?_,_,HE,fun y hy => .inl hy⟩
  ·rcases Z2 x hx with h | h | h
   ·exact Z x h
   ·exact ⟨_,List.mem_singleton.1 h⟩
   ·exact ⟨_,List.mem_singleton.1 h⟩
  ·rw [hl] at hy;obtain ⟨z,hz,rfl⟩:=List.mem_map.1 hy
   rcases H.own z hz with h | h
   ·exact hne _ h
   ·omega
  ·rw [hl] at hy;obtain ⟨z,hz,rfl⟩:=List.mem_map.1 hy;exact (H.own z hz).imp id fun h=>by omega
 ·rintro vis M w hp ⟨a,c,full,rfl,HJ,O,Z,KJ,hne⟩ hD;have H:=HJ;refine A6 (Aa (Ad (AE U G5 U H at0 U (A1 U U (Ab (Aa (A5 (KH (v:=(.slice _ _ _)) U U (GO hD U fun wF hxF=>?_)))))))));have HF:=H.step hxF (fun y hy h=>(hne _ (List.mem_map_of_mem (f:=(·.1)) hy)).1 (List.mem_singleton.1 h)) (fun z hz => .inr (by rw [List.mem_singleton.1 hz]; omega));refine ⟨vis,hp,⟨a,vis.length,c,full,rfl,by rw [List.map_map]; exact O,Z,fun x hx=>⟨HF.blk x (List.mem_cons_of_mem _ hx),(HF.own x (List.mem_cons_of_mem _ hx)).elim (fun h=>by cases h) id⟩⟩,HF.ext⟩
end Go.Proofs.YtdagmpmdcgedcaaGreat

/- The keys of the dues' map, sorted; the dues' amounts. -/
namespace Go.Proofs.YtdagmpmdcgedcaaGreat
open Go.GV
attribute [local irreducible] AB W Wq Wt

theorem TO {bk b:Nat} {o:Obj} {m:List (Int × Value)} (hM:CL .u64 m o) (hm:m.length≤1000000) (w:World) (K:DueK bk b o w) :
  Ret Tryz.prog 161 #[UO bk] w fun v w'=>∃ vis:List (Int × Value),vis.Perm m∧FreshU w w' v (vis.map (·.1)):=by
 obtain ⟨w0,rfl⟩:∃ w0,w0=w:=⟨_,rfl⟩;refine Au (fn:=Tryz.f161) Tryz.func161 U [.func (.func 163) #[] #[.pointer (some ⟨bk,0,none⟩)]] U (by kernel_rfl) ?_;refine Ad (A1 U U (Ab (Aa (Ad (De U (.func _ _ _) U ?_)))));refine Al U Aee (Wc hM hm _ K) U ?_;rintro v w ⟨vis,hp,F⟩;obtain ⟨a,n,c,full,rfl,O,Z,hb⟩:=F.ex;refine A1 U U (Ab (Aa (A5 (AA (v:=(.slice _ _ _)) U U U ?_))));exact ⟨vis,hp,F⟩
theorem Yz {x y:Int} (h:FS x=FS y):x=y:=by unfold FS at h; injection h
theorem UP:∀ (l:List Value),(∀ x∈l,∃ z,x=FS z)→∃ zs:List Int,l=zs.map FS
 | [],_=>⟨[],rfl⟩
 | x::l,h=>by
  obtain ⟨z,rfl⟩:=h x (List.mem_cons_self ..);obtain ⟨zs,rfl⟩:=UP l fun y hy=>h y (List.mem_cons_of_mem _ hy);exact ⟨z::zs,rfl⟩
theorem OZ:∀ {l m:List Int},l.map FS=m.map FS→l=m
 | [],[],_=>rfl
 | [],_::_,h=>by cases h
 | _::_,[],h=>by cases h
 | x::l,y::m,h=>by
  simp only [List.map_cons,List.cons.injEq] at h;rw [Yz h.1,OZ h.2]
theorem NL (f:Nat→Int) (n:Nat):C5 f n=(tab f n).map FS:=by unfold tab; rw [List.map_map]; rfl
theorem RK (f:Nat→Int) {n m:Nat} (h:n≤m):(tab f m).take n=tab f n:=by
 unfold tab;rw [← List.map_take,List.take_range,Nat.min_eq_left h]
theorem Agp {g:Nat→Int} {n:Nat} (h:Ja g 0 n):(tab g n).Pairwise (·≤·):=by
 rw [List.pairwise_iff_getElem];intro i j hi hj hij;rw [CT] at hi hj;have h1:=BO (f:=g) hi;have h2:=BO (f:=g) hj;rw [List.getElem?_eq_getElem (by rw [CT]; exact hi)] at h1;rw [List.getElem?_eq_getElem (by rw [CT]; exact hj)] at h2
 injection h1 with h1
 injection h2 with h2
 rw [h1,h2];exact h i j (Nat.zero_le _) hij hj
theorem sortF {a:Option Addr} {n c:Nat} {full:List Value} {l:List Int} (w:World) (O:OS a n c 1 full (l.map FS)) (Z:∀ x∈full,∃ z,x=FS z) (hb:∀ x∈ent a 28 full,w.heap[x.1]? = some x.2) (hn:n≤1000000000) :
  Ret Tryz.prog 162 #[.slice a n c] w fun v w'=>v = .tuple #[]∧∃ (full':List Value) (l':List Int),l'.Perm l∧l'.Pairwise (·≤·)∧OS a n c 1 full' (l'.map FS)∧(∀ x∈full',∃ z,x=FS z)∧(∀ x∈ent a 28 full',w'.heap[x.1]? = some x.2)∧Ext ((ent a 28 full).map (·.1)) w w':=by
 cases a with
 | none =>
  obtain rfl:n=0:=by have:=O.none' rfl; have:=O.le; omega
  have hl:l=[]:=by have:=O.llen; rw [List.length_map] at this; exact List.eq_nil_of_length_eq_zero (by omega)
  subst hl;refine Ret.mono (TM c w) ?_;rintro v w' ⟨rfl,rfl⟩;exact ⟨rfl,full,[],List.Perm.refl _,.nil,O,Z,hb,Ext.refl _ _⟩
 | some p =>
  have hp:=O.zero p rfl;obtain ⟨q,o,sp⟩:=p;simp only [Addr.mk.injEq,true_and] at hp;obtain ⟨rfl,rfl⟩:=hp;obtain ⟨zs,rfl⟩:=UP full Z;have hlen:=O.len;rw [List.length_map,Nat.mul_one] at hlen;have hpre:=O.pre;rw [Nat.mul_one,← List.map_take] at hpre;have hpre:=OZ hpre;have hzs:tab (fun i=>zs.getD i 0) c=zs:=by rw [← hlen]; exact Agi zs
  have hb0:w.heap[q]? = some (Bl 28 (C5 (fun i=>zs.getD i 0) c)):=by
   rw [NL,hzs];exact hb (q,Bl 28 (zs.map FS)) (List.mem_singleton.2 U)
  refine Ret.mono (Yv (c:=c) hb0 O.le hn) ?_;rintro v w' ⟨rfl,g,hP,hS,H⟩;have hS0:((ent (some ⟨q,0,none⟩) 28 (zs.map FS)).map (·.1))=[q]:=by simp [ent]
  refine ⟨rfl,C5 g c,tab g n,?_,Agp hS,⟨O.zero,O.none',by simp,O.le,?_⟩,fun x hx=>?_,fun x hx=>?_,by rw [hS0]; exact H.ext⟩
  ·rw [← RK (fun i=>zs.getD i 0) O.le,hzs,hpre] at hP;exact hP
  ·rw [Nat.mul_one,NL,← List.map_take,RK g O.le]
  ·rw [NL,List.mem_map] at hx;obtain ⟨z,_,rfl⟩:=hx;exact ⟨z,rfl⟩
  ·simp only [ent,List.mem_singleton] at hx;subst hx;exact H.get at0
theorem Wd {bk b:Nat} {o:Obj} {m:List (Int × Value)} (hM:CL .u64 m o) (hm:m.length≤1000000) (w:World) (K:DueK bk b o w) :
  Ret Tryz.prog 99 #[UO bk] w fun v w'=>∃ l:List Int,l.Perm (m.map (·.1))∧l.Pairwise (·≤·)∧FreshU w w' v l:=by
 obtain ⟨w0,rfl⟩:∃ w0,w0=w:=⟨_,rfl⟩;refine Au (fn:=Tryz.f99) Tryz.func99 U [.func (.func 163) #[] #[.pointer (some ⟨bk,0,none⟩)]] U (by kernel_rfl) ?_;refine Ad (A1 U U (Ab (Aa (Ad (De U (.func _ _ _) U ?_)))));refine Al U Adt (TO hM hm _ K) U ?_;rintro v w ⟨vis,hp,F⟩;obtain ⟨a,n,c,full,rfl,O,Z,hb⟩:=F.ex;have hx5:=F.ext;have hvn:=O.llen;have hvm:=hp.length_eq;rw [List.length_map,List.length_map] at hvn;refine A1 U U (Ab (Aa (Ad (A4 U U (Al U Adu (sortF _ O Z (fun x hx=>(hb x hx).1) (by omega)) U ?_)))));rintro v w ⟨rfl,full',l',hP,hS,O',Z',hb',hx7⟩;refine Ab (Aa (Ad (A4 U U (A1 U U (Ab (Aa (A5 (AA (v:=(.slice _ _ _)) U U U ?_))))))));refine ⟨l',hP.trans (hp.map _),hS,⟨_,_,_,_,rfl,O',Z',fun x hx=>⟨hb' x hx,?_⟩⟩,hx5.then hx7 fun x hx=>?_⟩
 ·cases a with
  | none=>simp [ent] at hx
  | some p =>
   simp only [ent,List.mem_singleton] at hx;subst hx;exact (hb (p.block,Bl 28 full) (by simp [ent])).2
 ·obtain ⟨y,hy,rfl⟩:=List.mem_map.1 hx;exact .inr (hb y hy).2
end Go.Proofs.YtdagmpmdcgedcaaGreat

/- The dues: amounts. -/
namespace Go.Proofs.YtdagmpmdcgedcaaGreat
open Go.GV
attribute [local irreducible] AB W Wq Wt

structure Du where
 id:Int
 fr:Int
 to:Int
 am:Int
 we:Int
 un:Int
 held:Bool
instance:DecidableEq Du:=fun x y=>if h:x.id=y.id∧x.fr=y.fr∧x.to=y.to∧x.am=y.am∧x.we=y.we∧x.un=y.un∧x.held=y.held then isTrue (by cases x; cases y; simp_all) else isFalse fun e=>h (by subst e; exact ⟨rfl,rfl,rfl,rfl,rfl,rfl,rfl⟩)
abbrev CO (d:Du):List Value:=[.int .u64 d.id,.int .i64 d.fr,.int .i64 d.to,.int .i64 d.am,.int .i64 d.we,.int .i64 d.un,.bool d.held]
abbrev FN (d:Du):Value := .agg #[.int .u64 d.id,.int .i64 d.fr,.int .i64 d.to,.int .i64 d.am,.int .i64 d.we,.int .i64 d.un,.bool d.held]
theorem CY (d:Du):∀ v∈CO d,Be v=true:=by simp [CO,Be]
def dm (ds:List Du):List (Int × Value):=ds.map fun d=>(d.id,FN d)
theorem Agq {ds:List Du} {p:Int × Value} (h:p∈dm ds):∃ d∈ds,p=(d.id,FN d):=by
 obtain ⟨d,hd,rfl⟩:=List.mem_map.1 h;exact ⟨d,hd,rfl⟩
def amV (p:Int × Value):Int:=match p.2 with
 | .agg vs=>match vs.toList with | [_,_,_,.int _ x,_,_,_]=>x | _=>0
 | _=>0
theorem Agr (ds:List Du):(dm ds).map amV=ds.map (·.am):=by unfold dm; rw [List.map_map]; rfl
abbrev DU (b:Nat) (nx:Int):List Value:=[.map (some b),.int .u64 nx]
structure VSt where
 vis:List (Int × Value)
 it:Obj
 a:Option Addr
 c:Nat
 full:List Value
set_option maxRecDepth 20000 in
set_option maxHeartbeats 2000000 in
theorem NM {bd b:Nat} {nx:Int} {o:Obj} {ds:List Du} (w:World) (hd:w.heap[bd]? = some (Bl 165 (DU b nx))) (hb:w.heap[b]? = some o) (hM:CL .u64 (dm ds) o) (hn:ds.length≤1000000) :
  Ret Tryz.prog 134 #[ptr bd] w fun v w'=>∃ l:List Int,l.Perm (ds.map (·.am))∧Fresh w w' 2 1 v (l.map Dq):=by
 obtain ⟨w0,rfl⟩:∃ w0,w0=w:=⟨_,rfl⟩;have H:=Ctx.start w0 [];have hdl:(dm ds).length=ds.length:=by unfold dm; rw [List.length_map]
 refine Au (fn:=Tryz.f134) Tryz.func134 U [.pointer (some ⟨bd,0,none⟩)] U (by kernel_rfl) ?_;refine Ad (A1 U U (Ab (Aa (Ad (A1 U U (Ab (Aa (Aw (Ad (A3 U U (A8 U U ?_)))))))))));refine Ah U DA U (Bd U EN U ((by rw [Aj hd]; rfl)) ?_);refine QT U Fb U H hb hM ?_;rintro bi it w hV H;refine Ab (Aa (Az (Bv 1046568 (α:=VSt) (fun t=>[(3,.slice t.a t.vis.length t.c)]) (fun t w'=>VisO .u64 b (dm ds) t.vis o t.it∧OS t.a t.vis.length t.c 1 t.full ((t.vis.map amV).map Dq)∧Ctx w0 [] w' ((bi,t.it)::ent t.a 2 t.full)) (fun t=>(dm ds).length - t.vis.length) ⟨[],it,none,0,[]⟩ U ?_ ?_ ?_)))
 ·exact ⟨rfl,trivial⟩
 ·exact ⟨hV,OS.nil,H⟩
 ·rintro ⟨vis,it,a,c,full⟩ j w ⟨hV,O,H⟩; dsimp only at hV O H; dsimp only;refine Ad (Ur U (fun _=>rfl) U H (H.ext.to hb (by simp)) at0 hV ?_);rintro vs more it' w hc H1;clear H;have H:Ctx w0 [] w ((bi,it')::ent a 2 full):=H1;clear H1
  skip
  refine Ab (Aa (Aw (Aq _ U ?_ ?_)))
  ·intro h1;obtain ⟨p,hV'⟩:∃ p,VisO .u64 b (dm ds) (vis++[p]) o it':=hc.elim (fun h=>by rw [h.1] at h1; cases h1) fun h=>h.2;obtain ⟨d,hd2,rfl⟩:=Agq (hV'.mem p (by simp));have hle:=hV'.le;rw [hdl] at hle;have hl1:(vis++[(d.id,FN d)]).length=vis.length+1:=by rw [List.length_append]; rfl
   rw [hl1] at hle;refine Av (Aa (Az (Ad (V7 U U H (H.ext.to hb (by simp)) at0 hV' ?_))));refine AO U U U (AZ U Et H ?_);rintro b5 w - H;refine Bn U Cj U U U (by exact CY _) H at0 U ?_;rintro w H;refine Ab (Aa (A0 (A4 U U (Ah U ET U (AE U Bw U H at0 U (Ci _ (.int _ _) U AR Bx Eb U (by decide) (by decide) U U U H ?_))))));rintro b18 w - H;refine CJ (L:=[_,_]) U AR AR Bx Kl Eb U (by decide) U U H O U (by simp [Be]) (by omega) ?_;rintro a' c' full' w H O;refine A1 U U (Ab (A6 (Aa ?_)));exact ⟨⟨vis++[(d.id,FN d)],it',a',c',full'⟩,rfl,⟨by dsimp only; rw [hl1]; rfl,trivial⟩,⟨hV',by dsimp only; rw [hl1,List.map_append,List.map_append]; exact O,H.tail⟩,by dsimp only; rw [hl1,hdl]; omega⟩
  ·intro h1;obtain ⟨hp,rfl⟩:vis.Perm (dm ds)∧it'=it:=hc.elim (fun h=>h.2) fun h=>by rw [h.1] at h1; cases h1
   refine Bt (Am (Am (AK (Aa (Ad (A4 U U (A1 U U (Ab (Aa (A5 (AA (v:=(.slice _ _ _)) U U U ?_)))))))))));refine ⟨vis.map amV,?_,Ctx.fresh (L:=[_]) H O⟩;rw [← Agr];exact hp.map _
end Go.Proofs.YtdagmpmdcgedcaaGreat

/- The dues, listed. -/
namespace Go.Proofs.YtdagmpmdcgedcaaGreat
open Go.GV
attribute [local irreducible] AB W Wq Wt

def d00:Du:=⟨0,0,0,0,0,0,false⟩
def IY (ds:List Du) (k:Int):Du:=(ds.find? fun d=>d.id == k).getD d00
theorem LN {d:Du}:∀ {ds:List Du},(ds.map (·.id)).Nodup→d∈ds→IY ds d.id=d
 | x::ds,hn,h=>by
  simp only [List.map_cons,List.nodup_cons] at hn;unfold IY
  by_cases e:x.id=d.id
  ·rcases List.mem_cons.1 h with rfl | h
   ·simp
   ·exact absurd (List.mem_map_of_mem (f:=(·.id)) h) (by rw [← e]; exact hn.1)
  ·rcases List.mem_cons.1 h with rfl | h
   ·exact absurd U e
   ·have:=LN hn.2 h;unfold IY at this;rw [List.find?_cons,show (x.id == d.id)=false by simpa using e];exact this
theorem Y0 {ds:List Du} (hn:(ds.map (·.id)).Nodup):(ds.map (·.id)).map (IY ds)=ds:=by
 rw [List.map_map];have:ds.map (IY ds ∘ (·.id))=ds.map id:=List.map_congr_left fun d hd=>LN hn hd;rw [this,List.map_id]
theorem UQ {d:Du}:∀ {ds:List Du},(ds.map (·.id)).Nodup→d∈ds→DZ (dm ds) d.id=some (FN d)
 | x::ds,hn,h=>by
  simp only [List.map_cons,List.nodup_cons] at hn;unfold dm DZ;rw [List.map_cons,List.find?_cons]
  by_cases e:x.id=d.id
  ·rcases List.mem_cons.1 h with rfl | h
   ·simp
   ·exact absurd (List.mem_map_of_mem (f:=(·.id)) h) (by rw [← e]; exact hn.1)
  ·rcases List.mem_cons.1 h with rfl | h
   ·exact absurd U e
   ·have:=UQ hn.2 h;unfold dm DZ at this;rw [show (x.id == d.id)=false by simpa using e];exact this
/-- The dues, by their numbers. -/
def Y1 (ds' ds:List Du):Prop:=ds'.Perm ds∧(ds'.map (·.id)).Pairwise (·<·)
theorem We {ds:List Du} {l:List Int} (hn:(ds.map (·.id)).Nodup) (hp:l.Perm ((dm ds).map (·.1))) (hs:l.Pairwise (·≤·)):Y1 (l.map (IY ds)) ds∧(l.map (IY ds)).map (·.id)=l:=by
 have h1:(dm ds).map (·.1)=ds.map (·.id):=by unfold dm; rw [List.map_map]; rfl
 rw [h1] at hp
 have h2:(l.map (IY ds)).map (·.id)=l:=by
  rw [List.map_map]
  have:l.map ((·.id) ∘ IY ds)=l.map id:=List.map_congr_left fun k hk=>by
   obtain ⟨d,hd,rfl⟩:=List.mem_map.1 (hp.mem_iff.1 hk);show (IY ds d.id).id=d.id;rw [LN hn hd]
  rw [this,List.map_id]
 refine ⟨⟨?_,?_⟩,h2⟩
 ·have:=hp.map (IY ds)
  rwa [Y0 hn] at this
 ·rw [h2];have hnd:=hp.nodup_iff.2 hn;exact (hs.and (List.nodup_iff_pairwise_ne.1 hnd)).imp fun h=>by omega
theorem Wf {ds:List Du} {i:Nat} {d:Du} (h:ds[i]? = some d):(ds.take (i+1)).flatMap CO=(ds.take i).flatMap CO++CO d:=by
 rw [List.take_add_one,h,List.flatMap_append];simp
set_option maxRecDepth 20000 in
set_option maxHeartbeats 2000000 in
theorem NN {bd b:Nat} {nx:Int} {o:Obj} {ds:List Du} (w:World) (hd:w.heap[bd]? = some (Bl 165 (DU b nx))) (hb:w.heap[b]? = some o) (hM:CL .u64 (dm ds) o) (hnd:(ds.map (·.id)).Nodup) (hn:ds.length≤1000000) :
  Ret Tryz.prog 50 #[ptr bd] w fun v w'=>∃ ds':List Du,Y1 ds' ds∧Fresh w w' 67 7 v (ds'.flatMap CO):=by
 obtain ⟨w0,rfl⟩:∃ w0,w0=w:=⟨_,rfl⟩;have H:=Ctx.start w0 [];have hdl:(dm ds).length=ds.length:=by unfold dm; rw [List.length_map]
 refine Au (fn:=Tryz.f50) Tryz.func50 U [.pointer (some ⟨bd,0,none⟩)] U (by kernel_rfl) ?_;refine Ad (A1 U U (Ab (Aa (Aw (Ad (A3 U U (Cq U I9 U ?_)))))));refine Ab (Aa (Aq _ U ?_ ?_))
 ·intro h0;cases h0
 ·intro h0;refine Av (Aa (Ad (A1 U U (Ab (Aa (Aw (Ad (A3 U U (A8 U U (Ah U DA U (Bd U EN U ((by rw [Aj hd]; rfl)) ?_)))))))))));refine Al U Add (Aa8 (b:=b) _) U ?_;rintro v w ⟨bk,rfl,hbk,-,hx12⟩;replace H:=H.call hx12;refine Al U ca_99 (Wd hM (by omega) _ ⟨hbk,H.ext.to hb (by simp)⟩) U ?_;rintro v w ⟨l,hlp,hls,F⟩;obtain ⟨ak,nk,ck,fk,rfl,OK,ZK,hbl⟩:=F.ex;replace H:=H.call F.ext;refine Bf U Br U (Af U U (Ab (Aa (Az ?_))));obtain ⟨w1,rfl⟩:∃ z,z=w:=⟨_,rfl⟩;have H0:=H.ext;replace H:=Ctx.start w1 [];have R:Rd w1 ak 1 (fun x=>[FS x]) l:=OK.rd1 fun x hx=>(hbl x hx).1;have hd1:=H0.to hd (by simp);have hb1:=H0.to hb (by simp);obtain ⟨hSD,hid⟩:=We hnd hlp hls;obtain ⟨ds',hds'⟩:∃ ds',ds'=l.map (IY ds):=⟨_,rfl⟩;rw [← hds'] at hSD hid;have hlen:ds'.length=l.length:=by rw [hds',List.length_map]
  have hll:l.length=nk:=by have:=OK.llen; rw [List.length_map] at this; omega
  have hle:l.length=ds.length:=by have:=hlp.length_eq; rw [List.length_map] at this; omega
  subst hll;refine Bv 536838184 (α:=LSt) (fun t=>[(3,.slice t.a t.i t.c),(15,.int .i64 (t.i:Int))]) (fun t w'=>t.i≤l.length∧OS t.a t.i t.c 7 t.full ((ds'.take t.i).flatMap CO)∧Ctx w1 [] w' (ent t.a 67 t.full)) (fun t=>l.length - t.i) ⟨0,none,0,[]⟩ U ?_ ?_ ?_
  ·exact ⟨rfl,rfl,trivial⟩
  ·exact ⟨Nat.zero_le _,OS.nil,H⟩
  ·rintro ⟨i,a,c,full⟩ j w ⟨hi,O,H⟩; dsimp only at hi O H; dsimp only;refine Ad (Bj U U U (Ab (Aa (Aw (Aq _ U ?_ ?_)))))
   ·intro h1;replace h1:=AM h1;obtain ⟨k,hk⟩:=AD (l:=l) (i:=i) (by omega);obtain ⟨d,hdi⟩:=AD (l:=ds') (i:=i) (by omega)
    have hkd:k=d.id:=by
     have h7:(ds'.map (·.id))[i]? = some d.id:=by rw [List.getElem?_map,hdi]; rfl
     rw [hid,hk] at h7;injection h7
    subst hkd;have hmg:=UQ hnd (hSD.1.mem_iff.1 (List.mem_of_getElem? hdi));refine Av (Aa (Aw (Az (Ad (Bo R U Br Bi U U (by omega) (by omega) (by rfl) ?_)))));refine Bd U B2 U (((R.ext0 H.ext).fld hk U (j:=0) U)) ?_;refine Ae U U (Ab (Aa (A0 (A4 U U (A3 U U (A8 U U (Ah U DA U (Bd U EN U ((H.old0 (by rw [Aj hd1]; rfl))) ?_))))))));refine Af U U (SZ U Fb EZ N5 U U (H.ext.to hb1 (by simp)) hM ?_);rw [hmg];rw [Option.getD_some];refine Ci _ (.agg _) U Dh Cj Et U (by decide) (by decide) U U U H ?_;rintro b26 w - H;refine CJ (L:=[]) U Dh Dh Cj Xm Et U (by decide) U U H O U (by simp [Be]) (by omega) ?_;rintro a' c' full' w H O;refine A1 U U (Ab (A6 (Aa (A0 (Ay U U U (by omega) (by omega) ?_)))));refine Af U U (Ab (Aa ?_));exact ⟨⟨i+1,a',c',full'⟩,rfl,⟨rfl,rfl,trivial⟩,⟨by dsimp only; omega,by dsimp only; rw [Wf hdi]; exact O,H⟩,by dsimp only; omega⟩
   ·intro h1;replace h1:=AN h1;refine Bt (Am (Am (AK (Aa (Ad (A4 U U (A1 U U (Ab (Aa (A5 (AA (v:=(.slice _ _ _)) U U U ?_)))))))))));obtain rfl:i=l.length:=by omega
    have FF:=Ctx.fresh (L:=[]) H O;rw [show ds'.take l.length=ds' by rw [← hlen,List.take_length]] at FF;obtain ⟨⟨a2,n2,c2,f2,e1,e2,e3⟩,e4⟩:=FF;exact ⟨ds',hSD,⟨a2,n2,c2,f2,e1,e2,fun x hx=>⟨(e3 x hx).1,Nat.le_trans H0.size (e3 x hx).2⟩⟩,H0.trans e4⟩
end Go.Proofs.YtdagmpmdcgedcaaGreat

/- The dues: which may be. -/
namespace Go.Proofs.YtdagmpmdcgedcaaGreat
open Go.GV
attribute [local irreducible] AB W Wq Wt

def Pa (x:Int):Bool:=decide (0≤x) && decide (x<16)
theorem RL (x:Int) (w:World):Ret Tryz.prog 192 #[.int .i64 x] w fun v w'=>v = .bool (Pa x)∧w=w':=by
 obtain ⟨w0,rfl⟩:∃ w0,w0=w:=⟨_,rfl⟩;refine Au (fn:=Tryz.f192) Tryz.func192 U [.int .i64 x] U (by kernel_rfl) ?_;refine Ad (Ai U U (Ab (Aa (Ad (Af U U (C3 U U U (A7 U U (AV 5 U ?_ ?_))))))))
 ·intro h1;replace h1:=AM h1;refine Af U U (Bj U U U (AG U U (.bool _) U (Ai U U (Ab (Aa (A5 (AA (v:=(.bool _)) U U U ?_)))))));exact ⟨congrArg Value.bool (by unfold Pa; rw [Bool.eq_iff_iff]; simp_all; try omega),rfl⟩
 ·intro h2;replace h2:=AN h2;refine Ag U (Ag U (AJ U U (.bool _) U (Ai U U (Ab (Aa (A5 (AA (v:=(.bool _)) U U U ?_)))))));exact ⟨congrArg Value.bool (by unfold Pa; rw [Bool.eq_iff_iff]; simp_all; try omega),rfl⟩
def DT (d:Du):Bool:=(Pa d.fr && (Pa d.to && !decide (d.fr=d.to))) && (decide (1≤d.am) && (CQ d.am && (decide (1≤d.we) && (decide (d.we≤1000) && decide (0≤d.un)))))
set_option maxRecDepth 20000 in
set_option maxHeartbeats 2000000 in
theorem UR (d:Du) (w:World):Ret Tryz.prog 133 #[FN d] w fun v w'=>v = .bool (DT d)∧Ext [] w w':=by
 obtain ⟨w0,rfl⟩:∃ w0,w0=w:=⟨_,rfl⟩;have H:=Ctx.start w0 [];refine Au (fn:=Tryz.f133) Tryz.func133 U [FN d] U (by kernel_rfl) ?_;refine Ad (Bu U (CO d) (.agg _) U U H ?_);rintro b1 w - H;refine Ai U U (Ab (Aa (Aw (Az (Aw (Ad (Ah U I6 U (AE U BS U H at0 U (Al U Xx (RL d.fr _) U ?_)))))))));rintro v w ⟨rfl,rfl⟩;refine BG U U (Ai U U (Ab (Aa (Db 3 U ?_ ?_))))
 ·intro h1;replace h1:=BD h1;refine Av (Aa (D3 U (Ad (Ai U U (Ab (Aa (A5 (A9 (Ao (AA (v:=(.bool _)) U U U ?_))))))))));exact ⟨congrArg Value.bool (by unfold DT; rw [Bool.eq_iff_iff]; simp_all; try omega),H.ext⟩
 ·intro h2;replace h2:=BE h2;refine Ad (Ah U I8 U (AE U BS U H at0 U (Al U Xx (RL d.to _) U ?_)));rintro v w ⟨rfl,rfl⟩;refine BG U U (Ai U U (Ab (Aa (Db 3 U ?_ ?_))))
  ·intro h3;replace h3:=BD h3;refine Av (Aa (D3 U (Ad (Ai U U (Ab (Aa (A5 (A9 (Ao (AA (v:=(.bool _)) U U U ?_))))))))));exact ⟨congrArg Value.bool (by unfold DT; rw [Bool.eq_iff_iff]; simp_all; try omega),H.ext⟩
  ·intro h4;replace h4:=BE h4;refine A0 (Ah U I6 U (AE U BS U H at0 U (Ah U I8 U (AE U BS U H at0 U (Cz U U U (Ai U U (Ab (Aa (Db 3 U ?_ ?_)))))))))
   ·intro h5;replace h5:=AM h5;refine Ad (Ai U U (Ab (Aa (A5 (A9 (Ao (AA (v:=(.bool _)) U U U ?_)))))));exact ⟨congrArg Value.bool (by unfold DT; rw [Bool.eq_iff_iff]; simp_all; try omega),H.ext⟩
   ·intro h6;replace h6:=AN h6;refine Aw (Ad (Ah U ET U (AE U Bw U H at0 U (Bj U U U (Ai U U (Ab (Aa (Db 17 U ?_ ?_))))))))
    ·intro h7;replace h7:=AM h7;refine Av (Aa (D3 U (Ad (Ai U U (Ab (Aa (A5 (A9 (Ao (AA (v:=(.bool _)) U U U ?_))))))))));exact ⟨congrArg Value.bool (by unfold DT; rw [Bool.eq_iff_iff]; simp_all; try omega),H.ext⟩
    ·intro h8;replace h8:=AN h8;refine Ad (Ah U ET U (AE U Bw U H at0 U (Al U Km (Kt d.am _) U ?_)));rintro v w ⟨rfl,rfl⟩;refine BG U U (Ai U U (Ab (Aa (Db 17 U ?_ ?_))))
     ·intro h9;replace h9:=BD h9;refine Av (Aa (D3 U (Ad (Ai U U (Ab (Aa (A5 (A9 (Ao (AA (v:=(.bool _)) U U U ?_))))))))));exact ⟨congrArg Value.bool (by unfold DT; rw [Bool.eq_iff_iff]; simp_all; try omega),H.ext⟩
     ·intro h10;replace h10:=BE h10;refine Ad (Ah U KU U (AE U Bw U H at0 U (Bj U U U (Ai U U (Ab (Aa (Db 17 U ?_ ?_)))))))
      ·intro h11;replace h11:=AM h11;refine Av (Aa (D3 U (Ad (Ai U U (Ab (Aa (A5 (A9 (Ao (AA (v:=(.bool _)) U U U ?_))))))))));exact ⟨congrArg Value.bool (by unfold DT; rw [Bool.eq_iff_iff]; simp_all; try omega),H.ext⟩
      ·intro h12;replace h12:=AN h12;refine Ad (Ah U KU U (AE U Bw U H at0 U (Dn U U U (Ai U U (Ab (Aa (Db 17 U ?_ ?_)))))))
       ·intro h13;replace h13:=AM h13;refine Av (Aa (D3 U (Ad (Ai U U (Ab (Aa (A5 (A9 (Ao (AA (v:=(.bool _)) U U U ?_))))))))));exact ⟨congrArg Value.bool (by unfold DT; rw [Bool.eq_iff_iff]; simp_all; try omega),H.ext⟩
       ·intro h14;replace h14:=AN h14;refine A0 (Ah U PV U (AE U Bw U H at0 U (Bj U U U (Ai U U (Ab (Aa (Db 17 U ?_ ?_)))))))
        ·intro h15;replace h15:=AM h15;refine Ad (Ai U U (Ab (Aa (A5 (A9 (Ao (AA (v:=(.bool _)) U U U ?_)))))));exact ⟨congrArg Value.bool (by unfold DT; rw [Bool.eq_iff_iff]; simp_all; try omega),H.ext⟩
        ·intro h16;replace h16:=AN h16;refine Av (A6 (Aa (Ad (Ai U U (Ab (Aa (A5 (AA (v:=(.bool _)) U U U ?_))))))));exact ⟨congrArg Value.bool (by unfold DT; rw [Bool.eq_iff_iff]; simp_all; try omega),H.ext⟩
end Go.Proofs.YtdagmpmdcgedcaaGreat

/- The dues: Of. -/
namespace Go.Proofs.YtdagmpmdcgedcaaGreat
open Go.GV
attribute [local irreducible] AB W Wq Wt

/-- Dues by their numbers, each of which may be. -/
def Fk (nx:Int):Int→List Du→Bool
 | _,[]=>true
 | ah,d::ds=>(DT d && (decide (ah<d.id) && decide (d.id<nx))) && Fk nx d.id ds
def Jz (ah:Int):List Du→Int
 | []=>ah
 | d::ds=>Jz d.id ds
theorem J0 (nx:Int):∀ (ah:Int) (ds es:List Du),Fk nx ah (ds++es)=(Fk nx ah ds && Fk nx (Jz ah ds) es)
 | _,[],_=>rfl
 | ah,d::ds,es=>by simp only [List.cons_append,Fk,Jz,J0 nx d.id ds es,Bool.and_assoc]
theorem Oh (ah:Int) (ds:List Du) (d:Du):Jz ah (ds++[d])=d.id:=by
 induction ds generalizing ah with
 | nil=>rfl
 | cons x ds ih=>exact ih x.id
theorem J2 {nx:Int}:∀ {ah:Int} {ds:List Du},Fk nx ah ds=true→(∀ d∈ds,ah<d.id∧d.id≤Jz ah ds∧d.id<nx∧DT d=true)∧(ds.map (·.id)).Pairwise (·<·)∧ah≤Jz ah ds
 | _,[],_=>⟨fun _ h=>(by cases h),List.Pairwise.nil,Int.le_refl _⟩
 | ah,x::ds,h=>by
  simp only [Fk,Bool.and_eq_true,decide_eq_true_eq] at h;obtain ⟨⟨hm,h1,h2⟩,h3⟩:=h;obtain ⟨i1,i2,i3⟩:=J2 h3;refine ⟨fun d hd=>?_,?_,?_⟩
  ·rcases List.mem_cons.1 hd with rfl | hd
   ·exact ⟨h1,i3,h2,hm⟩
   ·obtain ⟨a,b,c,e⟩:=i1 d hd;exact ⟨by omega,b,c,e⟩
  ·rw [List.map_cons,List.pairwise_cons];refine ⟨fun k hk=>?_,i2⟩;obtain ⟨d,hd,rfl⟩:=List.mem_map.1 hk;exact (i1 d hd).1
  ·show ah≤Jz x.id ds;omega
/-- Of's code. -/
def ofC (ds:List Du) (nx:Int):Int :=
 if 64<ds.length then 6 else if (decide (1≤nx) && decide (nx≤4611686018427387904))=false then 1 else if Fk nx 0 ds=false then 1 else (E8 (ds.map (·.am))).2
theorem Pb {xs ys:List Int} (h:xs.Perm ys):E8 xs=E8 ys:=by
 have h1:xs.all CQ=ys.all CQ:=by
  rw [Bool.eq_iff_iff,List.all_eq_true,List.all_eq_true];exact ⟨fun g x hx=>g x (h.mem_iff.2 hx),fun g x hx=>g x (h.mem_iff.1 hx)⟩
 unfold E8;rw [h1,Wa h]
theorem Pc {ds:List Du} {k:Int} (h:∀ d∈ds,d.id≠k):DZ (dm ds) k=none:=by
 induction ds with
 | nil=>rfl
 | cons x ds ih =>
  unfold dm DZ at ih ⊢;rw [List.map_cons,List.find?_cons,show (x.id == k)=false by simpa using h x (List.mem_cons_self ..)];exact ih fun d hd=>h d (List.mem_cons_of_mem _ hd)
theorem Y2 (ds:List Du) (d:Du):dm ds++[(d.id,FN d)]=dm (ds++[d]):=by unfold dm; rw [List.map_append]; rfl
theorem Y3 {w:World} {b:Nat} {t:TypeId} {l:List Value} (h:w.heap[b]? = some (Bl t l)):∀ j v,l[j]? = some v→w.cell? ⟨b,0+j,none⟩=some v:=fun j v hv=>by rw [Aj h,Nat.zero_add]; exact hv
structure OSt where
 i:Nat
 ah:Int
 o:Obj
set_option maxRecDepth 20000 in
set_option maxHeartbeats 4000000 in
theorem Ags (a:Option Addr) (n c:Nat) (ds:List Du) (nx:Int) (w:World) (R:Rd w a 7 CO ds) (hn:ds.length=n) (hn2:n≤1000000000) (hnx:0≤nx∧nx<18446744073709551616) (hid:∀ d∈ds,0≤d.id∧d.id<18446744073709551616) :
  Ret Tryz.prog 79 #[.slice a n c,.int .u64 nx] w fun v w'=>∃ p,v = .tuple #[p,.int .i64 (ofC ds nx)]∧(ofC ds nx≠0→p = .pointer none)∧(ofC ds nx=0→∃ bd b o,p=ptr bd∧w'.heap[bd]? = some (Bl 165 (DU b nx))∧w'.heap[b]? = some o∧CL .u64 (dm ds) o∧w.heap.size≤bd∧w.heap.size≤b∧bd≠b)∧Ext [] w w':=by
 subst hn;obtain ⟨w0,rfl⟩:∃ w0,w0=w:=⟨_,rfl⟩;have H:=Ctx.start w0 [];refine Au (fn:=Tryz.f79) Tryz.func79 U [.slice a ds.length c,.int .u64 nx] U (by kernel_rfl) ?_;refine Ad (Co U U (Ae U U (Ab (Aa (Aw (Ad (A4 U U (Bf U Dh U (Dn U U U (Ab (Aa ?_)))))))))));refine Aq _ U ?_ ?_
 ·intro h1;replace h1:=AM h1;refine Ad (Co U U (Ae U U (Ab (Aa (A5 (Ao (BR (v1:=(.pointer _)) (v2:=(.int _ _)) U U U U ?_)))))));have h1':ofC ds nx=6:=by unfold ofC; rw [if_pos (by omega)]
  exact ⟨_,by rw [h1'],fun _=>rfl,(fun h=>by omega),H.ext⟩
 ·intro h1;replace h1:=AN h1;have h1':¬ 64<ds.length:=by omega
  refine Av (Aa (Aw (Ad (Cw (α:=Unit) 2064384 (fun _=>[(20,.bool (!(decide (1≤nx) && decide (nx≤4611686018427387904))))]) (fun _ w'=>w'=w0) U ?_ ?_))))
  ·refine Af U U (Bj U U U (A7 U U (AV 17 U ?_ ?_)))
   ·intro h1;replace h1:=AM h1;refine Ag U (Ag U (AG U U (.bool _) U (Ab ?_)));exact ⟨rfl,(),rfl,⟨congrArg Value.bool (by rw [Bool.eq_iff_iff]; simp_all; try omega),trivial⟩,rfl⟩
   ·intro h2;replace h2:=AN h2;refine Af U U (Dn U U U (AJ U U (.bool _) U (Ab ?_)));exact ⟨rfl,(),rfl,⟨congrArg Value.bool (by rw [Bool.eq_iff_iff]; simp_all; try omega),trivial⟩,rfl⟩
  rintro - j20 w hw;subst w;refine Aq _ U ?_ ?_
  ·intro h2;replace h2:=BD h2;refine Ad (Co U U (Ae U U (Ab (Aa (A5 (Ao (BR (v1:=(.pointer _)) (v2:=(.int _ _)) U U U U ?_)))))));have h2':ofC ds nx=1:=by unfold ofC; rw [if_neg h1',if_pos (by simpa using h2)]
   exact ⟨_,by rw [h2'],fun _=>rfl,(fun h=>by omega),H.ext⟩
  ·intro h2;replace h2:=BE h2;have h2':(decide (1≤nx) && decide (nx≤4611686018427387904))=true:=by simpa using h2
   have h2n:¬ (decide (1≤nx) && decide (nx≤4611686018427387904))=false:=by rw [h2']; decide
   refine Av (Aa (Ad (Nj .u64 U H ?_)));rintro b o w hM H;refine Af U U (B7 (DU b nx) U XE XL (by kernel_rfl) ?_);refine Bu U (DU b nx) (.agg _) U U H ?_;rintro b24 w - H;refine Co U U (Ab (Aa (Ad (Ae U U (Ab (Aa (Aw (Ad (A4 U U (Bf U Dh U (Af U U ?_)))))))))));refine Ab (Aa (Az (Bv 288230376017494704 (α:=OSt) (fun t=>[(7,.int .u64 t.ah),(27,.int .i64 (t.i:Int))]) (fun t w'=>t.i≤ds.length∧t.ah=Jz 0 (ds.take t.i)∧Fk nx 0 (ds.take t.i)=true∧CL .u64 (dm (ds.take t.i)) t.o∧Ctx w0 [] w' [(b24,Bl 165 (DU b nx)),(b,t.o)]) (fun t=>ds.length - t.i) ⟨0,0,o⟩ U ?_ ?_ ?_)))
   ·exact ⟨rfl,rfl,trivial⟩
   ·exact ⟨Nat.zero_le _,rfl,rfl,hM,H⟩
   ·rintro ⟨i,ah,o⟩ j w ⟨hi,hah,has,hM,H⟩; dsimp only at hi hah has hM H; dsimp only;refine Ad (Bj U U U (Ab (Aa (Aw (Aq _ U ?_ ?_)))))
    ·intro h3;replace h3:=AM h3;obtain ⟨d,hd⟩:=AD (l:=ds) (i:=i) (by omega);have hdi:=hid d (List.mem_of_getElem? hd);have htk:ds.take (i+1)=ds.take i++[d]:=by rw [List.take_add_one,hd]; rfl
     have hasc:Fk nx 0 (ds.take (i+1))=(DT d && (decide (ah<d.id) && decide (d.id<nx))):=by
      rw [htk,J0,has,Bool.true_and,← hah];show (_ && Fk nx d.id [])=_;show (_ && true)=_;rw [Bool.and_true]
     refine Av (Aa (Aw (Az (Ad (Bo R U Dh Cj U U (by omega) (by omega) (by rfl) ?_)))));refine Cn _ U EW Cj U U ((R.ext0 H.ext).row hd U) ?_;refine AZ U Et H ?_;rintro b9 w - H;refine Bn U Cj U U U (by exact CY _) H at0 U ?_;rintro w H;refine Ab (Aa (Aw (Ad (Cw (α:=Unit) 70366596694016 (fun _=>[(45,.bool (!(DT d && (decide (ah<d.id) && decide (d.id<nx)))))]) (fun _ w'=>Ctx w0 [] w' [(b9,Bl 67 (CO d)),(b24,Bl 165 (DU b nx)),(b,o)]) U ?_ ?_))))
     ·refine Ce U EW Cj U H at0 U (Al U Xr (UR d _) U ?_);rintro v w ⟨rfl,hx32⟩;replace H:=H.call hx32;refine BG U U (A7 U U (AV 34 U ?_ ?_))
      ·intro h3;replace h3:=BD h3;refine Ag U (Ag U (Ag U (Ag U (AG U U (.bool _) U (A7 U U (Ag U (Ag U (Ag U (Ag U ?_)))))))));refine AG U U (.bool _) U (Ab ?_);exact ⟨rfl,(),rfl,⟨congrArg Value.bool (by clear hasc; rw [Bool.eq_iff_iff]; simp_all; try omega),trivial⟩,H⟩
      ·intro h4;replace h4:=BE h4;refine Ah U Gh U (AE U B2 U H at0 U (Af U U (L6 U U U (AJ U U (.bool _) U (A7 U U (AV 40 U ?_ ?_))))))
       ·intro h5;replace h5:=AM h5;refine Ag U (Ag U (Ag U (Ag U (AG U U (.bool _) U (Ab ?_)))));exact ⟨rfl,(),rfl,⟨congrArg Value.bool (by clear hasc; rw [Bool.eq_iff_iff]; simp_all; try omega),trivial⟩,H⟩
       ·intro h6;replace h6:=AN h6;refine Ah U Gh U (AE U B2 U H at0 U (Af U U (C3 U U U (AJ U U (.bool _) U (Ab ?_)))));exact ⟨rfl,(),rfl,⟨congrArg Value.bool (by clear hasc; rw [Bool.eq_iff_iff]; simp_all; try omega),trivial⟩,H⟩
     rintro - j45 w H;refine Aq _ U ?_ ?_
     ·intro h4;replace h4:=BD h4;refine Ad (Co U U (Ae U U (Ab (Aa (A5 (Ao (A9 (Ao (Ao (A9 (Ao (BR (v1:=(.pointer _)) (v2:=(.int _ _)) U U U U ?_))))))))))))
      have h4':ofC ds nx=1:=by
       unfold ofC;rw [if_neg h1',if_neg h2n,if_pos];have h5:Fk nx 0 ds=Fk nx 0 (ds.take (i+1)++ds.drop (i+1)):=by rw [List.take_append_drop]
       rw [h5,J0,hasc,show (DT d && (decide (ah<d.id) && decide (d.id<nx)))=false by simpa using h4]; rfl
      exact ⟨_,by rw [h4'],fun _=>rfl,(fun h=>by omega),H.ext⟩
     ·intro h4;replace h4:=BE h4;have h4':(DT d && (decide (ah<d.id) && decide (d.id<nx)))=true:=by simpa using h4
      have hgt:ah<d.id:=by simp only [Bool.and_eq_true,decide_eq_true_eq] at h4'; exact h4'.2.1
      have hno:DZ (dm (ds.take i)) d.id=none:=Pc fun x hx=>by
       have:=((J2 has).1 x hx).2.1;omega
      refine Av (Aa (Fa [([0,1,2,3,4,5,6,7,8],9),([10],11),([],12)] (fun z=>z.heap[b9]? = some (Bl 67 (CO d))∧z.heap[b24]? = some (Bl 165 (DU b nx))) [] Bq (by kernel_rfl) (⟨H.drew.get at0,H.drew.get at1⟩) ?_));refine AH U U ?_;refine BQ U U (Bg U U (An U DA U (B0 U EN U (fun _ hx=>(by rw [Aj hx.2]; rfl)) ?_)));refine An U Gh U (B0 U B2 U (fun _ hx=>(by rw [Aj hx.1]; rfl)) ?_);refine IW _ U EW Cj U U (fun _ hx=>(Y3 hx.1)) ?_;refine An U Gh U (B0 U B2 U (fun _ hx=>(by rw [Aj hx.1]; rfl)) ?_);refine AS ?_;replace H:=H.drew;refine QV U Fb EZ N5 U U H at2 hM hno ?_;rintro st o1 w hE H;refine Ab (Cl (⟨H.get at0,H.get at1⟩) (AH U U ?_));refine Bs U U U (AS (Od (FN d) U U U U H at2 hE ?_));rintro o2 w hM2 H;refine Ab (Cl (⟨H.get at0,H.get at1⟩) (AH U U ?_));refine AS (Ae U U (Ab (Cl (⟨H.get at0,H.get at1⟩) (BJ (A6 (Aa (A0 (Ay U U U (by omega) (by omega) ?_))))))));refine Af U U (Ab (Aa ?_))
      exact ⟨⟨i+1,d.id,o2⟩,rfl,⟨rfl,rfl,trivial⟩,⟨by dsimp only; omega,by dsimp only; rw [htk,Oh],by dsimp only; rw [hasc]; exact h4',by dsimp only; rw [htk,← Y2]; exact hM2,H.tail⟩,by dsimp only; omega⟩
    ·intro h3;replace h3:=AN h3;obtain rfl:i=ds.length:=by omega
     rw [List.take_length] at hM has
     have hC:ofC ds nx=(E8 (ds.map (·.am))).2:=by
      unfold ofC; rw [if_neg h1',if_neg h2n,if_neg (by rw [has]; decide)]
     rw [hC];obtain ⟨tt,htt⟩:∃ tt,tt=E8 (ds.map (·.am)):=⟨_,rfl⟩;rw [← htt];refine Bt (Am (Am (AK (Aa (Aw (Ad (A3 U U (Al U Xs (NM _ (H.get at0) (H.get at1) hM (by omega)) U ?_))))))));rintro v w ⟨l,hlp,F⟩;obtain ⟨a3,n3,c3,f3,rfl,O3,hb3⟩:=F.ex;replace H:=H.call F.ext;have hl3:=O3.llen;rw [List.length_map] at hl3;have hlq:=hlp.length_eq;rw [List.length_map] at hlq;refine Al U Nw (Li a3 n3 c3 l _ (O3.rd1 fun x hx=>(hb3 x hx).1) (by omega) (by omega)) U ?_;rintro v w ⟨rfl,rfl⟩;rw [Pb hlp];rw [← htt];refine C0 U U (AO U U U (AO U U U (Ae U U (Ae U U (Ab (Aa (Ad (Af U U (CI U U U (Ab (Aa ?_)))))))))));refine Aq _ U ?_ ?_
     ·intro h5;replace h5:=CE h5;refine Ad (Af U U (Co U U (Ae U U (Ab (Aa (A5 (Ao (BR (v1:=(.pointer _)) (v2:=(.int _ _)) U U U U ?_))))))));exact ⟨_,rfl,fun _=>rfl,(fun h=>absurd h h5),H.ext⟩
     ·intro h5;replace h5:=CF h5;refine Av (Aa (Ad (A3 U U (Co U U (Ae U U (Ab (Aa (A5 (BR (v1:=(.pointer _)) (v2:=(.int _ _)) U U U U ?_)))))))));have h5':tt.2=0:=by omega
      refine ⟨_,by rw [h5'],(fun h=>absurd h5' h),(fun _=>⟨b24,b,o,rfl,H.get at0,H.get at1,hM,?_,?_,H.ne at0 at1 (by decide)⟩),H.ext⟩
      ·exact (H.own (b24,_) (List.mem_of_getElem? (i:=0) U)).elim (fun h=>by cases h) id
      ·exact (H.own (b,_) (List.mem_of_getElem? (i:=1) U)).elim (fun h=>by cases h) id
end Go.Proofs.YtdagmpmdcgedcaaGreat
