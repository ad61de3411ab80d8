/- Part 8 of the proof. -/
import Derived.Test.YtapphbmlkdhnmaaGreatPart2
import Derived.Test.YtapphbmlkdhnmaaGreatPart7
import Derived.Test.YtapphbmlkdhnmaaGreatPart3
import Derived.Test.YtapphbmlkdhnmaaGreatPart4
import Derived.Test.YtapphbmlkdhnmaaGreatPart6
/- Sorting numbers of 64 bits: those that are the same as the pivot; patterns broken; almost sorted. -/
namespace Go.Proofs.YtapphbmlkdhnmaaGreat
open Go.GV
attribute [local irreducible] AL W Wq Wt

theorem Yx {g:Nat→Int} {a i j b:Nat} (h:a+1≤i∧i≤j+1∧j<b∧(∀ x,a<x→x<i→(g) x≤(g) a)∧∀ y,j<y→y<b→(g) a<(g) y) (hij:i<j) (hi:g a<g i) (hj:g j≤g a):a+1≤i+1∧i+1≤(j - 1)+1∧(j - 1)<b∧(∀ x,a<x→x<i+1→(sw g i j) x≤(sw g i j) a)∧∀ y,(j - 1)<y→y<b→(sw g i j) a<(sw g i j) y:=by
 obtain ⟨h1,h2,h3,h4,h5⟩:=h
 have ha:sw g i j a=g a:=Ex (by omega) (by omega)
 rw [ha]
 refine ⟨by omega,by omega,by omega,fun x hx hxi=>?_,fun y hy hyb=>?_⟩
 ·by_cases e:x=i
  ·rw [e,GZ]; exact hj
  ·rw [Ex e (by omega)]; exact h4 x hx (by omega)
 ·by_cases e:y=j
  ·rw [e,DH]; exact hi
  ·rw [Ex (by omega) e]; exact h5 y (by omega) hyb

section
variable {w:World} {q n c m:Nat} {f:Nat→Int}
set_option maxRecDepth 20000 in
set_option maxHeartbeats 4000000 in
theorem UB {a b p:Nat} (hd:w.heap[q]? = some (Bl 24 (CH f m))) (hab:a<b) (hb:b≤n) (hn:n≤m) (hm:n≤1000000000) (hp:a≤p∧p<b) :
  Ret Tryz.prog 207 #[.slice (some ⟨q,0,none⟩) n c,.int .i64 (a:Int),.int .i64 (b:Int),.int .i64 (p:Int)] w fun v w'=>∃ (i:Nat) (g:Nat→Int),v = .int .i64 (i:Int)∧Sw a b f g∧a<i∧i≤b∧g a=f p∧(∀ x,a≤x→x<i→g x≤g a)∧(∀ y,i≤y→y<b→g a<g y)∧Ctx w [q] w' [(q,Bl 24 (CH g m))]:=by
 obtain ⟨w0,rfl⟩:∃ w0,w0=w:=⟨_,rfl⟩
 have H:=Ctx.start1 hd
 refine A9 (fn:=Tryz.f207) Tryz.func207 rfl [.slice (some ⟨q,0,none⟩) n c,.int .i64 (a:Int),.int .i64 (b:Int),.int .i64 (p:Int)] rfl (by kernel_rfl) ?_
 refine Af (Ae rfl rfl (Ab (Aa (CP [([0,1,2,3,4,5,6,7,8,9,10,11,12],13),([14],15)] (fun z=>z.heap[q]? = some (Bl 24 (CH (f) m))) [13,15] B0 (by kernel_rfl) (H.drew.get at0) ?_))))
 refine AU rfl rfl ?_
 refine Bi rfl rfl (AS rfl rfl (Bi rfl rfl (AS rfl rfl (Bi rfl rfl (AS rfl rfl (AM rfl Bz Bo rfl rfl (by omega) (by omega) ?_))))))
 refine BP rfl BK rfl (fun _ hx=>(C1 hx (by omega))) ?_
 refine Bi rfl rfl (AS rfl rfl (AM rfl Bz Bo rfl rfl (by omega) (by omega) ?_))
 refine BP rfl BK rfl (fun _ hx=>(C1 hx (by omega))) ?_
 refine AM rfl Bz Bo rfl rfl (by omega) (by omega) ?_
 refine Ba ?_
 replace H:=H.drew
 refine BU (a) (fun z => .int .u64 (if z=a then (f) (p) else (f) z)) (.int _ _) rfl Bo rfl rfl rfl H at0 (by omega) (by omega) (by rw [if_pos rfl]; exact congrArg (fun z=>Value.int .u64 ((f) z)) (by omega)) (fun z _ hz=>by rw [if_neg hz]) ?_
 rintro w H
 refine Ab (BW rfl (AU rfl rfl ?_))
 refine AM rfl Bz Bo rfl rfl (by omega) (by omega) ?_
 refine Ba (BU (p) (fun z => .int .u64 (sw (f) (a) (p) z)) (.int _ _) rfl Bo rfl rfl rfl H at0 (by omega) (by omega) (by rw [DH]; exact congrArg (fun z=>Value.int .u64 ((f) z)) (by omega)) (fun z _ hz=>by rw [DA hz]) ?_)
 rintro w H
 refine Ab (BW rfl (BO ?_))
 have hS0:=(Sw.refl (a:=a) (b:=b) f).step a p ⟨by omega,by omega⟩ hp
 obtain ⟨g,hg⟩:∃ g,g=sw f a p:=⟨_,rfl⟩
 have hga:g a=f p:=by rw [hg,GZ]
 rw [← hg] at hS0 H
 refine Af (Ad rfl rfl (Ap rfl rfl rfl (by omega) (by omega) ?_))
 rw [show (a:Int)+1=((a+1:Nat):Int) by omega]
 refine Ad rfl rfl (Be rfl rfl rfl (by omega) (by omega) ?_)
 rw [show (b:Int) - 1=((b - 1:Nat):Int) by omega]
 refine Ae rfl rfl (Ae rfl rfl (Ab (Aa (An (Au (Bf 9671406556917032860780032 (α:=Nat × Nat × (Nat→Int)) (fun t=>[(9,.int .i64 (t.1:Int)),(10,.int .i64 (t.2.1:Int))]) (fun t w'=>(a+1≤t.1∧t.1≤t.2.1+1∧t.2.1<b∧(∀ x,a<x→x<t.1→(t.2.2) x≤(t.2.2) a)∧∀ y,t.2.1<y→y<b→(t.2.2) a<(t.2.2) y)∧t.2.2 a=f p∧Sw a b f t.2.2∧Ctx w0 [q] w' [(q,Bl 24 (CH t.2.2 m))]) (fun t=>b - t.1) (a+1,b - 1,g) rfl ?_ ?_ ?_))))))
 ·exact ⟨rfl,rfl,trivial⟩
 ·exact ⟨⟨Nat.le_refl _,by dsimp only; omega,by dsimp only; omega,fun x h1 h2=>by dsimp only at h2; omega,fun y h1 h2=>by dsimp only at h1; omega⟩,hga,hS0,H⟩
 ·rintro ⟨i,j,g⟩ j0 w ⟨hi0,hga,hS0,H⟩; dsimp only at hi0 hga hS0 H; dsimp only
  obtain ⟨i0,hi0e⟩:∃ i0,i0=i:=⟨_,rfl⟩
  obtain ⟨j1,hj1e⟩:∃ j1,j1=j:=⟨_,rfl⟩
  have hi1:i0≤i∧a+1≤i∧i≤j+1∧j<b∧(∀ x,a<x→x<i→(g) x≤(g) a)∧∀ y,j<y→y<b→(g) a<(g) y:=⟨by omega,hi0⟩
  refine Au (An (Au (Bf 70368207307264 (α:=Nat) (fun i=>[(9,.int .i64 (i:Int))]) (fun i w'=>(i0≤i∧a+1≤i∧i≤j+1∧j<b∧(∀ x,a<x→x<i→(g) x≤(g) a)∧∀ y,j<y→y<b→(g) a<(g) y)∧Ctx w0 [q] w' [(q,Bl 24 (CH (g) m))]) (fun i=>j+1 - i) i rfl ?_ ?_ ?_)))
  ·exact ⟨by rfl,trivial⟩
  ·exact ⟨hi1,H⟩
  ·rintro i jx w ⟨hiv,H⟩
   refine An (El 17591649173504 (α:=Unit) (fun _=>[(43,.bool (decide (i≤j∧¬ g a<g i)))]) (fun _ w'=>Ctx w0 [q] w' [(q,Bl 24 (CH (g) m))]) rfl ?_ ?_)
   ·skip
    refine EM 12 B0 (by kernel_rfl) rfl rfl ?_
    refine AP rfl rfl (AP rfl rfl (NI rfl rfl rfl (CW rfl rfl (Dg 32 rfl ?_ ?_))))
    ·intro h1
     replace h1:=AF h1
     refine Bx rfl rfl (AP rfl rfl (AY rfl Bz Bo rfl rfl (by omega) (by omega) ?_))
     refine BR rfl BK rfl (by rintro _ rfl; exact ((C1 (H.drew.get at0) (by omega)))) ?_
     refine Bx rfl rfl (AP rfl rfl (AY rfl Bz Bo rfl rfl (by omega) (by omega) ?_))
     refine BR rfl BK rfl (by rintro _ rfl; exact ((C1 (H.drew.get at0) (by omega)))) ?_
     refine BJ ?_
     replace H:=H.drew
     refine Am rfl FA (EL _ _ _) rfl ?_
     rintro v w ⟨rfl,rfl⟩
     simp only [Int.toNat_natCast]
     refine B1 rfl rfl (AA rfl rfl (.bool _) rfl (Ab (Aa ?_)))
     exact ⟨(),rfl,⟨congrArg Value.bool (by clear hiv; rw [Bool.eq_iff_iff]; simp_all; try omega),trivial⟩,H⟩
    ·intro h2
     replace h2:=AG h2
     refine Ax rfl (Ax rfl (Ax rfl (Ax rfl (Ax rfl (Ax rfl (Ax rfl (Ax rfl (BJ ?_))))))))
     replace H:=H.drew
     refine Ag rfl (Ag rfl (A6 rfl rfl (.bool _) rfl (Ab (Aa ?_))))
     exact ⟨(),rfl,⟨congrArg Value.bool (by clear hiv; rw [Bool.eq_iff_iff]; simp_all; try omega),trivial⟩,H⟩
   ·rintro - jy w H
    refine Aq _ rfl ?_ ?_
    ·intro hc
     have hc:=of_decide_eq_true hc
     refine Ao (Aa (Au (Av (Ad rfl rfl (Ap rfl rfl rfl (by omega) (by omega) ?_)))))
     refine Ae rfl rfl (Ab (A5 (Aa ?_)))
     exact ⟨i+1,rfl,⟨congrArg (Value.int .i64) (by omega),trivial⟩,⟨⟨by omega,by omega,by omega,by omega,fun x h1 h2=>(if e:x=i then by rw [e]; omega else hiv.2.2.2.2.1 x h1 (by omega)),hiv.2.2.2.2.2⟩,H⟩,by omega⟩
    ·intro hc
     have hc:=of_decide_eq_false hc
     have hci:=hc
     have hi2:j≤j1∧a+1≤i∧i≤j+1∧j<b∧(∀ x,a<x→x<i→(g) x≤(g) a)∧∀ y,j<y→y<b→(g) a<(g) y:=⟨by omega,hiv.2⟩
     have hi3:=hiv.1
     refine Bc (Ak (Ak (AD (Aa (An (Au (Bf 4611615649683211264 (α:=Nat) (fun j=>[(10,.int .i64 (j:Int))]) (fun j w'=>(j≤j1∧a+1≤i∧i≤j+1∧j<b∧(∀ x,a<x→x<i→(g) x≤(g) a)∧∀ y,j<y→y<b→(g) a<(g) y)∧Ctx w0 [q] w' [(q,Bl 24 (CH (g) m))]) (fun j=>j) j rfl ?_ ?_ ?_)))))))
     ·exact ⟨by rfl,trivial⟩
     ·exact ⟨hi2,H⟩
     ·rintro j jx w ⟨hiv,H⟩
      refine An (El 1152851135862669312 (α:=Unit) (fun _=>[(59,.bool (decide (i≤j∧g a<g j)))]) (fun _ w'=>Ctx w0 [q] w' [(q,Bl 24 (CH (g) m))]) rfl ?_ ?_)
      ·skip
       refine EM 12 B0 (by kernel_rfl) rfl rfl ?_
       refine AP rfl rfl (AP rfl rfl (NI rfl rfl rfl (CW rfl rfl (Dg 49 rfl ?_ ?_))))
       ·intro h3
        replace h3:=AF h3
        refine Bx rfl rfl (AP rfl rfl (AY rfl Bz Bo rfl rfl (by omega) (by omega) ?_))
        refine BR rfl BK rfl (by rintro _ rfl; exact ((C1 (H.drew.get at0) (by omega)))) ?_
        refine Bx rfl rfl (AP rfl rfl (AY rfl Bz Bo rfl rfl (by omega) (by omega) ?_))
        refine BR rfl BK rfl (by rintro _ rfl; exact ((C1 (H.drew.get at0) (by omega)))) ?_
        refine BJ ?_
        replace H:=H.drew
        refine Am rfl FA (EL _ _ _) rfl ?_
        rintro v w ⟨rfl,rfl⟩
        simp only [Int.toNat_natCast]
        refine AA rfl rfl (.bool _) rfl (Ab (Aa ?_))
        exact ⟨(),rfl,⟨congrArg Value.bool (by clear hiv; rw [Bool.eq_iff_iff]; simp_all; try omega),trivial⟩,H⟩
       ·intro h4
        replace h4:=AG h4
        refine Ax rfl (Ax rfl (Ax rfl (Ax rfl (Ax rfl (Ax rfl (Ax rfl (Ax rfl (BJ ?_))))))))
        replace H:=H.drew
        refine Ag rfl (A6 rfl rfl (.bool _) rfl (Ab (Aa ?_)))
        exact ⟨(),rfl,⟨congrArg Value.bool (by clear hiv; rw [Bool.eq_iff_iff]; simp_all; try omega),trivial⟩,H⟩
      ·rintro - jy w H
       refine Aq _ rfl ?_ ?_
       ·intro hc
        have hc:=of_decide_eq_true hc
        refine Ao (Aa (Au (Av (Ad rfl rfl (Be rfl rfl rfl (by omega) (by omega) ?_)))))
        refine Ae rfl rfl (Ab (A5 (Aa ?_)))
        exact ⟨j - 1,rfl,⟨congrArg (Value.int .i64) (by omega),trivial⟩,⟨⟨by omega,by omega,by omega,by omega,hiv.2.2.2.2.1,fun y h1 h2=>(if e:y=j then by rw [e]; exact hc.2 else hiv.2.2.2.2.2 y (by omega) h2)⟩,H⟩,by omega⟩
       ·intro hc
        have hc:=of_decide_eq_false hc
        have hci:¬ (i≤j∧¬ g a<g i):=fun h=>hci ⟨by omega,h.2⟩
        replace hiv:=hiv.2
        refine Bc (Ak (Ak (AD (Aa (An (Af (Ad rfl rfl (Ad rfl rfl (Ck rfl rfl rfl (Ab (Aa (Aq _ rfl ?_ ?_))))))))))))
        ·intro h5
         replace h5:=AF h5
         have hji:j+1=i:=by omega
         refine Bc (Ak (EX rfl (Ak (AD (Aa (Af (Ad rfl rfl (Ae rfl rfl (Ab (Aa (A8 (AB (v:=(.int _ _)) rfl rfl rfl ?_))))))))))))
         exact ⟨i,g,rfl,hS0,by omega,by omega,hga,fun x h1 h2=>(if e:x=a then by rw [e]; exact Int.le_refl _ else hiv.2.2.2.1 x (by omega) h2),fun y h1 h2=>hiv.2.2.2.2 y (by omega) h2,H⟩
        ·intro h5
         replace h5:=AG h5
         have hgi:g a<g i:=by rcases Int.lt_or_le (g a) (g i) with h7 | h7; exact h7; exact absurd ⟨by omega,by omega⟩ hci
         have hgj:g j≤g a:=by rcases Int.lt_or_le (g a) (g j) with h7 | h7; exact absurd ⟨by omega,h7⟩ hc; exact h7
         have hne:i<j:=by
          rcases Nat.lt_or_ge i j with h | h
          ·exact h
          ·obtain rfl:i=j:=by omega
           omega
         refine Ao (Aa (CP [([0,1,2,3,4,5,6,7,8,9,10,11,12],13),([14],15)] (fun z=>z.heap[q]? = some (Bl 24 (CH (g) m))) [13,15] B0 (by kernel_rfl) (H.drew.get at0) ?_))
         refine AU rfl rfl ?_
         refine Bi rfl rfl (AS rfl rfl (Bi rfl rfl (AS rfl rfl (Bi rfl rfl (AS rfl rfl (AM rfl Bz Bo rfl rfl (by omega) (by omega) ?_))))))
         refine BP rfl BK rfl (fun _ hx=>(C1 hx (by omega))) ?_
         refine Bi rfl rfl (AS rfl rfl (AM rfl Bz Bo rfl rfl (by omega) (by omega) ?_))
         refine BP rfl BK rfl (fun _ hx=>(C1 hx (by omega))) ?_
         refine AM rfl Bz Bo rfl rfl (by omega) (by omega) ?_
         refine Ba ?_
         replace H:=H.drew
         refine BU (i) (fun z => .int .u64 (if z=i then (g) (j) else (g) z)) (.int _ _) rfl Bo rfl rfl rfl H at0 (by omega) (by omega) (by rw [if_pos rfl]; exact congrArg (fun z=>Value.int .u64 ((g) z)) (by omega)) (fun z _ hz=>by rw [if_neg hz]) ?_
         rintro w H
         refine Ab (BW rfl (AU rfl rfl ?_))
         refine AM rfl Bz Bo rfl rfl (by omega) (by omega) ?_
         refine Ba (BU (j) (fun z => .int .u64 (sw (g) (i) (j) z)) (.int _ _) rfl Bo rfl rfl rfl H at0 (by omega) (by omega) (by rw [DH]; exact congrArg (fun z=>Value.int .u64 ((g) z)) (by omega)) (fun z _ hz=>by rw [DA hz]) ?_)
         rintro w H
         refine Ab (BW rfl (BO (Af (Ad rfl rfl (Ap rfl rfl rfl (by omega) (by omega) ?_)))))
         refine Ae rfl rfl (Ab (Aa (Av (Ad rfl rfl (Be rfl rfl rfl (by omega) (by omega) ?_)))))
         refine Ae rfl rfl (Ab (A5 (Aa ?_)))
         exact ⟨(i+1,j - 1,sw g i j),rfl,⟨rfl,congrArg (Value.int .i64) (by dsimp only; omega),trivial⟩,⟨Yx hiv hne hgi hgj,(Ex (by omega) (by omega)).trans hga,hS0.step i j ⟨by omega,by omega⟩ ⟨by omega,by omega⟩,H⟩,by dsimp only; omega⟩

set_option maxRecDepth 20000 in
set_option maxHeartbeats 4000000 in
theorem Sz {a b:Nat} (hd:w.heap[q]? = some (Bl 24 (CH f m))) (hab:a<b) (hb:b≤n) (hn:n≤m) (hm:n≤1000000000) (hLB:0<a→∀ x,a≤x→x<b→f (a - 1)≤f x) :
  Ret Tryz.prog 205 #[.slice (some ⟨q,0,none⟩) n c,.int .i64 (a:Int),.int .i64 (b:Int)] w fun v w'=>∃ (t:Bool) (g:Nat→Int),v = .bool t∧Sw a b f g∧(t=true→IL g a b)∧Ctx w [q] w' [(q,Bl 24 (CH g m))]:=by
 obtain ⟨w0,rfl⟩:∃ w0,w0=w:=⟨_,rfl⟩
 have H:=Ctx.start1 hd
 refine A9 (fn:=Tryz.f205) Tryz.func205 rfl [.slice (some ⟨q,0,none⟩) n c,.int .i64 (a:Int),.int .i64 (b:Int)] rfl (by kernel_rfl) ?_
 refine Af (Ai rfl rfl (Ab (Aa (Af (Ad rfl rfl (Ap rfl rfl rfl (by omega) (by omega) ?_))))))
 rw [show (a:Int)+1=((a+1:Nat):Int) by omega]
 refine Ae rfl rfl (Ab (Aa (An (Af (Ae rfl rfl (Ab (Aa (Au (Bf 10889035741470030830827987437816582760384 (α:=Nat × Nat × (Nat→Int)) (fun t=>[(8,.int .i64 (t.1:Int)),(7,.int .i64 (t.2.1:Int))]) (fun t w'=>t.1≤5∧(a+1≤t.2.1∧t.2.1≤b∧IL t.2.2 a t.2.1)∧Sw a b f t.2.2∧Ctx w0 [q] w' [(q,Bl 24 (CH t.2.2 m))]) (fun t=>5 - t.1) (0,a+1,f) rfl ?_ ?_ ?_)))))))))
 ·exact ⟨rfl,rfl,trivial⟩
 ·exact ⟨by dsimp only; omega,⟨Nat.le_refl _,by dsimp only; omega,fun x y h1 h2 h3=>by dsimp only at h3; omega⟩,.refl _,H⟩
 ·rintro ⟨st,i,g⟩ j0 w ⟨hst,hi0,hS0,H⟩; dsimp only at hst hi0 hS0 H; dsimp only
  refine An (Af (Ad rfl rfl (AZ rfl rfl rfl (Ab (Aa (Aq _ rfl ?_ ?_))))))
  ·intro h1
   replace h1:=AF h1
   have hLBg:0<a→∀ g',Sw a b f g'→∀ x,a≤x→x<b→g' (a - 1)≤g' x:=fun h0 g' h x hx hxb=>by
    obtain ⟨z,hz1,hz2,hz3⟩:=h.mem x hx hxb
    rw [h.out (a - 1) (.inl (by omega)),hz3]
    exact hLB h0 z hz1 hz2
   refine Ao (Aa (An (Au (An (Au (Bf 34359607424 (α:=Nat) (fun i=>[(7,.int .i64 (i:Int))]) (fun i w'=>(a+1≤i∧i≤b∧IL g a i)∧Ctx w0 [q] w' [(q,Bl 24 (CH (g) m))]) (fun i=>b - i) i rfl ?_ ?_ ?_))))))
   ·exact ⟨by rfl,trivial⟩
   ·exact ⟨hi0,H⟩
   ·rintro i jx w ⟨hiv,H⟩
    refine An (El 8589803520 (α:=Unit) (fun _=>[(32,.bool (decide (i<b∧¬ g i<g (i - 1))))]) (fun _ w'=>Ctx w0 [q] w' [(q,Bl 24 (CH (g) m))]) rfl ?_ ?_)
    ·skip
     refine EM 13 B0 (by kernel_rfl) rfl rfl ?_
     refine AP rfl rfl (AP rfl rfl (IH rfl rfl rfl (CW rfl rfl (Dg 20 rfl ?_ ?_))))
     ·intro h1
      replace h1:=AF h1
      refine Bx rfl rfl (AP rfl rfl (AY rfl Bz Bo rfl rfl (by omega) (by omega) ?_))
      refine BR rfl BK rfl (by rintro _ rfl; exact ((C1 (H.drew.get at0) (by omega)))) ?_
      refine Bx rfl rfl (AP rfl rfl (Dq rfl rfl rfl (by omega) (by omega) ?_))
      refine AY rfl Bz Bo rfl rfl (by omega) (by omega) ?_
      refine BR rfl BK rfl (by rintro _ rfl; exact ((C1 (H.drew.get at0) (by omega)))) ?_
      refine BJ ?_
      replace H:=H.drew
      refine Am rfl FA (EL _ _ _) rfl ?_
      rintro v w ⟨rfl,rfl⟩
      rw [show ((i:Int) - 1).toNat=i - 1 by omega,Int.toNat_natCast]
      refine B1 rfl rfl (AA rfl rfl (.bool _) rfl (Ab (Aa ?_)))
      exact ⟨(),rfl,⟨congrArg Value.bool (by clear hiv; rw [Bool.eq_iff_iff]; simp_all; try omega),trivial⟩,H⟩
     ·intro h2
      replace h2:=AG h2
      refine Ax rfl (Ax rfl (Ax rfl (Ax rfl (Ax rfl (Ax rfl (Ax rfl (Ax rfl (Ax rfl (BJ ?_)))))))))
      replace H:=H.drew
      refine Ag rfl (Ag rfl (A6 rfl rfl (.bool _) rfl (Ab (Aa ?_))))
      exact ⟨(),rfl,⟨congrArg Value.bool (by clear hiv; rw [Bool.eq_iff_iff]; simp_all; try omega),trivial⟩,H⟩
    ·rintro - jy w H
     refine Aq _ rfl ?_ ?_
     ·intro hc
      have hc:=of_decide_eq_true hc
      refine Ao (Aa (Au (Av (Ad rfl rfl (Ap rfl rfl rfl (by omega) (by omega) ?_)))))
      refine Ae rfl rfl (Ab (A5 (Aa ?_)))
      exact ⟨i+1,rfl,⟨congrArg (Value.int .i64) (by omega),trivial⟩,⟨⟨by omega,by omega,fun x y hx hxy hy=>(if e:y=i then (by rw [e]; exact (if e2:x=i - 1 then by rw [e2]; omega else Int.le_trans (hiv.2.2 x (i - 1) hx (by omega) (by omega)) (by omega))) else hiv.2.2 x y hx hxy (by omega))⟩,H⟩,by omega⟩
     ·intro hc
      have hc:=of_decide_eq_false hc
      refine Bc (Ak (Ak (AD (Aa (An (Af (Ad rfl rfl (Ad rfl rfl (Cu rfl rfl rfl (Ab (Aa (Aq _ rfl ?_ ?_))))))))))))
      ·intro h2
       replace h2:=AF h2
       refine Af (Ai rfl rfl (Ab (Aa (A8 (Al (A1 (Al (Al (A1 (Al (AB (v:=(.bool _)) rfl rfl rfl ?_)))))))))))
       obtain rfl:i=b:=by omega
       exact ⟨true,g,rfl,hS0,fun _=>hiv.2.2,H⟩
      ·intro h2
       replace h2:=AG h2
       have hib:i<b:=by omega
       have hlt:g i<g (i - 1):=by rcases Int.lt_or_le (g i) (g (i - 1)) with h7 | h7; exact h7; exact absurd ⟨hib,by omega⟩ hc
       refine Ao (Aa (An (Af (Ad rfl rfl (Ad rfl rfl (Be rfl rfl rfl (by omega) (by omega) ?_))))))
       refine AZ rfl rfl rfl (Ab (Aa (Aq _ rfl ?_ ?_)))
       ·intro h3
        replace h3:=AF h3
        refine Af (Ai rfl rfl (Ab (Aa (A8 (Al (A1 (Al (Al (A1 (Al (AB (v:=(.bool _)) rfl rfl rfl ?_)))))))))))
        exact ⟨false,g,rfl,hS0,(fun h=>by cases h),H⟩
       ·intro h3
        replace h3:=AG h3
        refine Ao (Aa (CP [([0,1,2,3,4,5,6,7,8,9,10,11,12,13,14],15),([16],17)] (fun z=>z.heap[q]? = some (Bl 24 (CH (g) m))) [15,17] B0 (by kernel_rfl) (H.drew.get at0) ?_))
        refine AU rfl rfl ?_
        refine Bi rfl rfl (AS rfl rfl (Bi rfl rfl (AS rfl rfl (Er rfl rfl rfl (by omega) (by omega) ?_))))
        refine Bi rfl rfl (AS rfl rfl (Er rfl rfl rfl (by omega) (by omega) ?_))
        refine AM rfl Bz Bo rfl rfl (by omega) (by omega) ?_
        refine BP rfl BK rfl (fun _ hx=>(C1 hx (by omega))) ?_
        refine Bi rfl rfl (AS rfl rfl (AM rfl Bz Bo rfl rfl (by omega) (by omega) ?_))
        refine BP rfl BK rfl (fun _ hx=>(C1 hx (by omega))) ?_
        refine AM rfl Bz Bo rfl rfl (by omega) (by omega) ?_
        refine Ba ?_
        replace H:=H.drew
        refine BU (i) (fun z => .int .u64 (if z=i then (g) (i - 1) else (g) z)) (.int _ _) rfl Bo rfl rfl rfl H at0 (by omega) (by omega) (by rw [if_pos rfl]; exact congrArg (fun z=>Value.int .u64 ((g) z)) (by omega)) (fun z _ hz=>by rw [if_neg hz]) ?_
        rintro w H
        refine Ab (BW rfl (AU rfl rfl ?_))
        refine AM rfl Bz Bo rfl rfl (by omega) (by omega) ?_
        refine Ba (BU (i - 1) (fun z => .int .u64 (sw (g) (i) (i - 1) z)) (.int _ _) rfl Bo rfl rfl rfl H at0 (by omega) (by omega) (by rw [DH]; exact congrArg (fun z=>Value.int .u64 ((g) z)) (by omega)) (fun z _ hz=>by rw [DA hz]) ?_)
        rintro w H
        refine Ab (BW rfl (BO (An ?_)))
        have hS1:=hS0.step i (i - 1) ⟨by omega,by omega⟩ ⟨by omega,by omega⟩
        have hI1:InsU (sw g i (i - 1)) a (i - 1) (i - 1):=fun x y hx hxy hy hne=>by rw [Ex (by omega) (by omega),Ex (by omega) (by omega)]; exact hiv.2.2 x y hx hxy (by omega)
        obtain ⟨g1,hg1⟩:∃ g1,g1=sw g i (i - 1):=⟨_,rfl⟩
        rw [← hg1] at hS1 hI1 H
        refine Af (Ad rfl rfl (Ad rfl rfl (Be rfl rfl rfl (by omega) (by omega) ?_)))
        refine Cx rfl rfl rfl (Ab (Aa (EI 39614081252520482778344587776 (α:=Nat→Int) (fun _=>[]) (fun g w'=>IL g a i∧Sw a b f g∧Ctx w0 [q] w' [(q,Bl 24 (CH g m))]) rfl ?_ ?_)))
        ·skip
         refine Aq _ rfl ?_ ?_
         ·intro h4
          replace h4:=AF h4
          refine Af (Ad rfl rfl (Be rfl rfl rfl (by omega) (by omega) ?_))
          rw [show (i:Int) - 1=((i - 1:Nat):Int) by omega]
          refine Ae rfl rfl (Ab (Aa (Au (Bf 39614081238685424723062424064 (α:=Nat × (Nat→Int)) (fun t=>[(9,.int .i64 (t.1:Int))]) (fun t w'=>(a≤t.1∧t.1≤i - 1∧InsU t.2 a t.1 (i - 1))∧Sw a b f t.2∧Ctx w0 [q] w' [(q,Bl 24 (CH t.2 m))]) (fun t=>t.1) (i - 1,g1) rfl ?_ ?_ ?_))))
          ·exact ⟨rfl,trivial⟩
          ·exact ⟨⟨by dsimp only; omega,Nat.le_refl _,hI1⟩,hS1,H⟩
          ·rintro ⟨j,g⟩ j3 w ⟨hj,hS,H⟩; dsimp only at hj hS H; dsimp only
           have hex:(a<j→g (j - 1)≤g j)→IL g a i:=fun h7=>by have h8:=hj.2.2.done hj.1 h7; rw [show i - 1+1=i by omega] at h8; exact h8
           refine An (Af (Ad rfl rfl (Cx rfl rfl rfl (Ab (Aa (Aq _ rfl ?_ ?_))))))
           ·intro h5
            replace h5:=AF h5
            refine Ao (Aa (An (Au (An (DK 9 B0 (by kernel_rfl) rfl rfl ?_)))))
            refine Bx rfl rfl (AP rfl rfl (AY rfl Bz Bo rfl rfl (by omega) (by omega) ?_))
            refine BR rfl BK rfl (by rintro _ rfl; exact ((C1 (H.drew.get at0) (by omega)))) ?_
            refine Bx rfl rfl (AP rfl rfl (Dq rfl rfl rfl (by omega) (by omega) ?_))
            refine AY rfl Bz Bo rfl rfl (by omega) (by omega) ?_
            refine BR rfl BK rfl (by rintro _ rfl; exact ((C1 (H.drew.get at0) (by omega)))) ?_
            refine BJ ?_
            replace H:=H.drew
            refine Am rfl FA (EL _ _ _) rfl ?_
            rintro v w ⟨rfl,rfl⟩
            rw [show ((j:Int) - 1).toNat=j - 1 by omega,Int.toNat_natCast]
            refine B1 rfl rfl (Ab (Aa (Aq _ rfl ?_ ?_)))
            ·intro h6
             replace h6:=Bv h6
             have h6:¬ g j<g (j - 1):=by simpa using h6
             refine Bc (Ak (EX rfl (Ak (Ak (AD (Aa ?_))))))
             exact ⟨g,rfl,trivial,hex fun _=>by omega,hS,H⟩
            ·intro h6
             replace h6:=Bw h6
             have h6:g j<g (j - 1):=by simpa using h6
             have haj:a<j:=by
              rcases Nat.lt_or_ge a j with h | h
              ·exact h
              ·obtain rfl:a=j:=by omega
               have:=hLBg (by omega) g hS a (Nat.le_refl _) hab
               omega
             refine Ao (Aa (Fq [([0,1,2,3,4,5,6,7,8,9,10,11,12,13,14],15),([16],17)] (fun z=>z.heap[q]? = some (Bl 24 (CH (g) m))) [15,17] B0 (by kernel_rfl) (H.drew.get at0) ?_))
             refine AU rfl rfl ?_
             refine Bi rfl rfl (AS rfl rfl (Bi rfl rfl (AS rfl rfl (Er rfl rfl rfl (by omega) (by omega) ?_))))
             refine Bi rfl rfl (AS rfl rfl (Er rfl rfl rfl (by omega) (by omega) ?_))
             refine AM rfl Bz Bo rfl rfl (by omega) (by omega) ?_
             refine BP rfl BK rfl (fun _ hx=>(C1 hx (by omega))) ?_
             refine Bi rfl rfl (AS rfl rfl (AM rfl Bz Bo rfl rfl (by omega) (by omega) ?_))
             refine BP rfl BK rfl (fun _ hx=>(C1 hx (by omega))) ?_
             refine AM rfl Bz Bo rfl rfl (by omega) (by omega) ?_
             refine Ba ?_
             replace H:=H.drew
             refine BU (j) (fun z => .int .u64 (if z=j then (g) (j - 1) else (g) z)) (.int _ _) rfl Bo rfl rfl rfl H at0 (by omega) (by omega) (by rw [if_pos rfl]; exact congrArg (fun z=>Value.int .u64 ((g) z)) (by omega)) (fun z _ hz=>by rw [if_neg hz]) ?_
             rintro w H
             refine Ab (BW rfl (AU rfl rfl ?_))
             refine AM rfl Bz Bo rfl rfl (by omega) (by omega) ?_
             refine Ba (BU (j - 1) (fun z => .int .u64 (sw (g) (j) (j - 1) z)) (.int _ _) rfl Bo rfl rfl rfl H at0 (by omega) (by omega) (by rw [DH]; exact congrArg (fun z=>Value.int .u64 ((g) z)) (by omega)) (fun z _ hz=>by rw [DA hz]) ?_)
             rintro w H
             refine Ab (BW rfl (BO (A5 (Aa (Av (Ad rfl rfl (Be rfl rfl rfl (by omega) (by omega) ?_)))))))
             refine Ae rfl rfl (Ab (Aa ?_))
             exact ⟨(j - 1,sw g j (j - 1)),rfl,⟨congrArg (Value.int .i64) (by dsimp only; omega),trivial⟩,⟨⟨by dsimp only; omega,by dsimp only; omega,hj.2.2.step haj hj.2.1 h6⟩,hS.step j (j - 1) ⟨by omega,by omega⟩ ⟨by omega,by omega⟩,H⟩,by dsimp only; omega⟩
           ·intro h5
            replace h5:=AG h5
            refine Bc (Ak (Ak (AD (Aa ?_))))
            exact ⟨g,rfl,trivial,hex fun _=>by omega,hS,H⟩
         ·intro h4
          replace h4:=AG h4
          refine Ao (Aa ?_)
          exact ⟨g1,rfl,trivial,fun x y hx hxy hy=>by omega,hS1,H⟩
        ·rintro g2 j4 w ⟨hO2,hS2,H⟩
         refine Af (Ad rfl rfl (Ad rfl rfl (Be rfl rfl rfl (by omega) (by omega) ?_)))
         refine Cx rfl rfl rfl (Ab (Aa (Aq _ rfl ?_ ?_)))
         ·intro h4
          replace h4:=AF h4
          refine Af (Ad rfl rfl (Ap rfl rfl rfl (by omega) (by omega) ?_))
          rw [show (i:Int)+1=((i+1:Nat):Int) by omega]
          refine Ae rfl rfl (Ab (Aa (Au (Bf 10889035738934729630371528634823176356864 (α:=Nat × (Nat→Int)) (fun t=>[(10,.int .i64 (t.1:Int))]) (fun t w'=>(i+1≤t.1∧t.1≤b∧IL t.2 a i)∧Sw a b f t.2∧Ctx w0 [q] w' [(q,Bl 24 (CH t.2 m))]) (fun t=>b - t.1) (i+1,g2) rfl ?_ ?_ ?_))))
          ·exact ⟨rfl,trivial⟩
          ·exact ⟨⟨Nat.le_refl _,by dsimp only; omega,hO2⟩,hS2,H⟩
          ·rintro ⟨j,g⟩ j5 w ⟨hj,hS,H⟩; dsimp only at hj hS H; dsimp only
           refine An (Af (Ad rfl rfl (Ad rfl rfl (AZ rfl rfl rfl (Ab (Aa (Aq _ rfl ?_ ?_)))))))
           ·intro h5
            replace h5:=AF h5
            refine Ao (Aa (An (Au (An (DK 9 B0 (by kernel_rfl) rfl rfl ?_)))))
            refine Bx rfl rfl (AP rfl rfl (AY rfl Bz Bo rfl rfl (by omega) (by omega) ?_))
            refine BR rfl BK rfl (by rintro _ rfl; exact ((C1 (H.drew.get at0) (by omega)))) ?_
            refine Bx rfl rfl (AP rfl rfl (Dq rfl rfl rfl (by omega) (by omega) ?_))
            refine AY rfl Bz Bo rfl rfl (by omega) (by omega) ?_
            refine BR rfl BK rfl (by rintro _ rfl; exact ((C1 (H.drew.get at0) (by omega)))) ?_
            refine BJ ?_
            replace H:=H.drew
            refine Am rfl FA (EL _ _ _) rfl ?_
            rintro v w ⟨rfl,rfl⟩
            rw [show ((j:Int) - 1).toNat=j - 1 by omega,Int.toNat_natCast]
            refine B1 rfl rfl (Ab (Aa (Aq _ rfl ?_ ?_)))
            ·intro h6
             replace h6:=Bv h6
             refine Bc (Ak (EX rfl (Ak (Ak (AD (A5 (Aa (Av (Ad rfl rfl (Ap rfl rfl rfl (by omega) (by omega) ?_))))))))))
             refine Ae rfl rfl (Ab (Aa ?_))
             exact ⟨(st+1,i,g),rfl,⟨rfl,rfl,trivial⟩,⟨by dsimp only; omega,⟨by dsimp only; omega,by dsimp only; omega,hj.2.2⟩,hS,H⟩,by dsimp only; omega⟩
            ·intro h6
             replace h6:=Bw h6
             refine Ao (Aa (Fq [([0,1,2,3,4,5,6,7,8,9,10,11,12,13,14],15),([16],17)] (fun z=>z.heap[q]? = some (Bl 24 (CH (g) m))) [15,17] B0 (by kernel_rfl) (H.drew.get at0) ?_))
             refine AU rfl rfl ?_
             refine Bi rfl rfl (AS rfl rfl (Bi rfl rfl (AS rfl rfl (Er rfl rfl rfl (by omega) (by omega) ?_))))
             refine Bi rfl rfl (AS rfl rfl (Er rfl rfl rfl (by omega) (by omega) ?_))
             refine AM rfl Bz Bo rfl rfl (by omega) (by omega) ?_
             refine BP rfl BK rfl (fun _ hx=>(C1 hx (by omega))) ?_
             refine Bi rfl rfl (AS rfl rfl (AM rfl Bz Bo rfl rfl (by omega) (by omega) ?_))
             refine BP rfl BK rfl (fun _ hx=>(C1 hx (by omega))) ?_
             refine AM rfl Bz Bo rfl rfl (by omega) (by omega) ?_
             refine Ba ?_
             replace H:=H.drew
             refine BU (j) (fun z => .int .u64 (if z=j then (g) (j - 1) else (g) z)) (.int _ _) rfl Bo rfl rfl rfl H at0 (by omega) (by omega) (by rw [if_pos rfl]; exact congrArg (fun z=>Value.int .u64 ((g) z)) (by omega)) (fun z _ hz=>by rw [if_neg hz]) ?_
             rintro w H
             refine Ab (BW rfl (AU rfl rfl ?_))
             refine AM rfl Bz Bo rfl rfl (by omega) (by omega) ?_
             refine Ba (BU (j - 1) (fun z => .int .u64 (sw (g) (j) (j - 1) z)) (.int _ _) rfl Bo rfl rfl rfl H at0 (by omega) (by omega) (by rw [DH]; exact congrArg (fun z=>Value.int .u64 ((g) z)) (by omega)) (fun z _ hz=>by rw [DA hz]) ?_)
             rintro w H
             refine Ab (BW rfl (BO (A5 (Aa (Av (Ad rfl rfl (Ap rfl rfl rfl (by omega) (by omega) ?_)))))))
             refine Ae rfl rfl (Ab (Aa ?_))
             exact ⟨(j+1,sw g j (j - 1)),rfl,⟨rfl,trivial⟩,⟨⟨by dsimp only; omega,by dsimp only; omega,fun x y hx hxy hy=>by dsimp only; rw [Ex (by omega) (by omega),Ex (by omega) (by omega)]; exact hj.2.2 x y hx hxy hy⟩,hS.step j (j - 1) ⟨by omega,by omega⟩ ⟨by omega,by omega⟩,H⟩,by dsimp only; omega⟩
           ·intro h5
            replace h5:=AG h5
            refine Bc (Ak (Ak (AD (A5 (Aa (Av (Ad rfl rfl (Ap rfl rfl rfl (by omega) (by omega) ?_))))))))
            refine Ae rfl rfl (Ab (Aa ?_))
            exact ⟨(st+1,i,g),rfl,⟨rfl,rfl,trivial⟩,⟨by dsimp only; omega,⟨by dsimp only; omega,by dsimp only; omega,hj.2.2⟩,hS,H⟩,by dsimp only; omega⟩
         ·intro h4
          replace h4:=AG h4
          refine Ao (A5 (Aa (Av (Ad rfl rfl (Ap rfl rfl rfl (by omega) (by omega) ?_)))))
          refine Ae rfl rfl (Ab (Aa ?_))
          exact ⟨(st+1,i,g2),rfl,⟨rfl,rfl,trivial⟩,⟨by dsimp only; omega,⟨by dsimp only; omega,by dsimp only; omega,hO2⟩,hS2,H⟩,by dsimp only; omega⟩
  ·intro h1
   replace h1:=AG h1
   refine Bc (Ak (Ak (AD (Aa (Af (Ai rfl rfl (Ab (Aa (A8 (AB (v:=(.bool _)) rfl rfl rfl ?_))))))))))
   exact ⟨false,g,rfl,hS0,(fun h=>by cases h),H⟩
end

end Go.Proofs.YtapphbmlkdhnmaaGreat

/- Sorting numbers of 64 bits: the whole. -/
namespace Go.Proofs.YtapphbmlkdhnmaaGreat
open Go.GV
attribute [local irreducible] AL W Wq Wt

theorem S1 (x:Nat) (hx:x≤4503599627370496) (w:World):Ret Tryz.prog 175 #[.int .u64 (x:Int)] w fun v w'=>∃ r:Nat,v = .int .i64 (r:Int)∧x<2 ^ r∧r≤64∧(0<x→2 ^ r≤2*x)∧w=w':=by
 refine A9 (fn:=Tryz.f175) Tryz.func175 rfl [.int .u64 (x:Int)] rfl (by kernel_rfl) ?_
 refine Af (Ae rfl rfl (Ab (Aa (An (Aq _ rfl ?_ ?_)))))
 ·intro h
  cases h
 ·intro h
  refine Ao (Aa (Af (Ad rfl rfl (Am rfl V7 (QD x hx w) rfl ?_))))
  rintro v w ⟨r,rfl,h1,h2,h3,rfl⟩
  refine Ae rfl rfl (Ab (Aa (A8 (AB (v:=(.int _ _)) rfl rfl rfl ?_))))
  exact ⟨r,rfl,h1,h2,h3,rfl⟩
theorem Yy (l:Nat) (h0:0<l) (hl:l≤1000000000) (w:World):Ret Tryz.prog 219 #[.int .i64 (l:Int)] w fun v w'=>∃ r:Nat,v = .int .u64 (r:Int)∧0<r∧r≤2*l∧w=w':=by
 refine A9 (fn:=Tryz.f219) Tryz.func219 rfl [.int .i64 (l:Int)] rfl (by kernel_rfl) ?_
 refine Af (Ae rfl rfl (Ab (Aa (Af (Ad rfl rfl (DI rfl rfl Qx Tz (by omega) (by omega) ?_))))))
 refine Am rfl Sd (S1 l (by omega) w) rfl ?_
 rintro v w ⟨r,rfl,h1,h2,h3,rfl⟩
 refine RL (a:=1) (n:=r) rfl rfl rfl h2 ?_
 refine Ae rfl rfl (Ab (Aa (A8 (AB (v:=(.int _ _)) rfl rfl rfl ?_))))
 have h4:=h3 h0
 have h5:=Nat.two_pow_pos r
 exact ⟨2 ^ r,congrArg (Value.int .u64) (by rw [Nat.one_mul,Nat.mod_eq_of_lt (by omega)]),h5,h4,rfl⟩
theorem WB {x y:Nat} (hx:x<18446744073709551616) (hy:y<18446744073709551616):x ^^^ y<18446744073709551616:=Nat.xor_lt_two_pow (n:=64) hx hy
section
variable {w:World} {q n c m s:Nat} {f:Nat→Int}
set_option maxRecDepth 20000 in
theorem Yz {z:Nat} (hs:w.heap[s]? = some (Bl 260 [.int .u64 (z:Int)])) (hz:z<18446744073709551616) :
  Ret Tryz.prog 220 #[ptr s] w fun v w'=>∃ z':Nat,v = .int .u64 (z':Int)∧z'<18446744073709551616∧Ctx w [s] w' [(s,Bl 260 [.int .u64 (z':Int)])]:=by
 obtain ⟨w0,rfl⟩:∃ w0,w0=w:=⟨_,rfl⟩
 have H:=Ctx.start1 hs
 refine A9 (fn:=Tryz.f220) Tryz.func220 rfl [.pointer (some ⟨s,0,none⟩)] rfl (by kernel_rfl) ?_
 have b1:=Nat.mod_lt (z*2 ^ 13) (show 0<18446744073709551616 by decide)
 obtain ⟨y1,hy1⟩:∃ y1,y1=z*2 ^ 13 % 18446744073709551616:=⟨_,rfl⟩
 rw [← hy1] at b1
 refine Af (Ae rfl rfl (Ab (Aa (DK 9 B0 (by kernel_rfl) rfl rfl ?_))))
 refine BS rfl rfl (Bh rfl rfl (Cd rfl Kb rfl (by rintro _ rfl; exact H.drew) at0 rfl ?_))
 refine BS rfl rfl (Bh rfl rfl (Cd rfl Kb rfl (by rintro _ rfl; exact H.drew) at0 rfl ?_))
 refine NL (a:=z) (n:=13) rfl rfl rfl (by decide) ?_
 rw [← hy1]
 refine Lc (a:=z) (b:=y1) rfl rfl rfl hz b1 ?_
 refine Bh rfl rfl (BJ ?_)
 replace H:=H.drew
 refine Cy (.int _ _) rfl Pr rfl rfl rfl H at0 (by (simp; done)) ?_
 rintro w H
 refine Ab (Aa ?_)
 obtain ⟨z1,hz1⟩:∃ z1,z1=z ^^^ y1:=⟨_,rfl⟩
 have c1:=WB hz b1
 rw [← hz1] at c1
 replace H:Ctx w0 [s] w [(s,Bl 260 [.int .u64 (z1:Int)])]:=by rw [hz1]; exact H
 have b2:z1 / 2 ^ 7<18446744073709551616:=Nat.lt_of_le_of_lt (Nat.div_le_self _ _) c1
 obtain ⟨y2,hy2⟩:∃ y2,y2=z1 / 2 ^ 7:=⟨_,rfl⟩
 rw [← hy2] at b2
 refine DK 9 B0 (by kernel_rfl) rfl rfl ?_
 refine BS rfl rfl (Bh rfl rfl (Cd rfl Kb rfl (by rintro _ rfl; exact H.drew) at0 rfl ?_))
 refine BS rfl rfl (Bh rfl rfl (Cd rfl Kb rfl (by rintro _ rfl; exact H.drew) at0 rfl ?_))
 refine Ug (a:=z1) (n:=7) rfl rfl rfl (by decide) ?_
 rw [← hy2]
 refine Lc (a:=z1) (b:=y2) rfl rfl rfl c1 b2 ?_
 refine Bh rfl rfl (BJ ?_)
 replace H:=H.drew
 refine Cy (.int _ _) rfl Pr rfl rfl rfl H at0 (by (simp; done)) ?_
 rintro w H
 refine Ab (Aa ?_)
 obtain ⟨z2,hz2⟩:∃ z2,z2=z1 ^^^ y2:=⟨_,rfl⟩
 have c2:=WB c1 b2
 rw [← hz2] at c2
 replace H:Ctx w0 [s] w [(s,Bl 260 [.int .u64 (z2:Int)])]:=by rw [hz2]; exact H
 have b3:=Nat.mod_lt (z2*2 ^ 17) (show 0<18446744073709551616 by decide)
 obtain ⟨y3,hy3⟩:∃ y3,y3=z2*2 ^ 17 % 18446744073709551616:=⟨_,rfl⟩
 rw [← hy3] at b3
 refine DK 9 B0 (by kernel_rfl) rfl rfl ?_
 refine BS rfl rfl (Bh rfl rfl (Cd rfl Kb rfl (by rintro _ rfl; exact H.drew) at0 rfl ?_))
 refine BS rfl rfl (Bh rfl rfl (Cd rfl Kb rfl (by rintro _ rfl; exact H.drew) at0 rfl ?_))
 refine NL (a:=z2) (n:=17) rfl rfl rfl (by decide) ?_
 rw [← hy3]
 refine Lc (a:=z2) (b:=y3) rfl rfl rfl c2 b3 ?_
 refine Bh rfl rfl (BJ ?_)
 replace H:=H.drew
 refine Cy (.int _ _) rfl Pr rfl rfl rfl H at0 (by (simp; done)) ?_
 rintro w H
 refine Ab (Aa (Af (A2 rfl rfl (AJ rfl rfl (AN rfl Kb rfl H at0 rfl (Ae rfl rfl (Ab (Aa (A8 (AB (v:=(.int _ _)) rfl rfl rfl ?_))))))))))
 exact ⟨z2 ^^^ y3,rfl,WB c2 b3,H⟩

set_option maxRecDepth 20000 in
set_option maxHeartbeats 2000000 in
theorem WC {a b:Nat} (hd:w.heap[q]? = some (Bl 24 (CH f m))) (hab:a<b) (hb:b≤n) (hn:n≤m) (hm:n≤1000000000) :
  Ret Tryz.prog 202 #[.slice (some ⟨q,0,none⟩) n c,.int .i64 (a:Int),.int .i64 (b:Int)] w fun v w'=>v = .tuple #[]∧∃ g,Sw a b f g∧Ctx w [q] w' [(q,Bl 24 (CH g m))]:=by
 obtain ⟨w0,rfl⟩:∃ w0,w0=w:=⟨_,rfl⟩
 have H:=Ctx.start1 hd
 obtain ⟨l,rfl⟩:∃ l,b=a+l:=⟨b - a,by omega⟩
 have hl:((a+l:Nat):Int) - (a:Int)=(l:Int):=by omega
 refine A9 (fn:=Tryz.f202) Tryz.func202 rfl [.slice (some ⟨q,0,none⟩) n c,.int .i64 (a:Int),.int .i64 ((a+l:Nat):Int)] rfl (by kernel_rfl) ?_
 refine Af (Ad rfl rfl (Ad rfl rfl (Be rfl rfl rfl (by omega) (by omega) ?_)))
 rw [hl]
 refine Ae rfl rfl (Ab (Aa (Af (Ad rfl rfl (Cx rfl rfl rfl (Ab (Aa (Aq _ rfl ?_ ?_))))))))
 ·intro h1
  replace h1:=AF h1
  refine Af (Ad rfl rfl (DI rfl rfl Qx Abi (by omega) (by omega) ?_))
  refine Bj rfl Abp H ?_
  rintro b7 w - H
  refine Cy (.int _ _) rfl Pr rfl rfl rfl H at0 (by decide) ?_
  rintro w H
  refine Ab (Aa (Af (Ad rfl rfl (Am rfl Aa8 (Yy l (by omega) (by omega) _) rfl ?_))))
  rintro v w ⟨M,rfl,hM0,hM,rfl⟩
  refine Ae rfl rfl (Ab (Aa (Af (Ad rfl rfl (Ad rfl rfl (Hw rfl rfl rfl (by omega) (by omega) (show _≤(9223372036854775807:Int) by omega) ?_))))))
  refine Dd rfl rfl rfl (by omega) (by omega) ?_
  refine Ap rfl rfl rfl (by omega) (by omega) ?_
  refine Be rfl rfl rfl (by omega) (by omega) ?_
  rw [show (a:Int)+(l:Int) / 4*2 - 1=((a+l / 4*2 - 1:Nat):Int) by omega]
  refine Ae rfl rfl (Ab (Aa (Au (Bf 36893488147351995904 (α:=Nat × (Nat→Int) × Nat) (fun t=>[(9,.int .i64 (t.1:Int))]) (fun t w'=>a≤t.1∧t.1≤a+l / 4*2+2∧t.2.2<18446744073709551616∧Sw a (a+l) f t.2.1∧Ctx w0 [q] w' [(b7,Bl 260 [.int .u64 (t.2.2:Int)]),(q,Bl 24 (CH t.2.1 m))]) (fun t=>a+l / 4*2+2 - t.1) (a+l / 4*2 - 1,f,l) rfl ?_ ?_ ?_))))
  ·exact ⟨rfl,trivial⟩
  ·exact ⟨by dsimp only; omega,by dsimp only; omega,by dsimp only; omega,.refl _,H⟩
  ·rintro ⟨i,g,z⟩ j0 w ⟨hi1,hi2,hz,hS,H⟩; dsimp only at hi1 hi2 hz hS H; dsimp only
   refine An (Af (Ad rfl rfl (Ad rfl rfl (Ad rfl rfl (Hw rfl rfl rfl (by omega) (by omega) (show _≤(9223372036854775807:Int) by omega) ?_)))))
   refine Dd rfl rfl rfl (by omega) (by omega) ?_
   refine Ap rfl rfl rfl (by omega) (by omega) ?_
   refine Ap rfl rfl rfl (by omega) (by omega) ?_
   refine JY rfl rfl rfl (Ab (Aa (Aq _ rfl ?_ ?_)))
   ·intro h2
    replace h2:=AF h2
    refine Ao (Aa (An (Au (Af (Am rfl Aa9 (Yz (H.get at0) hz) rfl ?_)))))
    rintro v w ⟨z2,rfl,hz2,H2⟩
    replace H:=Ctx.back (L1:=[_]) (L2:=[_]) H H2
    refine Ad rfl rfl (Mx rfl rfl rfl (by omega) (by omega) ?_)
    rw [show (M:Int) - 1=((M - 1:Nat):Int) by omega]
    refine It (a:=z2) (b:=M - 1) rfl rfl rfl hz2 (by omega) ?_
    have hand:z2 &&& (M - 1)≤M - 1:=Nat.and_le_right
    refine L4 rfl rfl Tz Qx (by omega) (by omega) ?_
    refine Ae rfl rfl (Ab (Aa (An (Af (Ad rfl rfl (Ad rfl rfl (Cx rfl rfl rfl (Ab (Aa ?_)))))))))
    obtain ⟨r,hr⟩:∃ r,r=z2 &&& (M - 1):=⟨_,rfl⟩
    have hr2:r≤M - 1:=by rw [hr]; exact Nat.and_le_right
    rw [← hr]
    refine EI 123145302311936 (α:=Nat) (fun r=>[(10,.int .i64 (r:Int))]) (fun r w'=>r<l∧Ctx w0 [q] w' [(b7,Bl 260 [.int .u64 (z2:Int)]),(q,Bl 24 (CH g m))]) rfl ?_ ?_
    ·skip
     refine Aq _ rfl ?_ ?_
     ·intro h3
      replace h3:=AF h3
      refine Av (Ad rfl rfl (Ad rfl rfl (Be rfl rfl rfl (by omega) (by omega) ?_)))
      refine Ae rfl rfl (Ab (Aa ?_))
      exact ⟨r - l,rfl,⟨congrArg (Value.int .i64) (by omega),trivial⟩,by omega,H⟩
     ·intro h3
      replace h3:=AG h3
      refine Ao (Aa ?_)
      exact ⟨r,rfl,⟨rfl,trivial⟩,by omega,H⟩
    ·rintro r2 j1 w ⟨hr3,H⟩
     refine Fq [([0,1,2,3,4,5,6,7,8,9,10,11,12,13,14,15,16],17),([18],19)] (fun z=>z.heap[q]? = some (Bl 24 (CH (g) m))) [17,19] B0 (by kernel_rfl) (H.drew.get at1) ?_
     refine AU rfl rfl ?_
     refine Bi rfl rfl (AS rfl rfl (Bi rfl rfl (AS rfl rfl (AS rfl rfl (Ep rfl rfl rfl (by omega) (by omega) ?_)))))
     refine Bi rfl rfl (AS rfl rfl (AS rfl rfl (Ep rfl rfl rfl (by omega) (by omega) ?_)))
     refine AM rfl Bz Bo rfl rfl (by omega) (by omega) ?_
     refine BP rfl BK rfl (fun _ hx=>(C1 hx (by omega))) ?_
     refine Bi rfl rfl (AS rfl rfl (AM rfl Bz Bo rfl rfl (by omega) (by omega) ?_))
     refine BP rfl BK rfl (fun _ hx=>(C1 hx (by omega))) ?_
     refine AM rfl Bz Bo rfl rfl (by omega) (by omega) ?_
     refine Ba ?_
     replace H:=H.drew
     refine BU (i) (fun z => .int .u64 (if z=i then (g) (a+r2) else (g) z)) (.int _ _) rfl Bo rfl rfl rfl H at1 (by omega) (by omega) (by rw [if_pos rfl]; exact congrArg (fun z=>Value.int .u64 ((g) z)) (by omega)) (fun z _ hz=>by rw [if_neg hz]) ?_
     rintro w H
     refine Ab (BW rfl (AU rfl rfl ?_))
     refine AM rfl Bz Bo rfl rfl (by omega) (by omega) ?_
     refine Ba (BU (a+r2) (fun z => .int .u64 (sw (g) (i) (a+r2) z)) (.int _ _) rfl Bo rfl rfl rfl H at1 (by omega) (by omega) (by rw [DH]; exact congrArg (fun z=>Value.int .u64 ((g) z)) (by omega)) (fun z _ hz=>by rw [DA hz]) ?_)
     rintro w H
     refine Ab (BW rfl (BO (A5 (Aa (Av (Ad rfl rfl (Ap rfl rfl rfl (by omega) (by omega) ?_)))))))
     refine Ae rfl rfl (Ab (Aa ?_))
     exact ⟨(i+1,sw g i (a+r2),z2),rfl,⟨rfl,trivial⟩,⟨by dsimp only; omega,by dsimp only; omega,hz2,hS.step i (a+r2) ⟨by omega,by omega⟩ ⟨by omega,by omega⟩,H⟩,by dsimp only; omega⟩
   ·intro h2
    replace h2:=AG h2
    refine Bc (Ak (Ak (AD (Db rfl rfl ?_))))
    exact ⟨rfl,g,hS,H.tail⟩
 ·intro h1
  replace h1:=AG h1
  refine Ao (Db rfl rfl ?_)
  exact ⟨rfl,f,.refl _,H⟩
end

end Go.Proofs.YtapphbmlkdhnmaaGreat

/- Sorting numbers of 64 bits: slices.Sort. -/
namespace Go.Proofs.YtapphbmlkdhnmaaGreat
open Go.GV
attribute [local irreducible] AL W Wq Wt

/-- Sorted, once what lies between a' and b' is. -/
structure PQ (f g:Nat→Int) (a b a' b':Nat):Prop where
 ha:a≤a'
 hab:a'≤b'
 hb:b'≤b
 sw:Sw a b f g
 out:∀ x y,a≤x→x<y→y<b→¬ (a'≤x∧y<b')→g x≤g y
 lb:0<a'→∀ x,a'≤x→x<b'→g (a' - 1)≤g x
section
variable {f g g':Nat→Int} {a b a' b':Nat}
theorem PQ.swap (h:PQ f g a b a' b') (s:Sw a' b' g g'):PQ f g' a b a' b':=by
 refine ⟨h.ha,h.hab,h.hb,h.sw.trans (s.mono h.ha h.hb),fun x y hx hxy hy hn=>?_,fun h0 x hx hxb=>?_⟩
 ·by_cases ix:a'≤x∧x<b'
  ·obtain ⟨x2,h1,h2,h3⟩:=s.mem x ix.1 ix.2
   rw [h3,s.out y (.inr (by omega))]
   exact h.out x2 y (Nat.le_trans h.ha h1) (by omega) hy (by omega)
  ·rw [s.out x (by omega)]
   by_cases iy:a'≤y∧y<b'
   ·obtain ⟨y2,h1,h2,h3⟩:=s.mem y iy.1 iy.2
    rw [h3]
    exact h.out x y2 hx (by omega) (Nat.lt_of_lt_of_le h2 h.hb) (by omega)
   ·rw [s.out y (by omega)]
    exact h.out x y hx hxy hy hn
 ·obtain ⟨x2,h1,h2,h3⟩:=s.mem x hx hxb
  rw [h3,s.out (a' - 1) (.inl (by omega))]
  exact h.lb h0 x2 h1 h2
theorem PQ.done (h:PQ f g a b a' b') (s:IL g a' b'):IL g a b:=fun x y hx hxy hy=>by
 by_cases hn:a'≤x∧y<b'
 ·exact s x y hn.1 hxy hn.2
 ·exact h.out x y hx hxy hy hn
theorem PQ.eq {i:Nat} (h:PQ f g a b a' b') (h0:0<a') (hle:g a'≤g (a' - 1)) (hi:a'<i) (hi2:i≤b') (h1:∀ x,a'≤x→x<i→g x≤g a') (h2:∀ y,i≤y→y<b'→g a'<g y):PQ f g a b i b':=by
 refine ⟨by have:=h.ha; omega,hi2,h.hb,h.sw,fun x y hx hxy hy hn=>?_,fun _ x hx hxb=>?_⟩
 ·by_cases hin:a'≤x∧y<b'
  ·have hxi:x<i:=by omega
   have hx1:=h1 x hin.1 hxi
   rcases Nat.lt_or_ge y i with h3 | h3
   ·have:=h.lb h0 y (by omega) hin.2
    omega
   ·have:=h2 y h3 hin.2
    omega
  ·exact h.out x y hx hxy hy hin
 ·have e1:=h1 (i - 1) (by omega) (by omega)
  have e2:=h2 x hx hxb
  omega
theorem PartU.sw {mid lo hi:Nat} (p:PartU g a' mid b') (s:Sw lo hi g g') (h:(a'≤lo∧hi≤mid)∨(mid<lo∧hi≤b')):PartU g' a' mid b':=by
 have hm:g' mid=g mid:=s.out mid (by omega)
 refine ⟨fun x hx hxm=>?_,fun y hy hyb=>?_⟩
 ·rw [hm]
  by_cases ix:lo≤x∧x<hi
  ·obtain ⟨x2,h1,h2,h3⟩:=s.mem x ix.1 ix.2
   rw [h3]; exact p.le x2 (by omega) (by omega)
  ·rw [s.out x (by omega)]; exact p.le x hx hxm
 ·rw [hm]
  by_cases iy:lo≤y∧y<hi
  ·obtain ⟨y2,h1,h2,h3⟩:=s.mem y iy.1 iy.2
   rw [h3]; exact p.ge y2 (by omega) (by omega)
  ·rw [s.out y (by omega)]; exact p.ge y hy hyb
theorem PQ.right {mid:Nat} (h:PQ f g a b a' b') (hm1:a'≤mid) (hm2:mid<b') (p:PartU g a' mid b') (s:IL g a' mid):PQ f g a b (mid+1) b':=by
 refine ⟨by have:=h.ha; omega,by omega,h.hb,h.sw,fun x y hx hxy hy hn=>?_,fun _ x hx hxb=>p.ge x (by omega) hxb⟩
 by_cases hin:a'≤x∧y<b'
 ·rcases Nat.lt_or_ge y mid with h1 | h1
  ·exact s x y hin.1 hxy h1
  ·have hxm:x≤mid:=by omega
   have e1:g x≤g mid:=by
    rcases Nat.lt_or_ge x mid with h2 | h2
    ·exact p.le x hin.1 h2
    ·rw [show x=mid by omega]; exact Int.le_refl _
   rcases Nat.lt_or_ge mid y with h2 | h2
   ·exact Int.le_trans e1 (p.ge y h2 hin.2)
   ·rw [show y=mid by omega]; exact e1
 ·exact h.out x y hx hxy hy hin
theorem PQ.left {mid:Nat} (h:PQ f g a b a' b') (hm1:a'≤mid) (hm2:mid<b') (p:PartU g a' mid b') (s:IL g (mid+1) b'):PQ f g a b a' mid:=by
 refine ⟨h.ha,hm1,by have:=h.hb; omega,h.sw,fun x y hx hxy hy hn=>?_,fun h0 x hx hxb=>h.lb h0 x hx (by omega)⟩
 by_cases hin:a'≤x∧y<b'
 ·rcases Nat.lt_or_ge mid x with h1 | h1
  ·exact s x y h1 hxy hin.2
  ·have hym:mid≤y:=by omega
   have e1:g x≤g mid:=by
    rcases Nat.lt_or_ge x mid with h2 | h2
    ·exact p.le x hin.1 h2
    ·rw [show x=mid by omega]; exact Int.le_refl _
   rcases Nat.lt_or_ge mid y with h2 | h2
   ·exact Int.le_trans e1 (p.ge y h2 hin.2)
   ·rw [show y=mid by omega]; exact e1
 ·exact h.out x y hx hxy hy hin
end
structure QSt where
 a:Nat
 b:Nat
 lim:Nat
 t8:Bool
 t9:Bool
 g:Nat→Int

set_option maxRecDepth 20000 in
set_option maxHeartbeats 8000000 in
theorem Aby {q n c m:Nat} (hn:n≤m) (hm:n≤1000000000):∀ (Z:Nat) {w:World} {f:Nat→Int} {a b lim:Nat},b - a<Z→w.heap[q]? = some (Bl 24 (CH f m))→a≤b→b≤n→lim≤1000→(0<a→∀ x,a≤x→x<b→f (a - 1)≤f x) →
  Ret Tryz.prog 174 #[.slice (some ⟨q,0,none⟩) n c,.int .i64 (a:Int),.int .i64 (b:Int),.int .i64 (lim:Int)] w fun v w'=>v = .tuple #[]∧∃ g,Sw a b f g∧IL g a b∧Ctx w [q] w' [(q,Bl 24 (CH g m))]:=by
 intro Z
 induction Z with
 | zero=>intro w f a b lim h; omega
 | succ Z ih =>
 intro w f a b lim hZ hd hab hb hlim hLB
 obtain ⟨w0,rfl⟩:∃ w0,w0=w:=⟨_,rfl⟩
 have H:=Ctx.start1 hd
 refine A9 (fn:=Tryz.f174) Tryz.func174 rfl [.slice (some ⟨q,0,none⟩) n c,.int .i64 (a:Int),.int .i64 (b:Int),.int .i64 (lim:Int)] rfl (by kernel_rfl) ?_
 refine Af (Ai rfl rfl (Ab (Aa (Af (Ai rfl rfl (Ab (Aa (Au (Bf 21778071482940061661655974875633165532942 (α:=QSt) (fun t=>[(1,.int .i64 (t.a:Int)),(2,.int .i64 (t.b:Int)),(3,.int .i64 (t.lim:Int)),(8,.bool t.t8),(9,.bool t.t9)]) (fun t w'=>t.lim≤1000∧PQ f t.g a b t.a t.b∧Ctx w0 [q] w' [(q,Bl 24 (CH t.g m))]) (fun t=>t.b - t.a) ⟨a,b,lim,true,true,f⟩ rfl ?_ ?_ ?_)))))))))
 ·exact ⟨rfl,rfl,rfl,rfl,rfl,trivial⟩
 ·exact ⟨hlim,⟨Nat.le_refl _,hab,Nat.le_refl _,.refl _,fun x y h1 h2 h3 h4=>absurd ⟨h1,h3⟩ h4,hLB⟩,H⟩
 ·rintro ⟨a',b',lim,t8,t9,g⟩ j0 w ⟨hlim,P,H⟩; dsimp only at hlim P H; dsimp only
  have hP1:=P.ha
  have hP2:=P.hab
  have hP3:=P.hb
  refine Au (Af (Ad rfl rfl (Ad rfl rfl (Be rfl rfl rfl (by omega) (by omega) ?_))))
  refine Ae rfl rfl (Ab (Aa (An (Af (Ad rfl rfl (JY rfl rfl rfl (Ab (Aa (Aq _ rfl ?_ ?_)))))))))
  ·intro h1
   replace h1:=AF h1
   refine Af (Aj rfl rfl (Ad rfl rfl (Ad rfl rfl (Am rfl VK (P8 (a:=a') (b:=b') (H.get at0) hP2 (by omega) hn hm) rfl ?_))))
   rintro rv w ⟨rfl,g2,s2,o2,H2⟩
   replace H:=Ctx.back (L1:=[_]) (L2:=[]) H H2
   refine Ab (Aa (A8 (Al (A1 (Al (A1 (Fp rfl rfl ?_)))))))
   exact ⟨rfl,g2,(P.swap s2).sw,(P.swap s2).done o2,H⟩
  ·intro h1
   replace h1:=AG h1
   refine Ao (Aa (An (Af (Ad rfl rfl (Cu rfl rfl rfl (Ab (Aa (Aq _ rfl ?_ ?_))))))))
   ·intro h2
    replace h2:=AF h2
    refine Af (Aj rfl rfl (Ad rfl rfl (Ad rfl rfl (Am rfl Aaw (QF (a:=a') (b:=b') (H.get at0) (by omega) (by omega) hn hm) rfl ?_))))
    rintro rv w ⟨rfl,g2,s2,o2,H2⟩
    replace H:=Ctx.back (L1:=[_]) (L2:=[]) H H2
    refine Ab (Aa (A8 (Al (A1 (Al (A1 (Fp rfl rfl ?_)))))))
    exact ⟨rfl,g2,(P.swap s2).sw,(P.swap s2).done o2,H⟩
   ·intro h2
    replace h2:=AG h2
    refine Ao (Aa (An (Af (Aw rfl rfl (B1 rfl rfl (Ab (Aa (EI 4329327034376 (α:=Nat × (Nat→Int)) (fun t=>[(3,.int .i64 (t.1:Int))]) (fun t w'=>t.1≤1000∧PQ f t.2 a b a' b'∧Ctx w0 [q] w' [(q,Bl 24 (CH t.2 m))]) rfl ?_ ?_))))))))
    ·skip
     refine Aq _ rfl ?_ ?_
     ·intro h3
      replace h3:=Bv h3
      refine Af (Aj rfl rfl (Ad rfl rfl (Ad rfl rfl (Am rfl Aax (WC (a:=a') (b:=b') (H.get at0) (by omega) (by omega) hn hm) rfl ?_))))
      rintro rv w ⟨rfl,g2,s2,H2⟩
      replace H:=Ctx.back (L1:=[_]) (L2:=[]) H H2
      refine Ab (Aa (Av (Ad rfl rfl (Be rfl rfl rfl (by omega) (by omega) ?_))))
      refine Ae rfl rfl (Ab (Aa ?_))
      exact ⟨(lim - 1,g2),rfl,⟨congrArg (Value.int .i64) (by dsimp only; omega),trivial⟩,by dsimp only; omega,P.swap s2,H⟩
     ·intro h3
      replace h3:=Bw h3
      refine Ao (Aa ?_)
      exact ⟨(lim,g),rfl,⟨rfl,trivial⟩,hlim,P,H⟩
    ·rintro ⟨lim,g⟩ j1 w ⟨hlim,P,H⟩; dsimp only at hlim P H; dsimp only
     refine Af (Aj rfl rfl (Ad rfl rfl (Ad rfl rfl (Am rfl Aay (WA (a:=a') (b:=b') (H.get at0) (by omega) (by omega) hn hm) rfl ?_))))
     rintro rv w ⟨p,hint,hp1,hp2,rfl,hx46⟩
     replace H:=H.call hx46
     refine B9 rfl rfl (A3 rfl rfl rfl (A3 rfl rfl rfl (Ae rfl rfl (Ae rfl rfl (Ab (Aa (An (Af (Ad rfl rfl (Cu rfl rfl rfl ?_))))))))))
     refine Ab (Aa (EI 2303591209400014848 (α:=Nat × Int × (Nat→Int)) (fun t=>[(11,.int .i64 (t.1:Int)),(12,.int .i64 t.2.1)]) (fun t w'=>a'≤t.1∧t.1<b'∧PQ f t.2.2 a b a' b'∧Ctx w0 [q] w' [(q,Bl 24 (CH t.2.2 m))]) rfl ?_ ?_))
     ·skip
      refine Aq _ rfl ?_ ?_
      ·intro h4
       replace h4:=AF h4
       refine Af (Aj rfl rfl (Ad rfl rfl (Ad rfl rfl (Am rfl Aaz (Sy (a:=a') (b:=b') (H.get at0) (by omega) (by omega) hn hm) rfl ?_))))
       rintro rv w ⟨rfl,g2,s2,H2⟩
       replace H:=Ctx.back (L1:=[_]) (L2:=[]) H H2
       refine Ab (Aa (Af (Ad rfl rfl (Be rfl rfl rfl (by omega) (by omega) ?_))))
       refine Ad rfl rfl (Ad rfl rfl (Be rfl rfl rfl (by omega) (by omega) ?_))
       refine Be rfl rfl rfl (by omega) (by omega) ?_
       refine Ae rfl rfl (Ab (Aa (Av (Ae rfl rfl (Ab (Aa ?_))))))
       exact ⟨(b' - 1 - (p - a'),1,g2),rfl,⟨congrArg (Value.int .i64) (by dsimp only; omega),rfl,trivial⟩,by dsimp only; omega,by dsimp only; omega,P.swap s2,H⟩
      ·intro h4
       replace h4:=AG h4
       refine Ao (Aa ?_)
       exact ⟨(p,hint,g),rfl,⟨rfl,rfl,trivial⟩,hp1,hp2,P,H⟩
     ·rintro ⟨p,hint,g⟩ j2 w ⟨hp1,hp2,P,H⟩; dsimp only at hp1 hp2 P H; dsimp only
      refine An (El 587989967349491957760 (α:=Bool) (fun t=>[(68,.bool t)]) (fun _ w'=>Ctx w0 [q] w' [(q,Bl 24 (CH g m))]) rfl ?_ ?_)
      ·skip
       refine Av (Aw rfl rfl (Aw rfl rfl (AE 62 rfl ?_ ?_)))
       ·intro h1
        refine Aw rfl rfl (AA rfl rfl (.bool _) rfl (Aw rfl rfl (AE 65 rfl ?_ ?_)))
        ·intro h2
         refine Ad rfl rfl (Cu rfl rfl rfl (AA rfl rfl (.bool _) rfl (Ab (Aa ?_))))
         exact ⟨_,rfl,⟨rfl,trivial⟩,H⟩
        ·intro h3
         refine Ag rfl (Ag rfl (A6 rfl rfl (.bool _) rfl (Ab (Aa ?_))))
         exact ⟨_,rfl,⟨rfl,trivial⟩,H⟩
       ·intro h4
        refine Ag rfl (A6 rfl rfl (.bool _) rfl (Aw rfl rfl (Ag rfl (Ag rfl (A6 rfl rfl (.bool _) rfl (Ab (Aa ?_)))))))
        exact ⟨_,rfl,⟨rfl,trivial⟩,H⟩
      ·rintro t68 j3 w H
       refine EI 8854437155380584775680 (α:=Nat→Int) (fun _=>[]) (fun g w'=>PQ f g a b a' b'∧Ctx w0 [q] w' [(q,Bl 24 (CH g m))]) rfl ?_ ?_
       ·skip
        refine Aq _ rfl ?_ ?_
        ·intro h5
         refine Af (Aj rfl rfl (Ad rfl rfl (Ad rfl rfl (Am rfl Aa0 (Sz (a:=a') (b:=b') (H.get at0) (by omega) (by omega) hn hm P.lb) rfl ?_))))
         rintro rv w ⟨t72,g2,rfl,s2,o2,H2⟩
         replace H:=Ctx.back (L1:=[_]) (L2:=[]) H H2
         refine Ab (Aa (Aq _ rfl ?_ ?_))
         ·intro h6
          refine A8 (Al (A1 (Al (A1 (Fp rfl rfl ?_)))))
          exact ⟨rfl,g2,(P.swap s2).sw,(P.swap s2).done (o2 h6),H⟩
         ·intro h6
          refine Ao (Aa ?_)
          exact ⟨g2,rfl,trivial,P.swap s2,H⟩
        ·intro h5
         refine Ao (Aa ?_)
         exact ⟨g,rfl,trivial,P,H⟩
       ·rintro g j4 w ⟨P,H⟩
        have hP1:=P.ha
        have hP3:=P.hb
        have e1:((a':Int) - 1).toNat=a' - 1:=by omega
        refine An (El 309475565088379329434353664 (α:=Unit) (fun _=>[(87,.bool (decide (0<a'∧¬ g (a' - 1)<g p)))]) (fun _ w'=>Ctx w0 [q] w' [(q,Bl 24 (CH g m))]) rfl ?_ ?_)
        ·skip
         refine EM 12 B0 (by kernel_rfl) rfl rfl ?_
         refine AP rfl rfl (PY rfl rfl rfl (CW rfl rfl (Dg 75 rfl ?_ ?_)))
         ·intro h5
          replace h5:=AF h5
          refine Bx rfl rfl (AP rfl rfl (Dq rfl rfl rfl (by omega) (by omega) ?_))
          refine AY rfl Bz Bo rfl rfl (by omega) (by omega) ?_
          refine BR rfl BK rfl (by rintro _ rfl; exact ((C1 (H.drew.get at0) (by omega)))) ?_
          refine Bx rfl rfl (AP rfl rfl (AY rfl Bz Bo rfl rfl (by omega) (by omega) ?_))
          refine BR rfl BK rfl (by rintro _ rfl; exact ((C1 (H.drew.get at0) (by omega)))) ?_
          refine BJ ?_
          replace H:=H.drew
          refine Am rfl FA (EL _ _ _) rfl ?_
          rintro v w ⟨rfl,rfl⟩
          rw [e1,Int.toNat_natCast]
          refine B1 rfl rfl (AA rfl rfl (.bool _) rfl (Ab (Aa ?_)))
          exact ⟨(),rfl,⟨congrArg Value.bool (by clear P ih hLB; rw [Bool.eq_iff_iff]; simp_all; try omega),trivial⟩,H⟩
         ·intro h6
          replace h6:=AG h6
          refine Ax rfl (Ax rfl (Ax rfl (Ax rfl (Ax rfl (Ax rfl (Ax rfl (Ax rfl (Ax rfl (BJ ?_)))))))))
          replace H:=H.drew
          refine Ag rfl (Ag rfl (A6 rfl rfl (.bool _) rfl (Ab (Aa ?_))))
          exact ⟨(),rfl,⟨congrArg Value.bool (by clear P ih hLB; rw [Bool.eq_iff_iff]; simp_all; try omega),trivial⟩,H⟩
        ·rintro - j5 w H
         refine Aq _ rfl ?_ ?_
         ·intro h7
          have h7:=of_decide_eq_true h7
          refine Af (Aj rfl rfl (Ad rfl rfl (Ad rfl rfl (Ad rfl rfl (Am rfl Aa1 (UB (a:=a') (b:=b') (p:=p) (H.get at0) (by omega) (by omega) hn hm ⟨hp1,hp2⟩) rfl ?_)))))
          rintro rv w ⟨i,g2,rfl,s2,hi1,hi2,hga,o1,o2,H2⟩
          replace H:=Ctx.back (L1:=[_]) (L2:=[]) H H2
          refine Ae rfl rfl (Ab (Aa (Af (Ad rfl rfl (Ae rfl rfl (Ab (Aa (Bc (Ak (AD (Aa ?_)))))))))))
          have P2:=P.swap s2
          have hout:=s2.out (a' - 1) (.inl (by omega))
          exact ⟨⟨i,b',lim,t8,t9,g2⟩,rfl,⟨rfl,rfl,rfl,rfl,rfl,trivial⟩,⟨hlim,P2.eq h7.1 (by rw [hga,hout]; omega) hi1 hi2 o1 o2,H⟩,by dsimp only; omega⟩
         ·intro h7
          refine Ao (Aa (Af (Aj rfl rfl (Ad rfl rfl (Ad rfl rfl (Ad rfl rfl (Am rfl Aa2 (P9 (a:=a') (b:=b') (p:=p) (H.get at0) (by omega) (by omega) hn hm ⟨hp1,hp2⟩) rfl ?_)))))))
          rintro rv w ⟨mid,t,g2,rfl,s2,hm1,hm2,PP,H2⟩
          replace H:=Ctx.back (L1:=[_]) (L2:=[]) H H2
          refine B9 rfl rfl (A3 rfl rfl rfl (A3 rfl rfl rfl (Ae rfl rfl (Ai rfl rfl (Ab (Aa ?_))))))
          have P2:=P.swap s2
          refine Af (Aw rfl rfl (Ai rfl rfl (Ab (Aa (Af (Ad rfl rfl (Ad rfl rfl (Be rfl rfl rfl (by omega) (by omega) ?_))))))))
          refine Ad rfl rfl (Ad rfl rfl (Be rfl rfl rfl (by omega) (by omega) ?_))
          refine Ae rfl rfl (Ae rfl rfl (Ab (Aa (Af (Ad rfl rfl (Hw rfl rfl rfl (by omega) (by omega) (show _≤(9223372036854775807:Int) by omega) ?_))))))
          refine Ae rfl rfl (Ab (Aa (Af (Ad rfl rfl (Ad rfl rfl (AZ rfl rfl rfl (Ab (Aa (Aq _ rfl ?_ ?_)))))))))
          ·intro h8
           replace h8:=AF h8
           refine Af (Ad rfl rfl (Ad rfl rfl (Cx rfl rfl rfl (Ai rfl rfl (Ab (Aa (Af (Aj rfl rfl (Ad rfl rfl (Ad rfl rfl ?_))))))))))
           refine Ad rfl rfl (Am rfl Pp (ih (a:=a') (b:=mid) (lim:=lim) (f:=g2) (by omega) (H.get at0) hm1 (by omega) hlim (fun h0 x hx hxb=>P2.lb h0 x hx (by omega))) rfl ?_)
           rintro rv w ⟨rfl,g3,s3,o3,H2⟩
           replace H:=Ctx.back (L1:=[_]) (L2:=[]) H H2
           refine Ab (Aa (Av (Ad rfl rfl (Ap rfl rfl rfl (by omega) (by omega) ?_))))
           refine Ae rfl rfl (Ab (A5 (Aa ?_)))
           have P3:=P2.swap (s3.mono (Nat.le_refl _) (by omega))
           exact ⟨⟨mid+1,b',lim,_,t,g3⟩,rfl,⟨rfl,rfl,rfl,rfl,rfl,trivial⟩,⟨hlim,P3.right hm1 hm2 (PartU.sw PP s3 (.inl ⟨Nat.le_refl _,Nat.le_refl _⟩)) o3,H⟩,by dsimp only; omega⟩
          ·intro h8
           replace h8:=AG h8
           refine Af (Ad rfl rfl (Ad rfl rfl (Cx rfl rfl rfl (Ai rfl rfl (Ab (Aa (Af (Aj rfl rfl (Ad rfl rfl (Ap rfl rfl rfl (by omega) (by omega) ?_))))))))))
           rw [show (mid:Int)+1=((mid+1:Nat):Int) by omega]
           refine Ad rfl rfl (Ad rfl rfl (Am rfl Pp (ih (a:=mid+1) (b:=b') (lim:=lim) (f:=g2) (by omega) (H.get at0) (by omega) (by omega) hlim (fun _ x hx hxb=>PP.ge x (by omega) hxb)) rfl ?_))
           rintro rv w ⟨rfl,g3,s3,o3,H2⟩
           replace H:=Ctx.back (L1:=[_]) (L2:=[]) H H2
           refine Ab (Aa (Av (Ad rfl rfl (Ae rfl rfl (Ab (A5 (Aa ?_)))))))
           have P3:=P2.swap (s3.mono (by omega) (Nat.le_refl _))
           have P4:=P3.left hm1 hm2 (PartU.sw PP s3 (.inr ⟨by omega,Nat.le_refl _⟩)) o3
           exact ⟨⟨a',mid,lim,_,t,g3⟩,rfl,⟨rfl,rfl,rfl,rfl,rfl,trivial⟩,⟨hlim,P4,H⟩,by show mid - a'<b' - a'; omega⟩

set_option maxRecDepth 20000 in
theorem WD {q n c m:Nat} {w:World} {f:Nat→Int} (hd:w.heap[q]? = some (Bl 24 (CH f m))) (hn:n≤m) (hm:n≤1000000000) :
  Ret Tryz.prog 122 #[.slice (some ⟨q,0,none⟩) n c] w fun v w'=>v = .tuple #[]∧∃ g,(tab g n).Perm (tab f n)∧IL g 0 n∧Ctx w [q] w' [(q,Bl 24 (CH g m))]:=by
 obtain ⟨w0,rfl⟩:∃ w0,w0=w:=⟨_,rfl⟩
 refine A9 (fn:=Tryz.f122) Tryz.func122 rfl [.slice (some ⟨q,0,none⟩) n c] rfl (by kernel_rfl) ?_
 refine Af (Aj rfl rfl (AV rfl Bz rfl (Ae rfl rfl (Ab (Aa (Av (Aj rfl rfl (Ad rfl rfl (Ad rfl rfl (DI rfl rfl Qx Tz (by omega) (by omega) ?_))))))))))
 refine Am rfl Sd (S1 n (by omega) _) rfl ?_
 rintro v w ⟨r,rfl,h1,h2,h3,rfl⟩
 refine Am rfl Pp (Aby hn hm (n+1) (a:=0) (b:=n) (lim:=r) (by omega) hd (Nat.zero_le _) (Nat.le_refl _) (by omega) (fun h=>absurd h (Nat.lt_irrefl _))) rfl ?_
 rintro rv w ⟨rfl,g,s,o,H⟩
 refine Ab (Db rfl rfl ?_)
 exact ⟨rfl,g,s.perm (Nat.le_refl _),o,H⟩
theorem S2 (c:Nat) (w:World):Ret Tryz.prog 122 #[.slice none 0 c] w fun v w'=>v = .tuple #[]∧w=w':=by
 have ins:∀ w,Ret Tryz.prog 200 #[.slice none 0 c,.int .i64 0,.int .i64 0] w fun v w'=>v = .tuple #[]∧w=w':=fun w=>by
  refine A9 (fn:=Tryz.f200) Tryz.func200 rfl [.slice none 0 c,.int .i64 0,.int .i64 0] rfl (by kernel_rfl) ?_
  refine Af (Ad rfl rfl (Ap rfl rfl rfl (by omega) (by omega) ?_))
  refine Ae rfl rfl (Ab (Aa (Au (Bf 562949953420480 (α:=Unit) (fun _=>[(6,.int .i64 1)]) (fun _ w'=>w=w') (fun _=>0) () rfl ?_ ?_ ?_))))
  ·exact ⟨rfl,trivial⟩
  ·rfl
  ·rintro - j0 w rfl
   refine An (Af (Ad rfl rfl (Ad rfl rfl (AZ rfl rfl rfl (Ab (Aa (Aq _ rfl ?_ ?_)))))))
   ·intro h1
    replace h1:=AF h1
    omega
   ·intro h1
    replace h1:=AG h1
    refine Bc (Ak (Ak (AD (Db rfl rfl ?_))))
    exact ⟨rfl,rfl⟩
 have pdq:∀ (r:Nat) (w:World),Ret Tryz.prog 174 #[.slice none 0 c,.int .i64 0,.int .i64 0,.int .i64 (r:Int)] w fun v w'=>v = .tuple #[]∧w=w':=fun r w=>by
  refine A9 (fn:=Tryz.f174) Tryz.func174 rfl [.slice none 0 c,.int .i64 0,.int .i64 0,.int .i64 (r:Int)] rfl (by kernel_rfl) ?_
  refine Af (Ai rfl rfl (Ab (Aa (Af (Ai rfl rfl (Ab (Aa (Au (Bf 21778071482940061661655974875633165532942 (α:=Unit) (fun _=>[(1,.int .i64 0),(2,.int .i64 0),(3,.int .i64 (r:Int)),(8,.bool true),(9,.bool true)]) (fun _ w'=>w=w') (fun _=>0) () rfl ?_ ?_ ?_)))))))))
  ·exact ⟨rfl,rfl,rfl,rfl,rfl,trivial⟩
  ·rfl
  ·rintro - j0 w rfl
   refine Au (Af (Ad rfl rfl (Ad rfl rfl (Be rfl rfl rfl (by omega) (by omega) ?_))))
   refine Ae rfl rfl (Ab (Aa (An (Af (Ad rfl rfl (JY rfl rfl rfl (Ab (Aa (Aq _ rfl ?_ ?_)))))))))
   ·intro h1
    replace h1:=AF h1
    refine Af (Aj rfl rfl (Ad rfl rfl (Ad rfl rfl (Am rfl VK (ins _) rfl ?_))))
    rintro v w ⟨rfl,rfl⟩
    refine Ab (Aa (A8 (Al (A1 (Al (A1 (Fp rfl rfl ?_)))))))
    exact ⟨rfl,rfl⟩
   ·intro h1
    replace h1:=AG h1
    omega
 refine A9 (fn:=Tryz.f122) Tryz.func122 rfl [.slice none 0 c] rfl (by kernel_rfl) ?_
 refine Af (Aj rfl rfl (AV rfl Bz rfl (Ae rfl rfl (Ab (Aa (Av (Aj rfl rfl (Ad rfl rfl (Ad rfl rfl (DI rfl rfl Qx Tz (by omega) (by omega) ?_))))))))))
 refine Am rfl Sd (S1 0 (by omega) _) rfl ?_
 rintro v w ⟨r,rfl,h1,h2,h3,rfl⟩
 refine Am rfl Pp (pdq r _) rfl ?_
 rintro v w ⟨rfl,rfl⟩
 refine Ab (Db rfl rfl ?_)
 exact ⟨rfl,rfl⟩

end Go.Proofs.YtapphbmlkdhnmaaGreat

/- Money: the walks. -/
namespace Go.Proofs.YtapphbmlkdhnmaaGreat
open Go.GV
attribute [local irreducible] AL W Wq Wt

def Di (x:Int):Bool:=decide (0≤x) && decide (x≤4503599627370496)
theorem Ln (x:Int) (w:World):Ret Tryz.prog 109 #[.int .i64 x] w fun v w'=>v = .bool (Di x)∧w=w':=by
 obtain ⟨w0,rfl⟩:∃ w0,w0=w:=⟨_,rfl⟩
 refine A9 (fn:=Tryz.f109) Tryz.func109 rfl [.int .i64 x] rfl (by kernel_rfl) ?_
 refine Af (Ai rfl rfl (Ab (Aa (Af (Ad rfl rfl (Cx rfl rfl rfl (Aw rfl rfl (AE 5 rfl ?_ ?_))))))))
 ·intro h1
  replace h1:=AF h1
  refine Ad rfl rfl (JY rfl rfl rfl (AA rfl rfl (.bool _) rfl (Ai rfl rfl (Ab (Aa (A8 (AB (v:=(.bool _)) rfl rfl rfl ?_)))))))
  exact ⟨congrArg Value.bool (by unfold Di; rw [Bool.eq_iff_iff]; simp_all; try omega),rfl⟩
 ·intro h2
  replace h2:=AG h2
  refine Ag rfl (Ag rfl (A6 rfl rfl (.bool _) rfl (Ai rfl rfl (Ab (Aa (A8 (AB (v:=(.bool _)) rfl rfl rfl ?_)))))))
  exact ⟨congrArg Value.bool (by unfold Di; rw [Bool.eq_iff_iff]; simp_all; try omega),rfl⟩
set_option maxRecDepth 20000 in
theorem Ot (a:Option Addr) (n c:Nat) (xs:List Int) (w:World) (R:Rd w a 1 I1 xs) (hn:xs.length=n) (hn2:n≤1000000) :
  Ret Tryz.prog 160 #[.slice a n c] w fun v w'=>v = .bool (xs.all Di)∧w=w':=by
 subst hn
 obtain ⟨w0,rfl⟩:∃ w0,w0=w:=⟨_,rfl⟩
 refine A9 (fn:=Tryz.f160) Tryz.func160 rfl [.slice a xs.length c] rfl (by kernel_rfl) ?_
 refine Af (Ai rfl rfl (Ab (Aa (An (Af (Aj rfl rfl (AV rfl AO rfl (Ad rfl rfl (Ab (Aa (Au ?_)))))))))))
 refine Bf 32660 (α:=Nat) (fun i=>[(7,.int .i64 (i:Int))]) (fun i w'=>i≤xs.length∧w0=w'∧∀ (k:Nat) (x:Int),k<i→xs[k]? = some x→Di x=true) (fun i=>xs.length - i) 0 rfl ?_ ?_ ?_
 ·exact ⟨rfl,trivial⟩
 ·exact ⟨Nat.zero_le _,rfl,fun k x h=>absurd h (Nat.not_lt_zero _)⟩
 ·rintro i j w ⟨hi,rfl,hb⟩
  refine Af (AZ rfl rfl rfl (Ab (Aa (An (Aq _ rfl ?_ ?_)))))
  ·intro h1
   replace h1:=AF h1
   obtain ⟨x,hx⟩:=A0 (l:=xs) (i:=i) (by omega)
   refine Ao (Aa (An (Au (Af (AK R rfl AO Bu rfl rfl (by omega) (by omega) (by rfl) ?_)))))
   refine Bb rfl Bt rfl ((R.fld hx rfl (j:=0) rfl)) ?_
   refine Ae rfl rfl (Ab (Aa (Af (Ad rfl rfl (Am rfl Lf (Ln x _) rfl ?_)))))
   rintro v w ⟨rfl,rfl⟩
   refine B1 rfl rfl (Ab (Aa (Aq _ rfl ?_ ?_)))
   ·intro h2
    replace h2:=Bv h2
    refine Af (Ai rfl rfl (Ab (Aa (A8 (A1 (Al (Al (A1 (Al (AB (v:=(.bool _)) rfl rfl rfl ?_))))))))))
    refine ⟨congrArg Value.bool ?_,rfl⟩
    exact (C9 hx (show Di x=false by simpa using h2)).symm
   ·intro h2
    replace h2:=Bw h2
    refine Ao (A5 (Aa (Av (Ap rfl rfl rfl (by omega) (by omega) ?_))))
    refine Ad rfl rfl (Ab (Aa ?_))
    refine ⟨i+1,rfl,⟨rfl,trivial⟩,⟨by omega,rfl,fun k y hk hy=>?_⟩,by omega⟩
    rcases Nat.lt_or_ge k i with h7 | h7
    ·exact hb k y h7 hy
    ·obtain rfl:k=i:=by omega
     rw [hx] at hy
     cases hy
     simpa using h2
  ·intro h1
   replace h1:=AG h1
   refine Bc (Ak (Ak (AD (Aa (Af (Ai rfl rfl (Ab (Aa (A8 (AB (v:=(.bool _)) rfl rfl rfl ?_))))))))))
   exact ⟨congrArg Value.bool (CV fun k x hk hx=>hb k x (by omega) hx).symm,rfl⟩
/-! ### The sum -/
def CO (xs:List Int):Int:=xs.foldl (·+·) 0
theorem UC (xs:List Int):∀ a:Int,xs.foldl (·+·) a=a+CO xs:=by
 induction xs with
 | nil=>intro a; show a=a+0; omega
 | cons x xs ih =>
  intro a
  show xs.foldl (·+·) (a+x)=a+xs.foldl (·+·) (0+x)
  rw [ih,ih (0+x)]; omega
theorem JB {xs:List Int} {i:Nat} {x:Int} (h:xs[i]? = some x):CO (xs.take (i+1))=CO (xs.take i)+x:=by
 rw [List.take_add_one,h]
 unfold CO
 rw [List.foldl_append]; rfl
theorem CF (x:Int) (xs:List Int):CO (x::xs)=x+CO xs:=by
 show xs.foldl (·+·) (0+x)=_
 rw [UC]; omega
theorem Gm (xs ys:List Int):CO (xs++ys)=CO xs+CO ys:=by
 induction xs with
 | nil=>show CO ys=0+_; omega
 | cons x xs ih=>rw [List.cons_append,CF,CF,ih]; omega
theorem UD {xs ys:List Int} (h:xs.Perm ys):CO xs=CO ys:=by
 induction h with
 | nil=>rfl
 | cons x _ ih=>rw [CF,CF,ih]
 | swap x y l=>rw [CF,CF,CF,CF]; omega
 | trans _ _ h1 h2=>exact h1.trans h2
theorem F1 {xs:List Int} (h:∀ x∈xs,0≤x):0≤CO xs:=by
 induction xs with
 | nil=>exact Int.le_refl _
 | cons x xs ih =>
  rw [CF]
  have:=h x (List.mem_cons_self ..)
  have:=ih fun y hy=>h y (List.mem_cons_of_mem _ hy)
  omega
theorem QG (f:Nat→Int) (n:Nat):CO (tab f n)=B7 f n:=by
 induction n with
 | zero=>rfl
 | succ n ih =>
  unfold tab at ih ⊢
  rw [List.range_succ,List.map_append,Gm,ih]
  show _+(0+f n)=B7 f n+f n
  omega
/-- What Sum answers: the total, and a code. -/
def Fg (xs:List Int):Int × Int:=if xs.all Di=false then (0,1) else if CO xs≤4503599627370496 then (CO xs,0) else (0,13)
theorem Da {x:Int}:Di x=true↔0≤x∧x≤4503599627370496:=by unfold Di; simp
set_option maxRecDepth 20000 in
set_option maxHeartbeats 2000000 in
theorem Me (a:Option Addr) (n c:Nat) (xs:List Int) (w:World) (R:Rd w a 1 I1 xs) (hn:xs.length=n) (hn2:n≤1000000) :
  Ret Tryz.prog 110 #[.slice a n c] w fun v w'=>v = .tuple #[.int .i64 (Fg xs).1,.int .i64 (Fg xs).2]∧w=w':=by
 subst hn
 obtain ⟨w0,rfl⟩:∃ w0,w0=w:=⟨_,rfl⟩
 refine A9 (fn:=Tryz.f110) Tryz.func110 rfl [.slice a xs.length c] rfl (by kernel_rfl) ?_
 refine Af (Ae rfl rfl (Ae rfl rfl (Ab (Aa (An (Af (Aj rfl rfl (Am rfl VB (Ot a xs.length c xs _ R rfl hn2) rfl ?_))))))))
 rintro v w ⟨rfl,rfl⟩
 refine B1 rfl rfl (Ab (Aa (Aq _ rfl ?_ ?_)))
 ·intro h1
  replace h1:=Bv h1
  refine Af (Ae rfl rfl (Ae rfl rfl (Ab (Aa (A8 (Al (Cq (v1:=(.int _ _)) (v2:=(.int _ _)) rfl rfl rfl rfl ?_)))))))
  have h1':xs.all Di=false:=by simpa using h1
  exact ⟨by unfold Fg; rw [if_pos h1'],rfl⟩
 ·intro h1
  replace h1:=Bw h1
  have h1':xs.all Di=true:=by simpa using h1
  have hall:∀ (k:Nat) (x:Int),xs[k]? = some x→0≤x∧x≤4503599627370496:=fun k x hx=>Da.1 (List.all_eq_true.1 h1' x (List.mem_of_getElem? hx))
  have hpos:∀ x∈xs,0≤x:=fun x hx=>(Da.1 (List.all_eq_true.1 h1' x hx)).1
  refine Ao (Aa (Af (Ae rfl rfl (Ab (Aa (An (Af (Aj rfl rfl (AV rfl AO rfl (Ad rfl rfl (Ab (Aa ?_))))))))))))
  refine Au (Bf 8384604 (α:=Nat) (fun i=>[(4,.int .i64 (CO (xs.take i))),(12,.int .i64 (i:Int))]) (fun i w'=>i≤xs.length∧w0=w'∧CO (xs.take i)≤4503599627370496) (fun i=>xs.length - i) 0 rfl ?_ ?_ ?_)
  ·exact ⟨rfl,rfl,trivial⟩
  ·exact ⟨Nat.zero_le _,rfl,by show (0:Int)≤_; omega⟩
  ·rintro i j w ⟨hi,rfl,hb⟩
   have hs0:0≤CO (xs.take i):=F1 fun y hy=>hpos y (List.mem_of_mem_take hy)
   refine Af (AZ rfl rfl rfl (Ab (Aa (An (Aq _ rfl ?_ ?_)))))
   ·intro h2
    replace h2:=AF h2
    obtain ⟨x,hx⟩:=A0 (l:=xs) (i:=i) (by omega)
    obtain ⟨hx0,hx1⟩:=hall i x hx
    have hst:=JB hx
    refine Ao (Aa (An (Au (Af (AK R rfl AO Bu rfl rfl (by omega) (by omega) (by rfl) ?_)))))
    refine Bb rfl Bt rfl ((R.fld hx rfl (j:=0) rfl)) ?_
    refine Ae rfl rfl (Ab (Aa (Af (Ad rfl rfl (Ad rfl rfl (Ap rfl rfl rfl (by omega) (by omega) ?_))))))
    rw [← hst]
    refine Ae rfl rfl (Ab (Aa (Af (Ad rfl rfl (Am rfl Lf (Ln (CO (xs.take (i+1))) _) rfl ?_)))))
    rintro v w ⟨rfl,rfl⟩
    refine B1 rfl rfl (Ab (Aa (Aq _ rfl ?_ ?_)))
    ·intro h3
     replace h3:=Bv h3
     refine Af (Ae rfl rfl (Ae rfl rfl (Ab (Aa (A8 (A1 (Al (Al (A1 (Al (Cq (v1:=(.int _ _)) (v2:=(.int _ _)) rfl rfl rfl rfl ?_)))))))))))
     have h4:Di (CO (xs.take (i+1)))=false:=by simpa using h3
     have h5:¬ CO (xs.take (i+1))≤4503599627370496:=fun h=>by
      rw [Da.2 ⟨by omega,h⟩] at h4; cases h4
     have h6:CO xs=CO (xs.take (i+1))+CO (xs.drop (i+1)):=by rw [← Gm,List.take_append_drop]
     have h7:=F1 (xs:=xs.drop (i+1)) fun y hy=>hpos y (List.mem_of_mem_drop hy)
     exact ⟨by unfold Fg; rw [if_neg (by rw [h1']; decide),if_neg (by omega)],rfl⟩
    ·intro h3
     replace h3:=Bw h3
     refine Ao (A5 (Aa (Av (Ap rfl rfl rfl (by omega) (by omega) ?_))))
     refine Ad rfl rfl (Ab (Aa ?_))
     have h4:Di (CO (xs.take (i+1)))=true:=by simpa using h3
     exact ⟨i+1,rfl,⟨rfl,rfl,trivial⟩,⟨by omega,rfl,(Da.1 h4).2⟩,by omega⟩
   ·intro h2
    replace h2:=AG h2
    refine Bc (Ak (Ak (AD (Aa (Af (Ad rfl rfl (Ae rfl rfl (Ae rfl rfl (Ab (Aa (A8 (Cq (v1:=(.int _ _)) (v2:=(.int _ _)) rfl rfl rfl rfl ?_))))))))))))
    obtain rfl:i=xs.length:=by omega
    rw [List.take_length] at hb ⊢
    exact ⟨by unfold Fg; rw [if_neg (by rw [h1']; decide),if_pos hb],rfl⟩
end Go.Proofs.YtapphbmlkdhnmaaGreat

/- Money: sums that come to nothing, shifts. -/
namespace Go.Proofs.YtapphbmlkdhnmaaGreat
open Go.GV
attribute [local irreducible] AL W Wq Wt

section
variable {P:Program} {r:Option Nat} {ops rest:List Oper} {Q:Exit→Env→World→Prop} {e:Env} {w:World} {dst:Option Tmp} {ty:TypeId} {pos:String} {af:Array Edge} {g:Option (Nat × Bool)}
/-- Go's quotient. -/
theorem Y0 {t t2:TypeId} {x y:Operand} {a b:Int} (hg:AX ⟨dst,.binOp .quo t x y t2,ty,pos,af,g⟩ ops e=true) (hx:ev e x = .int .i64 a) (hy:ev e y = .int .i64 b) (hb:0<b) (h1 : -9223372036854775808≤a.tdiv b) (h2:a.tdiv b≤9223372036854775807)
  (h:AL P r ops Q rest (put e dst (.int .i64 (a.tdiv b))) w):AL P r ops Q (⟨dst,.binOp .quo t x y t2,ty,pos,af,g⟩::rest) e w :=
 BH hg rfl (Ca hx hy (v := .int .i64 (a.tdiv b)) (by simp [binOp,Op.intDiv,show ¬ b=0 from by omega,Dv (k := .i64) (n:=a.tdiv b) h1 h2])) h
end
theorem tdm (t:Int):∃ q r,t.tdiv 4503599627370496=q∧t.tmod 4503599627370496=r∧t=4503599627370496*q+r ∧ -4503599627370496<r∧r<4503599627370496∧(-9007199254740992<t→t<9007199254740992 → -1≤q∧q≤1):=by
 refine ⟨_,_,rfl,rfl,?_⟩
 rcases Q1 t 0 with h | h
 ·obtain ⟨s,rfl⟩:∃ s,t = -s:=⟨-t,by omega⟩
  rw [Int.neg_tdiv,Int.neg_tmod,Int.tdiv_eq_ediv_of_nonneg (by omega),Int.tmod_eq_emod_of_nonneg (by omega)]
  exact ⟨by omega,by omega,by omega,fun h1 h2=>by omega⟩
 ·rw [Int.tdiv_eq_ediv_of_nonneg h,Int.tmod_eq_emod_of_nonneg h]
  exact ⟨by omega,by omega,by omega,fun h1 h2=>by omega⟩
def E4 (x:Int):Bool:=decide (-4503599627370496≤x) && decide (x≤4503599627370496)
def F2 (xs:List Int):Bool:=xs.all E4 && decide (CO xs=0)
set_option maxRecDepth 20000 in
set_option maxHeartbeats 2000000 in
theorem WE (a:Option Addr) (n c:Nat) (xs:List Int) (w:World) (R:Rd w a 1 I1 xs) (hn:xs.length=n) (hn2:n≤1000000) :
  Ret Tryz.prog 181 #[.slice a n c] w fun v w'=>v = .bool (F2 xs)∧w=w':=by
 subst hn
 obtain ⟨w0,rfl⟩:∃ w0,w0=w:=⟨_,rfl⟩
 refine A9 (fn:=Tryz.f181) Tryz.func181 rfl [.slice a xs.length c] rfl (by kernel_rfl) ?_
 refine Af (Ai rfl rfl (Ab (Aa (Af (Ae rfl rfl (Ae rfl rfl (Ab (Aa (An (Af (Aj rfl rfl ?_)))))))))))
 refine AV rfl AO rfl (Ad rfl rfl (Ab (Aa (Au (Bf 536870492 (α:=Nat × Int × Int) (fun t=>[(3,.int .i64 t.2.1),(4,.int .i64 t.2.2),(9,.int .i64 (t.1:Int))]) (fun t w'=>t.1≤xs.length∧w0=w'∧CO (xs.take t.1)=4503599627370496*t.2.1+t.2.2 ∧ -4503599627370496<t.2.2∧t.2.2<4503599627370496 ∧ -(t.1:Int)≤t.2.1∧t.2.1≤t.1∧∀ (k:Nat) (x:Int),k<t.1→xs[k]? = some x→E4 x=true) (fun t=>xs.length - t.1) (0,0,0) rfl ?_ ?_ ?_)))))
 ·exact ⟨rfl,rfl,rfl,trivial⟩
 ·exact ⟨Nat.zero_le _,rfl,rfl,by dsimp only; omega,by dsimp only; omega,by dsimp only; omega,by dsimp only; omega,fun k x h=>absurd h (Nat.not_lt_zero _)⟩
 ·rintro ⟨i,hh,ll⟩ j w ⟨hi,rfl,hs,hl1,hl2,hh1,hh2,hb⟩; dsimp only at hi hs hl1 hl2 hh1 hh2 hb; dsimp only
  refine Af (AZ rfl rfl rfl (Ab (Aa (An (Aq _ rfl ?_ ?_)))))
  ·intro h1
   replace h1:=AF h1
   obtain ⟨x,hx⟩:=A0 (l:=xs) (i:=i) (by omega)
   refine Ao (Aa (An (Au (Af (AK R rfl AO Bu rfl rfl (by omega) (by omega) (by rfl) ?_)))))
   refine Bb rfl Bt rfl ((R.fld hx rfl (j:=0) rfl)) ?_
   refine Ae rfl rfl (Ab (Aa (An (Af (BD (α:=Unit) 516096 (fun _=>[(18,.bool (!E4 x))]) (fun _ w'=>w'=w0) rfl ?_ ?_)))))
   ·refine Ad rfl rfl (AZ rfl rfl rfl (Aw rfl rfl (AE 15 rfl ?_ ?_)))
    ·intro h1
     replace h1:=AF h1
     refine Ag rfl (Ag rfl (AA rfl rfl (.bool _) rfl (Ab ?_)))
     exact ⟨rfl,(),rfl,⟨congrArg Value.bool (by unfold E4; rw [Bool.eq_iff_iff]; simp_all; try omega),trivial⟩,rfl⟩
    ·intro h2
     replace h2:=AG h2
     refine Ad rfl rfl (Ck rfl rfl rfl (A6 rfl rfl (.bool _) rfl (Ab ?_)))
     exact ⟨rfl,(),rfl,⟨congrArg Value.bool (by unfold E4; rw [Bool.eq_iff_iff]; simp_all; try omega),trivial⟩,rfl⟩
   rintro - j18 w hw
   subst hw
   refine Aq _ rfl ?_ ?_
   ·intro h2
    replace h2:=Bv h2
    refine Af (Ai rfl rfl (Ab (Aa (A8 (Al (A1 (Al (Al (A1 (Al (AB (v:=(.bool _)) rfl rfl rfl ?_)))))))))))
    refine ⟨congrArg Value.bool ?_,rfl⟩
    unfold F2
    rw [C9 hx (show E4 x=false by simpa using h2)]; rfl
   ·intro h2
    replace h2:=Bw h2
    have h2':E4 x=true:=by simpa using h2
    have h3 : -4503599627370496≤x∧x≤4503599627370496:=by unfold E4 at h2'; simpa using h2'
    have hst:=JB hx
    obtain ⟨q,r,hq,hr,he,hr1,hr2,hq2⟩:=tdm (ll+x)
    have hq3:=hq2 (by omega) (by omega)
    refine Ao (Aa (Af (Ad rfl rfl (Ad rfl rfl (Ap rfl rfl rfl (by omega) (by omega) ?_)))))
    refine Ae rfl rfl (Ab (Aa (Af (Ad rfl rfl (Ad rfl rfl (Y0 rfl rfl rfl (by decide) (by omega) (by omega) ?_))))))
    rw [hq]
    refine Ap rfl rfl rfl (by omega) (by omega) ?_
    refine Ae rfl rfl (Ab (Aa (Av (Ad rfl rfl (XK rfl rfl rfl (by decide) ?_)))))
    rw [hr]
    refine Ae rfl rfl (Ab (A5 (Aa (Av (Ap rfl rfl rfl (by omega) (by omega) ?_)))))
    refine Ad rfl rfl (Ab (Aa ?_))
    refine ⟨(i+1,hh+q,r),rfl,⟨rfl,rfl,rfl,trivial⟩,⟨by dsimp only; omega,rfl,by dsimp only; omega,hr1,hr2,by dsimp only; omega,by dsimp only; omega,fun k y hk hy=>?_⟩,by dsimp only; omega⟩
    rcases Nat.lt_or_ge k i with h7 | h7
    ·exact hb k y h7 hy
    ·obtain rfl:k=i:=by dsimp only at hk; omega
     rw [hx] at hy
     cases hy
     exact h2'
  ·intro h1
   replace h1:=AG h1
   obtain rfl:i=xs.length:=by omega
   rw [List.take_length] at hs
   have hall:xs.all E4=true:=CV fun k x hk hx=>hb k x hk hx
   refine Bc (Ak (Ak (AD (Aa (Af (Ad rfl rfl (Cu rfl rfl rfl (Aw rfl rfl (AE 31 rfl ?_ ?_)))))))))
   ·intro h3
    replace h3:=AF h3
    refine Ad rfl rfl (Cu rfl rfl rfl (AA rfl rfl (.bool _) rfl (Ai rfl rfl (Ab (Aa (A8 (AB (v:=(.bool _)) rfl rfl rfl ?_)))))))
    exact ⟨congrArg Value.bool (by unfold F2; rw [hall,Bool.true_and,Bool.eq_iff_iff]; simp_all; try omega),rfl⟩
   ·intro h4
    replace h4:=AG h4
    refine Ag rfl (Ag rfl (A6 rfl rfl (.bool _) rfl (Ai rfl rfl (Ab (Aa (A8 (AB (v:=(.bool _)) rfl rfl rfl ?_)))))))
    exact ⟨congrArg Value.bool (by unfold F2; rw [hall,Bool.true_and,Bool.eq_iff_iff]; simp_all; try omega),rfl⟩

/-! ### Shift -/
def Ct (xs ys:List Int):List Int:=List.zipWith (·+·) xs ys
/-- Its code. -/
def CA (xs ys:List Int):Int :=
 if (decide (xs.length=ys.length) && (xs.all Di && F2 ys))=false then 1 else if (Ct xs ys).all (fun x=>decide (0≤x))=false then 12 else if (Ct xs ys).all Di=false then 13 else 0
theorem Ha {xs ys:List Int} {i:Nat} {x y:Int} (hx:xs[i]? = some x) (hy:ys[i]? = some y):(Ct xs ys)[i]? = some (x+y):=by
 unfold Ct; rw [List.getElem?_zipWith,hx,hy]
theorem Nd {xs ys:List Int} {i:Nat} {x y:Int} (hx:xs[i]? = some x) (hy:ys[i]? = some y):(Ct xs ys).take (i+1)=(Ct xs ys).take i++[x+y]:=by
 rw [List.take_add_one,Ha hx hy]; rfl
set_option maxRecDepth 20000 in
set_option maxHeartbeats 4000000 in
theorem UE (a b:Option Addr) (n c m d:Nat) (xs ys:List Int) (w:World) (R:Rd w a 1 I1 xs) (hn:xs.length=n) (hn2:n≤1000000) (Ry:Rd w b 1 I1 ys) (hm:ys.length=m) (hm2:m≤1000000) :
  Ret Tryz.prog 140 #[.slice a n c,.slice b m d] w fun v w'=>∃ v',v = .tuple #[v',.int .i64 (CA xs ys)]∧(CA xs ys≠0→v' = .slice none 0 0)∧(CA xs ys=0→Fresh w w' 2 1 v' ((Ct xs ys).map FJ))∧Ext [] w w':=by
 subst hn hm
 obtain ⟨w0,rfl⟩:∃ w0,w0=w:=⟨_,rfl⟩
 have H:=Ctx.start w0 []
 refine A9 (fn:=Tryz.f140) Tryz.func140 rfl [.slice a xs.length c,.slice b ys.length d] rfl (by kernel_rfl) ?_
 refine Af (Az rfl rfl (Ae rfl rfl (Ab (Aa (An (Af (BD (α:=Unit) 33553408 (fun _=>[(24,.bool (!(decide (xs.length=ys.length) && (xs.all Di && F2 ys))))]) (fun _ w'=>w'=w0) rfl ?_ ?_)))))))
 ·refine Aj rfl rfl (AV rfl AO rfl (Aj rfl rfl (AV rfl AO rfl (Cp rfl rfl rfl (Aw rfl rfl (AE 15 rfl ?_ ?_))))))
  ·intro h1
   replace h1:=CY h1
   refine Ag rfl (Ag rfl (Ag rfl (AA rfl rfl (.bool _) rfl (Aw rfl rfl (Ag rfl (Ag rfl (Ag rfl (AA rfl rfl (.bool _) rfl (Ab ?_)))))))))
   exact ⟨rfl,(),rfl,⟨congrArg Value.bool (by generalize xs.all Di=A at *; generalize F2 ys=B at *; rw [Bool.eq_iff_iff]; simp_all; try omega),trivial⟩,rfl⟩
  ·intro h2
   replace h2:=CZ h2
   refine Aj rfl rfl (Am rfl VB (Ot a xs.length c xs _ R rfl hn2) rfl ?_)
   rintro v w ⟨rfl,rfl⟩
   refine B1 rfl rfl (A6 rfl rfl (.bool _) rfl (Aw rfl rfl (AE 20 rfl ?_ ?_)))
   ·intro h3
    replace h3:=Bv h3
    refine Ag rfl (Ag rfl (Ag rfl (AA rfl rfl (.bool _) rfl (Ab ?_))))
    exact ⟨rfl,(),rfl,⟨congrArg Value.bool (by generalize xs.all Di=A at *; generalize F2 ys=B at *; rw [Bool.eq_iff_iff]; simp_all; try omega),trivial⟩,rfl⟩
   ·intro h4
    replace h4:=Bw h4
    refine Aj rfl rfl (Am rfl Aak (WE b ys.length d ys _ Ry rfl hm2) rfl ?_)
    rintro v w ⟨rfl,rfl⟩
    refine B1 rfl rfl (A6 rfl rfl (.bool _) rfl (Ab ?_))
    exact ⟨rfl,(),rfl,⟨congrArg Value.bool (by generalize xs.all Di=A at *; generalize F2 ys=B at *; rw [Bool.eq_iff_iff]; simp_all; try omega),trivial⟩,rfl⟩
 rintro - j24 w hw
 subst w
 refine Aq _ rfl ?_ ?_
 ·intro h1
  replace h1:=Bv h1
  refine Af (Az rfl rfl (Ae rfl rfl (Ab (Aa (A8 (Al (Cq (v1:=(.slice _ _ _)) (v2:=(.int _ _)) rfl rfl rfl rfl ?_)))))))
  have h1':CA xs ys=1:=by unfold CA; rw [if_pos (by simpa using h1)]
  exact ⟨_,by rw [h1'],fun _=>rfl,(fun h=>by omega),H.ext⟩
 ·intro h1
  replace h1:=Bw h1
  have h1':(decide (xs.length=ys.length) && (xs.all Di && F2 ys))=true:=by simpa using h1
  have h1c:¬ (decide (xs.length=ys.length) && (xs.all Di && F2 ys))=false:=by rw [h1']; decide
  have hE:=h1'
  simp only [Bool.and_eq_true,decide_eq_true_eq,List.all_eq_true] at hE
  obtain ⟨hle,hma,hev⟩:=hE
  have hsm:∀ y∈ys,-4503599627370496≤y∧y≤4503599627370496:=fun y hy=>by
   unfold F2 at hev
   simp only [Bool.and_eq_true,List.all_eq_true] at hev
   have:=hev.1 y hy
   unfold E4 at this
   simpa using this
  have hlen:(Ct xs ys).length=xs.length:=by unfold Ct; rw [List.length_zipWith]; omega
  refine Ao (Aa (Af (Az rfl rfl (Ab (Aa (Af (Ae rfl rfl (Ab (Aa (An (Af (Aj rfl rfl ?_))))))))))))
  refine AV rfl AO rfl (Ad rfl rfl (Ab (Aa (Au (Bf 1125899772625904 (α:=LSt × Int) (fun t=>[(6,.slice t.1.a t.1.i t.1.c),(7,.int .i64 t.2),(27,.int .i64 (t.1.i:Int))]) (fun t w'=>t.1.i≤xs.length∧OS t.1.a t.1.i t.1.c 1 t.1.full (((Ct xs ys).take t.1.i).map FJ)∧Ctx w0 [] w' (ent t.1.a 2 t.1.full)∧(∀ (k:Nat) (x:Int),k<t.1.i→(Ct xs ys)[k]? = some x→0≤x)∧((t.2=0∧∀ (k:Nat) (x:Int),k<t.1.i→(Ct xs ys)[k]? = some x→Di x=true)∨(t.2=13∧(Ct xs ys).all Di=false))) (fun t=>xs.length - t.1.i) (⟨0,none,0,[]⟩,0) rfl ?_ ?_ ?_)))))
  ·exact ⟨rfl,rfl,rfl,trivial⟩
  ·exact ⟨Nat.zero_le _,OS.nil,H,fun k x h=>absurd h (Nat.not_lt_zero _),.inl ⟨rfl,fun k x h=>absurd h (Nat.not_lt_zero _)⟩⟩
  ·rintro ⟨⟨i,a2,c2,full⟩,ov⟩ j w ⟨hi,O,H,hp,hov⟩; dsimp only at hi O H hp hov; dsimp only
   refine Af (AZ rfl rfl rfl (Ab (Aa (An (Aq _ rfl ?_ ?_)))))
   ·intro h2
    replace h2:=AF h2
    obtain ⟨x,hx⟩:=A0 (l:=xs) (i:=i) (by omega)
    obtain ⟨y,hy⟩:=A0 (l:=ys) (i:=i) (by omega)
    have hx1:=Da.1 (hma x (List.mem_of_getElem? hx))
    have hy1:=hsm y (List.mem_of_getElem? hy)
    have hat:=Ha hx hy
    have htk:=Nd hx hy
    refine Ao (Aa (An (Au (Af (Ad rfl rfl (AK R rfl AO Bu rfl rfl (by omega) (by omega) (by rfl) ?_))))))
    refine Bb rfl Bt rfl (((R.ext0 H.ext).fld hx rfl (j:=0) rfl)) ?_
    refine Ae rfl rfl (Ae rfl rfl (Ab (Aa (Af (Ad rfl rfl (Aj rfl rfl (Ad rfl rfl (AK Ry rfl AO Bu rfl rfl (by omega) (by omega) (by rfl) ?_))))))))
    refine Bb rfl Bt rfl (((Ry.ext0 H.ext).fld hy rfl (j:=0) rfl)) ?_
    refine Ap rfl rfl rfl (by omega) (by omega) ?_
    refine Ae rfl rfl (Ab (Aa (An (Au (Af (Ad rfl rfl (AZ rfl rfl rfl (Ai rfl rfl (Ab (Aa (Aq _ rfl ?_ ?_)))))))))))
    ·intro h3
     replace h3:=AF h3
     refine Af (Az rfl rfl (Ae rfl rfl (Ab (Aa (A8 (A1 (Al (A1 (Al (Al (A1 (Al (Cq (v1:=(.slice _ _ _)) (v2:=(.int _ _)) rfl rfl rfl rfl ?_)))))))))))))
     have h4:CA xs ys=12:=by
      unfold CA
      rw [if_neg h1c,if_pos (C9 hat (by simpa using h3))]
     exact ⟨_,by rw [h4],fun _=>rfl,(fun h=>by omega),H.ext⟩
    ·intro h3
     replace h3:=AG h3
     have hp':∀ (k:Nat) (z:Int),k<i+1→(Ct xs ys)[k]? = some z→0≤z:=fun k z hk hz=>by
      rcases Nat.lt_or_ge k i with h7 | h7
      ·exact hp k z h7 hz
      ·obtain rfl:k=i:=by omega
       rw [hat] at hz; cases hz; omega
     have hO:((Ct xs ys).take (i+1)).map FJ=((Ct xs ys).take i).map FJ++[.int .i64 (x+y)]:=by rw [htk,List.map_append]; rfl
     refine Af (Ad rfl rfl (Am rfl Lf (Ln (x+y) _) rfl ?_))
     rintro v w ⟨rfl,rfl⟩
     refine B1 rfl rfl (Ai rfl rfl (Ab (Aa (Aq _ rfl ?_ ?_))))
     ·intro h4
      replace h4:=Bv h4
      have h4':Di (x+y)=false:=by simpa using h4
      refine Av (Ae rfl rfl (Ab (A5 (Aa (Av (Aj rfl rfl (Ad rfl rfl (C3 _ (.int _ _) rfl AO Bu Fa rfl (by decide) (by decide) rfl rfl rfl H ?_))))))))
      rintro b47 w - H
      refine Cl (L:=[]) rfl AO AO Bu HN Fa rfl (by decide) rfl rfl H O rfl (by simp [Bm]) (by omega) ?_
      rintro a' c' full' w H O
      refine Az rfl rfl (Ab (A5 (Aa (Av (Ap rfl rfl rfl (by omega) (by omega) ?_)))))
      refine Ad rfl rfl (Ab (Aa ?_))
      exact ⟨(⟨i+1,a',c',full'⟩,13),rfl,⟨rfl,rfl,rfl,trivial⟩,⟨by dsimp only; omega,by dsimp only; rw [hO]; exact O,H,hp',.inr ⟨rfl,C9 hat h4'⟩⟩,by dsimp only; omega⟩
     ·intro h4
      replace h4:=Bw h4
      have h4':Di (x+y)=true:=by simpa using h4
      refine Ao (A5 (Aa (Av (Aj rfl rfl (Ad rfl rfl (C3 _ (.int _ _) rfl AO Bu Fa rfl (by decide) (by decide) rfl rfl rfl H ?_))))))
      rintro b47 w - H
      refine Cl (L:=[]) rfl AO AO Bu HN Fa rfl (by decide) rfl rfl H O rfl (by simp [Bm]) (by omega) ?_
      rintro a' c' full' w H O
      refine Az rfl rfl (Ab (A5 (Aa (Av (Ap rfl rfl rfl (by omega) (by omega) ?_)))))
      refine Ad rfl rfl (Ab (Aa ?_))
      refine ⟨(⟨i+1,a',c',full'⟩,ov),rfl,⟨rfl,rfl,rfl,trivial⟩,⟨by dsimp only; omega,by dsimp only; rw [hO]; exact O,H,hp',?_⟩,by dsimp only; omega⟩
      rcases hov with ⟨h5,h6⟩ | h5
      ·refine .inl ⟨h5,fun k z hk hz=>?_⟩
       rcases Nat.lt_or_ge k i with h7 | h7
       ·exact h6 k z h7 hz
       ·obtain rfl:k=i:=by dsimp only at hk; omega
        rw [hat] at hz; cases hz; exact h4'
      ·exact .inr h5
   ·intro h2
    replace h2:=AG h2
    obtain rfl:i=xs.length:=by omega
    have hpa:¬ (Ct xs ys).all (fun x=>decide (0≤x))=false:=by
     rw [CV fun k x hk hx=>decide_eq_true (hp k x (by omega) hx)]; decide
    rw [show (Ct xs ys).take xs.length=Ct xs ys by rw [← hlen,List.take_length]] at O
    refine Bc (Ak (Ak (AD (Aa (An (Af (Ad rfl rfl (Cp rfl rfl rfl (Ab (Aa (Aq _ rfl ?_ ?_)))))))))))
    ·intro h3
     replace h3:=CY h3
     rcases hov with ⟨h5,-⟩ | ⟨rfl,h6⟩
     ·exact absurd h5 h3
     ·refine Af (Ad rfl rfl (Az rfl rfl (Ae rfl rfl (Ab (Aa (A8 (Al (Cq (v1:=(.slice _ _ _)) (v2:=(.int _ _)) rfl rfl rfl rfl ?_))))))))
      have h4:CA xs ys=13:=by unfold CA; rw [if_neg h1c,if_neg hpa,if_pos h6]
      exact ⟨_,by rw [h4],fun _=>rfl,(fun h=>by omega),H.ext⟩
    ·intro h3
     replace h3:=CZ h3
     refine Ao (Aa (Af (Aj rfl rfl (Az rfl rfl (Ae rfl rfl (Ab (Aa (A8 (Cq (v1:=(.slice _ _ _)) (v2:=(.int _ _)) rfl rfl rfl rfl ?_)))))))))
     have h4:CA xs ys=0:=by
      unfold CA
      rcases hov with ⟨-,h6⟩ | ⟨h5,-⟩
      ·rw [if_neg h1c,if_neg hpa,if_neg (by rw [CV fun k x hk hx=>h6 k x (by omega) hx]; decide)]
      ·omega
     exact ⟨_,by rw [h4],(fun h=>absurd h4 h),(fun _=>Ctx.fresh (L:=[]) H O),H.ext⟩
end Go.Proofs.YtapphbmlkdhnmaaGreat

/- Keys of the dues' map, in whatever order. -/
namespace Go.Proofs.YtapphbmlkdhnmaaGreat
open Go.GV
attribute [local irreducible] AL W Wq Wt

structure DueK (b2 b:Nat) (o:Obj) (w:World):Prop where
 h2:w.heap[b2]? = some (Bl 121 [.map (some b)])
 hb:w.heap[b]? = some o
def Zo (m:List (Int × Value)) (vis:List (Int × Value)) (v:List Value) (vis':List (Int × Value)):Prop:=∃ p,vis'=vis++[p]∧v=[.int .u64 p.1]∧p∈m∧vis.length<m.length
set_option maxRecDepth 20000 in
set_option maxHeartbeats 2000000 in
theorem WF {b2 b:Nat} {o:Obj} {m:List (Int × Value)} (hM:D8 .u64 m o):Tn Tryz.prog 123 #[ptr b2] [] (fun _ w=>DueK b2 b o w) ([]:List (Int × Value)) (Zo m) (fun vis=>vis.Perm m) (fun _=>True):=by
 intro l w _ J E hJ0 hJs hEs hK hY
 obtain ⟨M0,hJ0⟩:=hJ0
 obtain ⟨w0,rfl⟩:∃ w0,w0=w:=⟨_,rfl⟩
 have H:=Ctx.start w0 []
 refine A9 (fn:=Tryz.f123) Tryz.func123 rfl [.func (.yield l) #[] #[],.pointer (some ⟨b2,0,none⟩)] rfl (by kernel_rfl) ?_
 have K0:=(hK _ _ _ hJ0).2
 refine Af (Bb rfl Gq rfl ((by rw [Ay K0.h2]; rfl)) ?_)
 refine Qi rfl GN rfl H K0.hb hM ?_
 rintro bi it w hV H
 refine Ab (Aa (Au ?_))
 have hbi:w0.heap.size≤bi:=(H.own (bi,it) (List.mem_cons_self ..)).elim (fun h=>by cases h) id
 have hJ1:=hJs _ _ _ _ [] hJ0 (fun x hx=>by cases hx) H.ext
 have hM0:¬ M0 bi:=fun h=>by
  have:=(hK _ _ _ hJ0).1 bi h; omega
 refine Bf 16328 (α:=List (Int × Value) × Obj) (fun _=>[]) (fun z w'=>VisO .u64 b m z.1 o z.2∧∃ M,J z.1 M w'∧¬ M bi∧w'.heap[bi]? = some z.2) (fun z=>m.length - z.1.length) (([]:List (Int × Value)),it) rfl ?_ ?_ ?_
 ·exact trivial
 ·exact ⟨hV,M0,hJ1,hM0,H.get at0⟩
 ·rintro ⟨vis,it⟩ j w ⟨hV,M,hJ,hMb,hit⟩; dsimp only at hV hJ hit; dsimp only
  have KK:=(hK _ _ _ hJ).2
  obtain ⟨w1,rfl⟩:∃ w1,w1=w:=⟨_,rfl⟩
  have H:=Ctx.start1 hit
  have hT:∀ x∈[bi],¬ M x∧w0.heap.size≤x:=fun x hx=>by rw [List.mem_singleton] at hx; subst hx; exact ⟨hMb,hbi⟩
  refine Af (Tp rfl (fun _=>rfl) rfl H KK.hb at0 hV ?_)
  rintro vs more it' w hc H
  skip
  refine Ab (Aa (An (Aq _ rfl ?_ ?_)))
  ·intro h1
   obtain ⟨p,hV'⟩:∃ p,VisO .u64 b m (vis++[p]) o it':=hc.elim (fun h=>by rw [h.1] at h1; cases h1) fun h=>h.2
   have hJw:=hJs _ _ _ _ [bi] hJ hT H.ext
   have KR:=(hK _ _ _ hJw).2
   have hle:=hV'.le
   rw [List.length_append] at hle
   have hst:Zo m vis [.int .u64 p.1] (vis++[p]):=⟨p,rfl,rfl,hV'.mem p (by simp),by simp at hle; omega⟩
   refine Ao (Aa (Au (Af (Qj rfl rfl H KR.hb at0 hV' ?_))))
   refine A3 rfl rfl rfl (Ae rfl rfl (Ab (Aa ?_)))
   have hY1:=hY vis [.int .u64 p.1] (vis++[p]) M w hst hJw
   refine Af (D0 rfl (.func _ _ _) rfl ?_)
   refine Ad rfl rfl (Gd (vs:=[.int .u64 p.1]) rfl rfl hY1 rfl ?_)
   rintro u w hu
   obtain ⟨bb,rfl,hu1,hu0⟩:∃ bb,u = .bool bb∧(bb=true→∃ M,J (vis++[p]) M w∧¬ M bi∧w.heap[bi]? = some it')∧(bb=false→E w):=hu.elim (fun h=>⟨true,h.1,fun _=>let ⟨M',h1,g⟩:=h.2; ⟨M',h1,fun hx=>(g.new _ hx).elim hMb (fun h=>by have:=H.lt at0; omega),g.to (H.get at0) hMb⟩,fun h=>by cases h⟩) (fun h=>⟨false,h.1,(fun h=>by cases h),fun _=>h.2⟩)
   refine B1 rfl rfl (Ab (Aa (Aq _ rfl ?_ ?_)))
   ·intro h2
    replace h2:=Bv h2
    refine A8 (A1 (Al (A1 (Fp rfl rfl ?_))))
    exact .inr (hu0 (by simpa using h2))
   ·intro h2
    replace h2:=Bw h2
    refine Ao (A5 (Aa ?_))
    exact ⟨(vis++[p],it'),rfl,trivial,⟨hV',hu1 (by simpa using h2)⟩,by dsimp only; rw [List.length_append]; simp; simp at hle; omega⟩
  ·intro h1
   obtain ⟨hp,rfl⟩:vis.Perm m∧it'=it:=hc.elim (fun h=>h.2) fun h=>by rw [h.1] at h1; cases h1
   refine Bc (Ak (Ak (AD (Db rfl rfl ?_))))
   exact .inl ⟨vis,M,hp,hJs _ _ _ _ [bi] hJ hT H.ext⟩
end Go.Proofs.YtapphbmlkdhnmaaGreat

/- The keys of the dues' map: gathered, sorted. -/
namespace Go.Proofs.YtapphbmlkdhnmaaGreat
open Go.GV
attribute [local irreducible] AL W Wq Wt

def Hk (x:Int):Value := .int .u64 x
/-- A slice of numbers of 64 bits that the call has made. -/
structure FreshU (w w':World) (v:Value) (l:List Int):Prop where
 ex:∃ a n c full,v = .slice a n c∧OS a n c 1 full (l.map Hk)∧(∀ x∈full,∃ z,x=Hk z)∧∀ x∈ent a 24 full,w'.heap[x.1]? = some x.2∧w.heap.size≤x.1
 ext:Ext [] w w'
def TJ (bk:Nat):Value := .func (.func 123) #[] #[ptr bk]
theorem Y1 {b:Nat} (w:World):Ret Tryz.prog 62 #[.map (some b)] w fun v w'=>∃ bk,v=TJ bk∧w'.heap[bk]? = some (Bl 121 [.map (some b)])∧w.heap.size≤bk∧Ext [] w w':=by
 obtain ⟨w0,rfl⟩:∃ w0,w0=w:=⟨_,rfl⟩
 have H:=Ctx.start w0 []
 refine A9 (fn:=Tryz.f62) Tryz.func62 rfl [.map (some b)] rfl (by kernel_rfl) ?_
 refine Af (BC rfl _ (.map _) rfl rfl H ?_)
 rintro b1 w - H
 refine Df rfl .nilFunc rfl ?_
 refine Ab (Aa (Af (Dn rfl [.pointer _] rfl (Df rfl (.func _ _ _) rfl ?_))))
 refine Ab (Aa (A8 (AB (v:=(.func _ _ _)) rfl rfl rfl ?_)))
 exact ⟨_,rfl,H.get at0,(H.own _ (List.mem_cons_self ..)).elim (fun h=>by cases h) id,H.ext⟩

/-- What the rounds leave. -/
def appJ (w0:World) (bk b bb k:Nat) (o:Obj) (vis:List (Int × Value)) (M:Mt) (w:World):Prop :=
 ∃ a c full,(M=fun y=>y∈((bb,Bl 25 [.slice a vis.length c])::ent a 24 full).map (·.1))∧Ctx w0 [] w ((bb,Bl 25 [.slice a vis.length c])::ent a 24 full) ∧
  OS a vis.length c 1 full (vis.map fun p=>Hk p.1)∧(∀ x∈full,∃ z,x=Hk z)∧DueK bk b o w∧∀ y∈((bb,Bl 25 [.slice a vis.length c])::ent a 24 full).map (·.1),y≠k∧y≠k+1
set_option maxRecDepth 20000 in
set_option maxHeartbeats 2000000 in
theorem UF {bk b:Nat} {o:Obj} {m:List (Int × Value)} (hM:D8 .u64 m o) (hm:m.length≤1000000) (w:World) (K:DueK bk b o w) :
  Ret Tryz.prog 173 #[.slice none 0 0,TJ bk] w fun v w'=>∃ vis:List (Int × Value),vis.Perm m∧FreshU w w' v (vis.map (·.1)):=by
 obtain ⟨w0,rfl⟩:∃ w0,w0=w:=⟨_,rfl⟩
 have H:=Ctx.start w0 []
 have lk:=Bp K.h2
 have lb:=Bp K.hb
 refine G5 (fn:=Tryz.f173) Tryz.func173 rfl [.slice none 0 0,.func (.func 123) #[] #[.pointer (some ⟨bk,0,none⟩)]] rfl (by kernel_rfl) ?_
 refine Af (BC rfl _ (.slice _ _ _) rfl rfl H ?_)
 rintro b2 w - H
 refine Az rfl rfl (Ab (Aa (An (Af (D0 rfl (.func _ _ _) rfl ?_)))))
 refine Ab (Aa (Au ?_))
 obtain ⟨ws,rfl⟩:∃ z,z=w:=⟨_,rfl⟩
 have hb2:=(H.own _ (List.mem_cons_self ..)).elim (fun h=>by cases h) id
 have l2:=H.lt at0
 have hsz:=H.size
 dsimp only at hb2
 have K2:DueK bk b o ws:=⟨H.ext.to K.h2 (by simp),H.ext.to K.hb (by simp)⟩
 refine Vy (gf:=123) rfl ZC (WF (b2:=bk) (b:=b) hM) (by kernel_rfl) (by kernel_rfl) (fun vis v vis' h=>by obtain ⟨p,-,rfl,-⟩:=h; rfl)
  (appJ w0 bk b b2 ws.heap.size o) (fun _=>False) (by simp) (fun _ _=>True.intro)
  (fun w2 hx2 _=>⟨_,none,0,[],rfl,H.call hx2,OS.nil,by simp,⟨hx2.to K2.h2 (by simp),hx2.to K2.hb (by simp)⟩,by simp [ent]; omega⟩)
  (fun vis M w' w'' T hJ hT hx=>?_) (fun _ _ h _=>h) (fun vis M w' hJ=>?_) ?_ ?_ (fun _ h _=>h.elim)
 ·obtain ⟨a,c,full,hMM,HJ,O,Z,KJ,hne⟩:=hJ
  refine ⟨a,c,full,hMM,HJ.step hx (fun y hy hy2=>(hT _ hy2).1 (by rw [hMM]; exact List.mem_map_of_mem (f:=(·.1)) hy)) (fun x hx => .inr (by have:=(hT x hx).2; omega)),O,Z,⟨hx.to KJ.h2 (fun h=>by have:=(hT _ h).2; omega),hx.to KJ.hb (fun h=>by have:=(hT _ h).2; omega)⟩,hne⟩
 ·obtain ⟨a,c,full,hMM,HJ,O,Z,KJ,hne⟩:=hJ
  refine ⟨fun x hx=>?_,KJ⟩
  rw [hMM] at hx
  obtain ⟨y,hy,rfl⟩:=List.mem_map.1 hx
  exact ⟨Bp (HJ.blk y hy),hne _ hx⟩
 ·rintro vis v vis' M w ⟨p,rfl,rfl,hpm,hvl⟩ ⟨a,c,full,rfl,HJ,O,Z,KJ,hne⟩ hsz2
  obtain ⟨w1,rfl⟩:∃ z,z=w:=⟨_,rfl⟩
  refine Av (Ae rfl rfl (Ab ?_))
  refine ⟨Ext.refl _ _,fun wB hxB=>?_⟩
  have HB:=HJ.step hxB (fun y hy h=>(hne _ (List.mem_map_of_mem (f:=(·.1)) hy)).2 (List.mem_singleton.1 h)) (fun z hz => .inr (by rw [List.mem_singleton.1 hz]; omega))
  have KB:DueK bk b o wB:=⟨hxB.to KJ.h2 (by rw [List.mem_singleton]; omega),hxB.to KJ.hb (by rw [List.mem_singleton]; omega)⟩
  have hown:∀ y∈((b2,Bl 25 [.slice a vis.length c])::ent a 24 full).map (·.1),w0.heap.size≤y:=fun y hy=>by
   obtain ⟨z,hz,rfl⟩:=List.mem_map.1 hy
   exact (HJ.own z hz).elim (fun h=>by cases h) id
  have hsB:=hxB.size
  obtain ⟨w2,rfl⟩:∃ z,z=wB:=⟨_,rfl⟩
  rw [← List.append_nil ((b2,Bl 25 [.slice a vis.length c])::ent a 24 full)] at HB
  have H:=Ctx.lend (L1:=(b2,Bl 25 [.slice a vis.length c])::ent a 24 full) (L2:=[]) HB
  obtain ⟨SS,hSS⟩:∃ SS,SS=((b2,Bl 25 [.slice a vis.length c])::ent a 24 full).map (·.1):=⟨_,rfl⟩
  rw [← hSS] at H
  refine Au (Av (AN rfl Kz rfl H at0 rfl (Ad rfl rfl (C3 _ (.int _ _) rfl Bz Bo Ob rfl (by decide) (by decide) rfl rfl rfl H ?_))))
  rintro b10 w - H
  refine Qo (L:=[_]) rfl Bz Bz Bo V1 Ob rfl (by decide) rfl rfl H O rfl (by simp [Bm]) (by omega) ?_
  rintro a' c' full' w H O Z2
  refine Cy (.slice _ _ _) rfl sz_25 rfl rfl rfl H at0 (by (simp; done)) ?_
  rintro w H
  refine Ab (A5 ?_)
  have hl:(vis++[p]).length=vis.length+1:=by rw [List.length_append]; rfl
  rw [hSS] at H
  have HE:=H.ext
  refine ⟨_,⟨a',c',full',rfl,by rw [hl,← List.append_nil (_::ent a' _ full')]; exact Ctx.back HB H,by rw [hl,List.map_append]; exact O,fun x hx=>?_,⟨HE.to KB.h2 fun h=>by have:=hown _ h; omega,HE.to KB.hb fun h=>by have:=hown _ h; omega⟩,fun y hy=>?_⟩,fun y hy=>?_,_,HE,fun y hy => .inl hy⟩
  ·rcases Z2 x hx with h | h | h
   ·exact Z x h
   ·exact ⟨_,List.mem_singleton.1 h⟩
   ·exact ⟨_,List.mem_singleton.1 h⟩
  ·rw [hl] at hy
   obtain ⟨z,hz,rfl⟩:=List.mem_map.1 hy
   rcases H.own z hz with h | h
   ·exact hne _ h
   ·omega
  ·rw [hl] at hy
   obtain ⟨z,hz,rfl⟩:=List.mem_map.1 hy
   exact (H.own z hz).imp id fun h=>by omega
 ·rintro vis M w hp ⟨a,c,full,rfl,HJ,O,Z,KJ,hne⟩ hD
  have H:=HJ
  refine A5 (Aa (Af (AN rfl Kz rfl H at0 rfl (Az rfl rfl (Ab (Aa (A8 (Ku (v:=(.slice _ _ _)) rfl rfl (G6 hD rfl fun wF hxF=>?_)))))))))
  have HF:=H.step hxF (fun y hy h=>(hne _ (List.mem_map_of_mem (f:=(·.1)) hy)).1 (List.mem_singleton.1 h)) (fun z hz => .inr (by rw [List.mem_singleton.1 hz]; omega))
  refine ⟨vis,hp,⟨a,vis.length,c,full,rfl,by rw [List.map_map]; exact O,Z,fun x hx=>⟨HF.blk x (List.mem_cons_of_mem _ hx),(HF.own x (List.mem_cons_of_mem _ hx)).elim (fun h=>by cases h) id⟩⟩,HF.ext⟩
end Go.Proofs.YtapphbmlkdhnmaaGreat

/- The keys of the dues' map, sorted; the dues' amounts. -/
namespace Go.Proofs.YtapphbmlkdhnmaaGreat
open Go.GV
attribute [local irreducible] AL W Wq Wt

theorem S4 {bk b:Nat} {o:Obj} {m:List (Int × Value)} (hM:D8 .u64 m o) (hm:m.length≤1000000) (w:World) (K:DueK bk b o w) :
  Ret Tryz.prog 121 #[TJ bk] w fun v w'=>∃ vis:List (Int × Value),vis.Perm m∧FreshU w w' v (vis.map (·.1)):=by
 obtain ⟨w0,rfl⟩:∃ w0,w0=w:=⟨_,rfl⟩
 refine A9 (fn:=Tryz.f121) Tryz.func121 rfl [.func (.func 123) #[] #[.pointer (some ⟨bk,0,none⟩)]] rfl (by kernel_rfl) ?_
 refine Af (Az rfl rfl (Ab (Aa (Af (D0 rfl (.func _ _ _) rfl ?_)))))
 refine Am rfl Aah (UF hM hm _ K) rfl ?_
 rintro v w ⟨vis,hp,F⟩
 obtain ⟨a,n,c,full,rfl,O,Z,hb⟩:=F.ex
 refine Az rfl rfl (Ab (Aa (A8 (AB (v:=(.slice _ _ _)) rfl rfl rfl ?_))))
 exact ⟨vis,hp,F⟩
theorem WG {x y:Int} (h:Hk x=Hk y):x=y:=by unfold Hk at h; injection h
theorem TK:∀ (l:List Value),(∀ x∈l,∃ z,x=Hk z)→∃ zs:List Int,l=zs.map Hk
 | [],_=>⟨[],rfl⟩
 | x::l,h=>by
  obtain ⟨z,rfl⟩:=h x (List.mem_cons_self ..)
  obtain ⟨zs,rfl⟩:=TK l fun y hy=>h y (List.mem_cons_of_mem _ hy)
  exact ⟨z::zs,rfl⟩
theorem Ou:∀ {l m:List Int},l.map Hk=m.map Hk→l=m
 | [],[],_=>rfl
 | [],_::_,h=>by cases h
 | _::_,[],h=>by cases h
 | x::l,y::m,h=>by
  simp only [List.map_cons,List.cons.injEq] at h
  rw [WG h.1,Ou h.2]
theorem Nf (f:Nat→Int) (n:Nat):CH f n=(tab f n).map Hk:=by unfold tab; rw [List.map_map]; rfl
theorem QH (f:Nat→Int) {n m:Nat} (h:n≤m):(tab f m).take n=tab f n:=by
 unfold tab
 rw [← List.map_take,List.take_range,Nat.min_eq_left h]
theorem Abz {g:Nat→Int} {n:Nat} (h:IL g 0 n):(tab g n).Pairwise (·≤·):=by
 rw [List.pairwise_iff_getElem]
 intro i j hi hj hij
 rw [CQ] at hi hj
 have h1:=BN (f:=g) hi
 have h2:=BN (f:=g) hj
 rw [List.getElem?_eq_getElem (by rw [CQ]; exact hi)] at h1
 rw [List.getElem?_eq_getElem (by rw [CQ]; exact hj)] at h2
 injection h1 with h1
 injection h2 with h2
 rw [h1,h2]
 exact h i j (Nat.zero_le _) hij hj
theorem sortF {a:Option Addr} {n c:Nat} {full:List Value} {l:List Int} (w:World) (O:OS a n c 1 full (l.map Hk)) (Z:∀ x∈full,∃ z,x=Hk z) (hb:∀ x∈ent a 24 full,w.heap[x.1]? = some x.2) (hn:n≤1000000000) :
  Ret Tryz.prog 122 #[.slice a n c] w fun v w'=>v = .tuple #[]∧∃ (full':List Value) (l':List Int),l'.Perm l∧l'.Pairwise (·≤·)∧OS a n c 1 full' (l'.map Hk)∧(∀ x∈full',∃ z,x=Hk z)∧(∀ x∈ent a 24 full',w'.heap[x.1]? = some x.2)∧Ext ((ent a 24 full).map (·.1)) w w':=by
 cases a with
 | none =>
  obtain rfl:n=0:=by have:=O.none' rfl; have:=O.le; omega
  have hl:l=[]:=by have:=O.llen; rw [List.length_map] at this; exact List.eq_nil_of_length_eq_zero (by omega)
  subst hl
  refine Ret.mono (S2 c w) ?_
  rintro v w' ⟨rfl,rfl⟩
  exact ⟨rfl,full,[],List.Perm.refl _,.nil,O,Z,hb,Ext.refl _ _⟩
 | some p =>
  have hp:=O.zero p rfl
  obtain ⟨q,o,sp⟩:=p
  simp only [Addr.mk.injEq,true_and] at hp
  obtain ⟨rfl,rfl⟩:=hp
  obtain ⟨zs,rfl⟩:=TK full Z
  have hlen:=O.len
  rw [List.length_map,Nat.mul_one] at hlen
  have hpre:=O.pre
  rw [Nat.mul_one,← List.map_take] at hpre
  have hpre:=Ou hpre
  have hzs:tab (fun i=>zs.getD i 0) c=zs:=by rw [← hlen]; exact Abs zs
  have hb0:w.heap[q]? = some (Bl 24 (CH (fun i=>zs.getD i 0) c)):=by
   rw [Nf,hzs]
   exact hb (q,Bl 24 (zs.map Hk)) (List.mem_singleton.2 rfl)
  refine Ret.mono (WD (c:=c) hb0 O.le hn) ?_
  rintro v w' ⟨rfl,g,hP,hS,H⟩
  have hS0:((ent (some ⟨q,0,none⟩) 24 (zs.map Hk)).map (·.1))=[q]:=by simp [ent]
  refine ⟨rfl,CH g c,tab g n,?_,Abz hS,⟨O.zero,O.none',by simp,O.le,?_⟩,fun x hx=>?_,fun x hx=>?_,by rw [hS0]; exact H.ext⟩
  ·rw [← QH (fun i=>zs.getD i 0) O.le,hzs,hpre] at hP
   exact hP
  ·rw [Nat.mul_one,Nf,← List.map_take,QH g O.le]
  ·rw [Nf,List.mem_map] at hx
   obtain ⟨z,_,rfl⟩:=hx
   exact ⟨z,rfl⟩
  ·simp only [ent,List.mem_singleton] at hx
   subst hx
   exact H.get at0
theorem UG {bk b:Nat} {o:Obj} {m:List (Int × Value)} (hM:D8 .u64 m o) (hm:m.length≤1000000) (w:World) (K:DueK bk b o w) :
  Ret Tryz.prog 61 #[TJ bk] w fun v w'=>∃ l:List Int,l.Perm (m.map (·.1))∧l.Pairwise (·≤·)∧FreshU w w' v l:=by
 obtain ⟨w0,rfl⟩:∃ w0,w0=w:=⟨_,rfl⟩
 refine A9 (fn:=Tryz.f61) Tryz.func61 rfl [.func (.func 123) #[] #[.pointer (some ⟨bk,0,none⟩)]] rfl (by kernel_rfl) ?_
 refine Af (Az rfl rfl (Ab (Aa (Af (D0 rfl (.func _ _ _) rfl ?_)))))
 refine Am rfl ZA (S4 hM hm _ K) rfl ?_
 rintro v w ⟨vis,hp,F⟩
 obtain ⟨a,n,c,full,rfl,O,Z,hb⟩:=F.ex
 have hx5:=F.ext
 have hvn:=O.llen
 have hvm:=hp.length_eq
 rw [List.length_map,List.length_map] at hvn
 refine Az rfl rfl (Ab (Aa (Af (Aj rfl rfl (Am rfl ZB (sortF _ O Z (fun x hx=>(hb x hx).1) (by omega)) rfl ?_)))))
 rintro v w ⟨rfl,full',l',hP,hS,O',Z',hb',hx7⟩
 refine Ab (Aa (Af (Aj rfl rfl (Az rfl rfl (Ab (Aa (A8 (AB (v:=(.slice _ _ _)) rfl rfl rfl ?_))))))))
 refine ⟨l',hP.trans (hp.map _),hS,⟨_,_,_,_,rfl,O',Z',fun x hx=>⟨hb' x hx,?_⟩⟩,hx5.then hx7 fun x hx=>?_⟩
 ·cases a with
  | none=>simp [ent] at hx
  | some p =>
   simp only [ent,List.mem_singleton] at hx
   subst hx
   exact (hb (p.block,Bl 24 full) (by simp [ent])).2
 ·obtain ⟨y,hy,rfl⟩:=List.mem_map.1 hx
  exact .inr (hb y hy).2
end Go.Proofs.YtapphbmlkdhnmaaGreat

/- The dues: amounts. -/
namespace Go.Proofs.YtapphbmlkdhnmaaGreat
open Go.GV
attribute [local irreducible] AL W Wq Wt

structure Du where
 id:Int
 fr:Int
 to:Int
 am:Int
 we:Int
 un:Int
 held:Bool
instance:DecidableEq Du:=fun x y=>if h:x.id=y.id∧x.fr=y.fr∧x.to=y.to∧x.am=y.am∧x.we=y.we∧x.un=y.un∧x.held=y.held then isTrue (by cases x; cases y; simp_all) else isFalse fun e=>h (by subst e; exact ⟨rfl,rfl,rfl,rfl,rfl,rfl,rfl⟩)
abbrev Cf (d:Du):List Value:=[.int .u64 d.id,.int .i64 d.fr,.int .i64 d.to,.int .i64 d.am,.int .i64 d.we,.int .i64 d.un,.bool d.held]
abbrev Gv (d:Du):Value := .agg #[.int .u64 d.id,.int .i64 d.fr,.int .i64 d.to,.int .i64 d.am,.int .i64 d.we,.int .i64 d.un,.bool d.held]
theorem DM (d:Du):∀ v∈Cf d,Bm v=true:=by simp [Cf,Bm]
def dm (ds:List Du):List (Int × Value):=ds.map fun d=>(d.id,Gv d)
theorem Ab0 {ds:List Du} {p:Int × Value} (h:p∈dm ds):∃ d∈ds,p=(d.id,Gv d):=by
 obtain ⟨d,hd,rfl⟩:=List.mem_map.1 h
 exact ⟨d,hd,rfl⟩
def amV (p:Int × Value):Int:=match p.2 with
 | .agg vs=>match vs.toList with | [_,_,_,.int _ x,_,_,_]=>x | _=>0
 | _=>0
theorem Ab1 (ds:List Du):(dm ds).map amV=ds.map (·.am):=by unfold dm; rw [List.map_map]; rfl
abbrev DU (b:Nat) (nx:Int):List Value:=[.map (some b),.int .u64 nx]
structure VSt where
 vis:List (Int × Value)
 it:Obj
 a:Option Addr
 c:Nat
 full:List Value
set_option maxRecDepth 20000 in
set_option maxHeartbeats 2000000 in
theorem Ng {bd b:Nat} {nx:Int} {o:Obj} {ds:List Du} (w:World) (hd:w.heap[bd]? = some (Bl 123 (DU b nx))) (hb:w.heap[b]? = some o) (hM:D8 .u64 (dm ds) o) (hn:ds.length≤1000000) :
  Ret Tryz.prog 113 #[ptr bd] w fun v w'=>∃ l:List Int,l.Perm (ds.map (·.am))∧Fresh w w' 2 1 v (l.map FJ):=by
 obtain ⟨w0,rfl⟩:∃ w0,w0=w:=⟨_,rfl⟩
 have H:=Ctx.start w0 []
 have hdl:(dm ds).length=ds.length:=by unfold dm; rw [List.length_map]
 refine A9 (fn:=Tryz.f113) Tryz.func113 rfl [.pointer (some ⟨bd,0,none⟩)] rfl (by kernel_rfl) ?_
 refine Af (Az rfl rfl (Ab (Aa (Af (Az rfl rfl (Ab (Aa (An (Af (A2 rfl rfl (AJ rfl rfl ?_)))))))))))
 refine Ah rfl EQ rfl (Bb rfl Gq rfl ((by rw [Ay hd]; rfl)) ?_)
 refine Qi rfl GN rfl H hb hM ?_
 rintro bi it w hV H
 refine Ab (Aa (Au (Bf 1046568 (α:=VSt) (fun t=>[(3,.slice t.a t.vis.length t.c)]) (fun t w'=>VisO .u64 b (dm ds) t.vis o t.it∧OS t.a t.vis.length t.c 1 t.full ((t.vis.map amV).map FJ)∧Ctx w0 [] w' ((bi,t.it)::ent t.a 2 t.full)) (fun t=>(dm ds).length - t.vis.length) ⟨[],it,none,0,[]⟩ rfl ?_ ?_ ?_)))
 ·exact ⟨rfl,trivial⟩
 ·exact ⟨hV,OS.nil,H⟩
 ·rintro ⟨vis,it,a,c,full⟩ j w ⟨hV,O,H⟩; dsimp only at hV O H; dsimp only
  refine Af (Tp rfl (fun _=>rfl) rfl H (H.ext.to hb (by simp)) at0 hV ?_)
  rintro vs more it' w hc H1
  clear H
  have H:Ctx w0 [] w ((bi,it')::ent a 2 full):=H1
  clear H1
  skip
  refine Ab (Aa (An (Aq _ rfl ?_ ?_)))
  ·intro h1
   obtain ⟨p,hV'⟩:∃ p,VisO .u64 b (dm ds) (vis++[p]) o it':=hc.elim (fun h=>by rw [h.1] at h1; cases h1) fun h=>h.2
   obtain ⟨d,hd2,rfl⟩:=Ab0 (hV'.mem p (by simp))
   have hle:=hV'.le
   rw [hdl] at hle
   have hl1:(vis++[(d.id,Gv d)]).length=vis.length+1:=by rw [List.length_append]; rfl
   rw [hl1] at hle
   refine Ao (Aa (Au (Af (Uo rfl rfl H (H.ext.to hb (by simp)) at0 hV' ?_))))
   refine A3 rfl rfl rfl (Bj rfl Eh H ?_)
   rintro b5 w - H
   refine B5 rfl B2 rfl rfl rfl (by exact DM _) H at0 rfl ?_
   rintro w H
   refine Ab (Aa (Av (Aj rfl rfl (Ah rfl Dp rfl (AN rfl Bt rfl H at0 rfl (C3 _ (.int _ _) rfl AO Bu Fa rfl (by decide) (by decide) rfl rfl rfl H ?_))))))
   rintro b18 w - H
   refine Cl (L:=[_,_]) rfl AO AO Bu HN Fa rfl (by decide) rfl rfl H O rfl (by simp [Bm]) (by omega) ?_
   rintro a' c' full' w H O
   refine Az rfl rfl (Ab (A5 (Aa ?_)))
   exact ⟨⟨vis++[(d.id,Gv d)],it',a',c',full'⟩,rfl,⟨by dsimp only; rw [hl1]; rfl,trivial⟩,⟨hV',by dsimp only; rw [hl1,List.map_append,List.map_append]; exact O,H.tail⟩,by dsimp only; rw [hl1,hdl]; omega⟩
  ·intro h1
   obtain ⟨hp,rfl⟩:vis.Perm (dm ds)∧it'=it:=hc.elim (fun h=>h.2) fun h=>by rw [h.1] at h1; cases h1
   refine Bc (Ak (Ak (AD (Aa (Af (Aj rfl rfl (Az rfl rfl (Ab (Aa (A8 (AB (v:=(.slice _ _ _)) rfl rfl rfl ?_)))))))))))
   refine ⟨vis.map amV,?_,Ctx.fresh (L:=[_]) H O⟩
   rw [← Ab1]
   exact hp.map _
end Go.Proofs.YtapphbmlkdhnmaaGreat

/- The dues, listed. -/
namespace Go.Proofs.YtapphbmlkdhnmaaGreat
open Go.GV
attribute [local irreducible] AL W Wq Wt

def d00:Du:=⟨0,0,0,0,0,0,false⟩
def IJ (ds:List Du) (k:Int):Du:=(ds.find? fun d=>d.id == k).getD d00
theorem Lo {d:Du}:∀ {ds:List Du},(ds.map (·.id)).Nodup→d∈ds→IJ ds d.id=d
 | x::ds,hn,h=>by
  simp only [List.map_cons,List.nodup_cons] at hn
  unfold IJ
  by_cases e:x.id=d.id
  ·rcases List.mem_cons.1 h with rfl | h
   ·simp
   ·exact absurd (List.mem_map_of_mem (f:=(·.id)) h) (by rw [← e]; exact hn.1)
  ·rcases List.mem_cons.1 h with rfl | h
   ·exact absurd rfl e
   ·have:=Lo hn.2 h
    unfold IJ at this
    rw [List.find?_cons,show (x.id == d.id)=false by simpa using e]
    exact this
theorem WH {ds:List Du} (hn:(ds.map (·.id)).Nodup):(ds.map (·.id)).map (IJ ds)=ds:=by
 rw [List.map_map]
 have:ds.map (IJ ds ∘ (·.id))=ds.map id:=List.map_congr_left fun d hd=>Lo hn hd
 rw [this,List.map_id]
theorem TL {d:Du}:∀ {ds:List Du},(ds.map (·.id)).Nodup→d∈ds→Ei (dm ds) d.id=some (Gv d)
 | x::ds,hn,h=>by
  simp only [List.map_cons,List.nodup_cons] at hn
  unfold dm Ei
  rw [List.map_cons,List.find?_cons]
  by_cases e:x.id=d.id
  ·rcases List.mem_cons.1 h with rfl | h
   ·simp
   ·exact absurd (List.mem_map_of_mem (f:=(·.id)) h) (by rw [← e]; exact hn.1)
  ·rcases List.mem_cons.1 h with rfl | h
   ·exact absurd rfl e
   ·have:=TL hn.2 h
    unfold dm Ei at this
    rw [show (x.id == d.id)=false by simpa using e]
    exact this
/-- The dues, by their numbers. -/
def WI (ds' ds:List Du):Prop:=ds'.Perm ds∧(ds'.map (·.id)).Pairwise (·<·)
theorem UH {ds:List Du} {l:List Int} (hn:(ds.map (·.id)).Nodup) (hp:l.Perm ((dm ds).map (·.1))) (hs:l.Pairwise (·≤·)):WI (l.map (IJ ds)) ds∧(l.map (IJ ds)).map (·.id)=l:=by
 have h1:(dm ds).map (·.1)=ds.map (·.id):=by unfold dm; rw [List.map_map]; rfl
 rw [h1] at hp
 have h2:(l.map (IJ ds)).map (·.id)=l:=by
  rw [List.map_map]
  have:l.map ((·.id) ∘ IJ ds)=l.map id:=List.map_congr_left fun k hk=>by
   obtain ⟨d,hd,rfl⟩:=List.mem_map.1 (hp.mem_iff.1 hk)
   show (IJ ds d.id).id=d.id
   rw [Lo hn hd]
  rw [this,List.map_id]
 refine ⟨⟨?_,?_⟩,h2⟩
 ·have:=hp.map (IJ ds)
  rwa [WH hn] at this
 ·rw [h2]
  have hnd:=hp.nodup_iff.2 hn
  exact (hs.and (List.nodup_iff_pairwise_ne.1 hnd)).imp fun h=>by omega
theorem UI {ds:List Du} {i:Nat} {d:Du} (h:ds[i]? = some d):(ds.take (i+1)).flatMap Cf=(ds.take i).flatMap Cf++Cf d:=by
 rw [List.take_add_one,h,List.flatMap_append]
 simp
set_option maxRecDepth 20000 in
set_option maxHeartbeats 2000000 in
theorem WJ {bd b:Nat} {nx:Int} {o:Obj} {ds:List Du} (w:World) (hd:w.heap[bd]? = some (Bl 123 (DU b nx))) (hb:w.heap[b]? = some o) (hM:D8 .u64 (dm ds) o) (hnd:(ds.map (·.id)).Nodup) (hn:ds.length≤1000000) :
  Ret Tryz.prog 18 #[ptr bd] w fun v w'=>∃ ds':List Du,WI ds' ds∧Fresh w w' 62 7 v (ds'.flatMap Cf):=by
 obtain ⟨w0,rfl⟩:∃ w0,w0=w:=⟨_,rfl⟩
 have H:=Ctx.start w0 []
 have hdl:(dm ds).length=ds.length:=by unfold dm; rw [List.length_map]
 refine A9 (fn:=Tryz.f18) Tryz.func18 rfl [.pointer (some ⟨bd,0,none⟩)] rfl (by kernel_rfl) ?_
 refine Af (Az rfl rfl (Ab (Aa (An (Af (A2 rfl rfl (CK rfl K8 rfl ?_)))))))
 refine Ab (Aa (Aq _ rfl ?_ ?_))
 ·intro h0
  cases h0
 ·intro h0
  refine Ao (Aa (Af (Az rfl rfl (Ab (Aa (An (Af (A2 rfl rfl (AJ rfl rfl (Ah rfl EQ rfl (Bb rfl Gq rfl ((by rw [Ay hd]; rfl)) ?_)))))))))))
  refine Am rfl ca_62 (Y1 (b:=b) _) rfl ?_
  rintro v w ⟨bk,rfl,hbk,-,hx12⟩
  replace H:=H.call hx12
  refine Am rfl ca_61 (UG hM (by omega) _ ⟨hbk,H.ext.to hb (by simp)⟩) rfl ?_
  rintro v w ⟨l,hlp,hls,F⟩
  obtain ⟨ak,nk,ck,fk,rfl,OK,ZK,hbl⟩:=F.ex
  replace H:=H.call F.ext
  refine AV rfl Bz rfl (Ad rfl rfl (Ab (Aa (Au ?_))))
  obtain ⟨w1,rfl⟩:∃ z,z=w:=⟨_,rfl⟩
  have H0:=H.ext
  replace H:=Ctx.start w1 []
  have R:Rd w1 ak 1 (fun x=>[Hk x]) l:=OK.rd1 fun x hx=>(hbl x hx).1
  have hd1:=H0.to hd (by simp)
  have hb1:=H0.to hb (by simp)
  obtain ⟨hSD,hid⟩:=UH hnd hlp hls
  obtain ⟨ds',hds'⟩:∃ ds',ds'=l.map (IJ ds):=⟨_,rfl⟩
  rw [← hds'] at hSD hid
  have hlen:ds'.length=l.length:=by rw [hds',List.length_map]
  have hll:l.length=nk:=by have:=OK.llen; rw [List.length_map] at this; omega
  have hle:l.length=ds.length:=by have:=hlp.length_eq; rw [List.length_map] at this; omega
  subst hll
  refine Bf 536838184 (α:=LSt) (fun t=>[(3,.slice t.a t.i t.c),(15,.int .i64 (t.i:Int))]) (fun t w'=>t.i≤l.length∧OS t.a t.i t.c 7 t.full ((ds'.take t.i).flatMap Cf)∧Ctx w1 [] w' (ent t.a 62 t.full)) (fun t=>l.length - t.i) ⟨0,none,0,[]⟩ rfl ?_ ?_ ?_
  ·exact ⟨rfl,rfl,trivial⟩
  ·exact ⟨Nat.zero_le _,OS.nil,H⟩
  ·rintro ⟨i,a,c,full⟩ j w ⟨hi,O,H⟩; dsimp only at hi O H; dsimp only
   refine Af (AZ rfl rfl rfl (Ab (Aa (An (Aq _ rfl ?_ ?_)))))
   ·intro h1
    replace h1:=AF h1
    obtain ⟨k,hk⟩:=A0 (l:=l) (i:=i) (by omega)
    obtain ⟨d,hdi⟩:=A0 (l:=ds') (i:=i) (by omega)
    have hkd:k=d.id:=by
     have h7:(ds'.map (·.id))[i]? = some d.id:=by rw [List.getElem?_map,hdi]; rfl
     rw [hid,hk] at h7
     injection h7
    subst hkd
    have hmg:=TL hnd (hSD.1.mem_iff.1 (List.mem_of_getElem? hdi))
    refine Ao (Aa (An (Au (Af (AK R rfl Bz Bo rfl rfl (by omega) (by omega) (by rfl) ?_)))))
    refine Bb rfl BK rfl (((R.ext0 H.ext).fld hk rfl (j:=0) rfl)) ?_
    refine Ae rfl rfl (Ab (Aa (Av (Aj rfl rfl (A2 rfl rfl (AJ rfl rfl (Ah rfl EQ rfl (Bb rfl Gq rfl ((H.old0 (by rw [Ay hd1]; rfl))) ?_))))))))
    refine Ad rfl rfl (RQ rfl GN Gx Qy rfl rfl (H.ext.to hb1 (by simp)) hM ?_)
    rw [hmg]
    rw [Option.getD_some]
    refine C3 _ (.agg _) rfl B4 B2 Eh rfl (by decide) (by decide) rfl rfl rfl H ?_
    rintro b26 w - H
    refine Cl (L:=[]) rfl B4 B4 B2 L7 Eh rfl (by decide) rfl rfl H O rfl (by simp [Bm]) (by omega) ?_
    rintro a' c' full' w H O
    refine Az rfl rfl (Ab (A5 (Aa (Av (Ap rfl rfl rfl (by omega) (by omega) ?_)))))
    refine Ad rfl rfl (Ab (Aa ?_))
    exact ⟨⟨i+1,a',c',full'⟩,rfl,⟨rfl,rfl,trivial⟩,⟨by dsimp only; omega,by dsimp only; rw [UI hdi]; exact O,H⟩,by dsimp only; omega⟩
   ·intro h1
    replace h1:=AG h1
    refine Bc (Ak (Ak (AD (Aa (Af (Aj rfl rfl (Az rfl rfl (Ab (Aa (A8 (AB (v:=(.slice _ _ _)) rfl rfl rfl ?_)))))))))))
    obtain rfl:i=l.length:=by omega
    have FF:=Ctx.fresh (L:=[]) H O
    rw [show ds'.take l.length=ds' by rw [← hlen,List.take_length]] at FF
    obtain ⟨⟨a2,n2,c2,f2,e1,e2,e3⟩,e4⟩:=FF
    exact ⟨ds',hSD,⟨a2,n2,c2,f2,e1,e2,fun x hx=>⟨(e3 x hx).1,Nat.le_trans H0.size (e3 x hx).2⟩⟩,H0.trans e4⟩
end Go.Proofs.YtapphbmlkdhnmaaGreat

/- The dues: which may be. -/
namespace Go.Proofs.YtapphbmlkdhnmaaGreat
open Go.GV
attribute [local irreducible] AL W Wq Wt

def EE (x:Int):Bool:=decide (0≤x) && decide (x<16)
theorem QI (x:Int) (w:World):Ret Tryz.prog 161 #[.int .i64 x] w fun v w'=>v = .bool (EE x)∧w=w':=by
 obtain ⟨w0,rfl⟩:∃ w0,w0=w:=⟨_,rfl⟩
 refine A9 (fn:=Tryz.f161) Tryz.func161 rfl [.int .i64 x] rfl (by kernel_rfl) ?_
 refine Af (Ai rfl rfl (Ab (Aa (Af (Ad rfl rfl (Cx rfl rfl rfl (Aw rfl rfl (AE 5 rfl ?_ ?_))))))))
 ·intro h1
  replace h1:=AF h1
  refine Ad rfl rfl (AZ rfl rfl rfl (AA rfl rfl (.bool _) rfl (Ai rfl rfl (Ab (Aa (A8 (AB (v:=(.bool _)) rfl rfl rfl ?_)))))))
  exact ⟨congrArg Value.bool (by unfold EE; rw [Bool.eq_iff_iff]; simp_all; try omega),rfl⟩
 ·intro h2
  replace h2:=AG h2
  refine Ag rfl (Ag rfl (A6 rfl rfl (.bool _) rfl (Ai rfl rfl (Ab (Aa (A8 (AB (v:=(.bool _)) rfl rfl rfl ?_)))))))
  exact ⟨congrArg Value.bool (by unfold EE; rw [Bool.eq_iff_iff]; simp_all; try omega),rfl⟩
def DS (d:Du):Bool:=(EE d.fr && (EE d.to && !decide (d.fr=d.to))) && (decide (1≤d.am) && (Di d.am && (decide (1≤d.we) && (decide (d.we≤1000) && decide (0≤d.un)))))
set_option maxRecDepth 20000 in
set_option maxHeartbeats 2000000 in
theorem TM (d:Du) (w:World):Ret Tryz.prog 112 #[Gv d] w fun v w'=>v = .bool (DS d)∧Ext [] w w':=by
 obtain ⟨w0,rfl⟩:∃ w0,w0=w:=⟨_,rfl⟩
 have H:=Ctx.start w0 []
 refine A9 (fn:=Tryz.f112) Tryz.func112 rfl [Gv d] rfl (by kernel_rfl) ?_
 refine Af (BC rfl (Cf d) (.agg _) rfl rfl H ?_)
 rintro b1 w - H
 refine Ai rfl rfl (Ab (Aa (An (Au (An (Af (Ah rfl E1 rfl (AN rfl BV rfl H at0 rfl (Am rfl VC (QI d.fr _) rfl ?_)))))))))
 rintro v w ⟨rfl,rfl⟩
 refine B1 rfl rfl (Ai rfl rfl (Ab (Aa (D9 3 rfl ?_ ?_))))
 ·intro h1
  replace h1:=Bv h1
  refine Ao (Aa (Dj rfl (Af (Ai rfl rfl (Ab (Aa (A8 (A1 (Al (AB (v:=(.bool _)) rfl rfl rfl ?_))))))))))
  exact ⟨congrArg Value.bool (by unfold DS; rw [Bool.eq_iff_iff]; simp_all; try omega),H.ext⟩
 ·intro h2
  replace h2:=Bw h2
  refine Af (Ah rfl E3 rfl (AN rfl BV rfl H at0 rfl (Am rfl VC (QI d.to _) rfl ?_)))
  rintro v w ⟨rfl,rfl⟩
  refine B1 rfl rfl (Ai rfl rfl (Ab (Aa (D9 3 rfl ?_ ?_))))
  ·intro h3
   replace h3:=Bv h3
   refine Ao (Aa (Dj rfl (Af (Ai rfl rfl (Ab (Aa (A8 (A1 (Al (AB (v:=(.bool _)) rfl rfl rfl ?_))))))))))
   exact ⟨congrArg Value.bool (by unfold DS; rw [Bool.eq_iff_iff]; simp_all; try omega),H.ext⟩
  ·intro h4
   replace h4:=Bw h4
   refine Av (Ah rfl E1 rfl (AN rfl BV rfl H at0 rfl (Ah rfl E3 rfl (AN rfl BV rfl H at0 rfl (Cu rfl rfl rfl (Ai rfl rfl (Ab (Aa (D9 3 rfl ?_ ?_)))))))))
   ·intro h5
    replace h5:=AF h5
    refine Af (Ai rfl rfl (Ab (Aa (A8 (A1 (Al (AB (v:=(.bool _)) rfl rfl rfl ?_)))))))
    exact ⟨congrArg Value.bool (by unfold DS; rw [Bool.eq_iff_iff]; simp_all; try omega),H.ext⟩
   ·intro h6
    replace h6:=AG h6
    refine An (Af (Ah rfl Dp rfl (AN rfl Bt rfl H at0 rfl (AZ rfl rfl rfl (Ai rfl rfl (Ab (Aa (D9 17 rfl ?_ ?_))))))))
    ·intro h7
     replace h7:=AF h7
     refine Ao (Aa (Dj rfl (Af (Ai rfl rfl (Ab (Aa (A8 (A1 (Al (AB (v:=(.bool _)) rfl rfl rfl ?_))))))))))
     exact ⟨congrArg Value.bool (by unfold DS; rw [Bool.eq_iff_iff]; simp_all; try omega),H.ext⟩
    ·intro h8
     replace h8:=AG h8
     refine Af (Ah rfl Dp rfl (AN rfl Bt rfl H at0 rfl (Am rfl Lf (Ln d.am _) rfl ?_)))
     rintro v w ⟨rfl,rfl⟩
     refine B1 rfl rfl (Ai rfl rfl (Ab (Aa (D9 17 rfl ?_ ?_))))
     ·intro h9
      replace h9:=Bv h9
      refine Ao (Aa (Dj rfl (Af (Ai rfl rfl (Ab (Aa (A8 (A1 (Al (AB (v:=(.bool _)) rfl rfl rfl ?_))))))))))
      exact ⟨congrArg Value.bool (by unfold DS; rw [Bool.eq_iff_iff]; simp_all; try omega),H.ext⟩
     ·intro h10
      replace h10:=Bw h10
      refine Af (Ah rfl J4 rfl (AN rfl Bt rfl H at0 rfl (AZ rfl rfl rfl (Ai rfl rfl (Ab (Aa (D9 17 rfl ?_ ?_)))))))
      ·intro h11
       replace h11:=AF h11
       refine Ao (Aa (Dj rfl (Af (Ai rfl rfl (Ab (Aa (A8 (A1 (Al (AB (v:=(.bool _)) rfl rfl rfl ?_))))))))))
       exact ⟨congrArg Value.bool (by unfold DS; rw [Bool.eq_iff_iff]; simp_all; try omega),H.ext⟩
      ·intro h12
       replace h12:=AG h12
       refine Af (Ah rfl J4 rfl (AN rfl Bt rfl H at0 rfl (Ck rfl rfl rfl (Ai rfl rfl (Ab (Aa (D9 17 rfl ?_ ?_)))))))
       ·intro h13
        replace h13:=AF h13
        refine Ao (Aa (Dj rfl (Af (Ai rfl rfl (Ab (Aa (A8 (A1 (Al (AB (v:=(.bool _)) rfl rfl rfl ?_))))))))))
        exact ⟨congrArg Value.bool (by unfold DS; rw [Bool.eq_iff_iff]; simp_all; try omega),H.ext⟩
       ·intro h14
        replace h14:=AG h14
        refine Av (Ah rfl Ty rfl (AN rfl Bt rfl H at0 rfl (AZ rfl rfl rfl (Ai rfl rfl (Ab (Aa (D9 17 rfl ?_ ?_)))))))
        ·intro h15
         replace h15:=AF h15
         refine Af (Ai rfl rfl (Ab (Aa (A8 (A1 (Al (AB (v:=(.bool _)) rfl rfl rfl ?_)))))))
         exact ⟨congrArg Value.bool (by unfold DS; rw [Bool.eq_iff_iff]; simp_all; try omega),H.ext⟩
        ·intro h16
         replace h16:=AG h16
         refine Ao (A5 (Aa (Af (Ai rfl rfl (Ab (Aa (A8 (AB (v:=(.bool _)) rfl rfl rfl ?_))))))))
         exact ⟨congrArg Value.bool (by unfold DS; rw [Bool.eq_iff_iff]; simp_all; try omega),H.ext⟩
end Go.Proofs.YtapphbmlkdhnmaaGreat
