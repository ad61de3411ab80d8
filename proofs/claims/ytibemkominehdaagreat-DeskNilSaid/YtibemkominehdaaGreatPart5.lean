/- Part 5 of the proof. -/
import Derived.Test.YtibemkominehdaaGreatPart2
import Derived.Test.YtibemkominehdaaGreatPart4
import Derived.Test.YtibemkominehdaaGreatPart3
namespace Go.Proofs.YtibemkominehdaaGreat
open Go.GV
attribute [local irreducible] Al W Wq Wt
structure PartU (g:Nat→Int) (a mid b:Nat):Prop where
 le:∀ x,a≤x→x<mid→g x≤g mid
 ge:∀ y,mid<y→y<b→g mid≤g y
theorem KO {g:Nat→Int} {a j b:Nat} (h1:∀ x,a<x→x≤j→g x<g a) (h2:∀ y,j<y→y<b→g a≤g y) (hj:a≤j:=by omega):PartU (sw g j a) a j b:=by
 have hv:sw g j a j=g a:=Eu g j a;refine ⟨fun x hx hxj=>?_,fun y hy hyb=>?_⟩
 ·rw [hv]
  by_cases e:x=a
  ·rw [e,Cl];exact Int.le_of_lt (h1 j (by omega) (Nat.le_refl _))
  ·rw [CD (h2:=e)]; exact Int.le_of_lt (h1 x (by omega) (by omega))
 ·rw [hv,CD]; exact h2 y hy hyb
theorem KP {g:Nat→Int} {a i j b:Nat} (h:a+1≤i∧i≤j+1∧j<b∧(∀ x,a<x→x<i→g x<g a)∧∀ y,j<y→y<b→g a≤g y) (hij:i<j) (hi:g a≤g i) (hj:g j<g a) :
  a+1≤i+1∧i+1≤j - 1+1∧j - 1<b∧(∀ x,a<x→x<i+1→sw g i j x<sw g i j a)∧∀ y,j - 1<y→y<b→sw g i j a≤sw g i j y:=by
 obtain ⟨h1,h2,h3,h4,h5⟩:=h;have ha:sw g i j a=g a:=CD;rw [ha];refine ⟨by omega,by omega,by omega,fun x hx hxi=>?_,fun y hy hyb=>?_⟩
 ·by_cases e:x=i
  ·rw [e,Eu]; exact hj
  ·rw [CD (h1:=e)]; exact h4 x hx (by omega)
 ·by_cases e:y=j
  ·rw [e,Cl]; exact hi
  ·rw [CD (h2:=e)]; exact h5 y (by omega) hyb
section
variable {w:World} {q n c m:Nat} {f:Nat→Int}
set_option maxRecDepth 20000 in
set_option maxHeartbeats 4000000 in
theorem LP {a b p:Nat} (hd:w.heap[q]? = some (Bl 32 (B4 f m))) (hn:n≤m) (hm:n≤1000000000) (hp:a≤p∧p<b)  (hab:a<b:=by omega) (hb:b≤n:=by omega):
  Ret Tryz.prog 242 #[.slice (some ⟨q,0,none⟩) n c,.int .i64 (a:Int),.int .i64 (b:Int),.int .i64 (p:Int)] w fun v w'=>∃ (mid:Nat) (t:Bool) (g:Nat→Int),v = .tuple #[.int .i64 (mid:Int),.bool t]∧Sw a b f g∧a≤mid∧mid<b∧PartU g a mid b∧Ctx w [q] w' [(q,Bl 32 (B4 g m))]:=by
 obtain ⟨w0,rfl⟩:∃ w0,w0=w:=⟨_,rfl⟩;have H:=Ctx.start1 hd;refine Au (fn:=Tryz.f242) Tryz.func242 U [.slice (some ⟨q,0,none⟩) n c,.int .i64 (a:Int),.int .i64 (b:Int),.int .i64 (p:Int)] U ?_;refine Ag (Ae U (Am U (Ab (Aa (BT [([0,1,2,3,4,5,6,7,8,9,10,11,12],13),([14],15)] (fun z=>z.heap[q]? = some (Bl 32 (B4 (f) m))) [13,15] Bz (H.drew.get at0) ?_)))));refine A0 U U ?_;refine AM U (AG U (AM U (AG U (AM U (AG U (Aw AP AB U U ?_))))));refine BE Bm U (fun _ hx=>(Bv hx)) ?_;refine AM U (AG U (Aw AP AB U U ?_));refine BE Bm U (fun _ hx=>(Bv hx)) ?_;refine Aw AP AB U U ?_;refine Ba ?_;replace H:=H.drew
 refine BR (a) (fun z => .int .u64 (if z=a then (f) (p) else (f) z)) (.int _ _) AB U U U H at0 (by rw [if_pos rfl]; exact congrArg (fun z=>Value.int .u64 ((f) z)) (by omega)) (fun z _ hz=>by rw [if_neg hz]) ?_;rintro w H;refine Ab (Bo U (A0 U U ?_));refine Aw AP AB U U ?_;refine Ba (BR (p) (fun z => .int .u64 (sw (f) (a) (p) z)) (.int _ _) AB U U U H at0 (by rw [Cl]; exact congrArg (fun z=>Value.int .u64 ((f) z)) (by omega)) (fun z _ hz=>by rw [Cj hz]) ?_);rintro w H;refine Ab (Bo U (B6 ?_));have hS0:=(Sw.refl (a:=a) (b:=b) f).step a p ⟨by omega,by omega⟩ hp;obtain ⟨g,hg⟩:∃ g,g=sw f a p:=⟨_,rfl⟩;rw [← hg] at hS0 H;have hi0:a+1≤(a+1)∧(a+1)≤(b - 1)+1∧(b - 1)<b∧(∀ x,a<x→x<(a+1)→(g) x<(g) a)∧∀ y,(b - 1)<y→y<b→(g) a≤(g) y:=⟨Nat.le_refl _,by omega,by omega,fun x h1 h2=>by omega,fun y h1 h2=>by omega⟩
 refine Ag (Ad U (A3 U U ?_));rw [show (a:Int)+1=((a+1:Nat):Int) by omega];refine Ad U (AN U U ?_);rw [show (b:Int) - 1=((b - 1:Nat):Int) by omega];refine Ae U (Ae U (Ab (Aa (Ax (A4 (Bt 70367670436864 (α:=Nat) (fun i=>[(10,.int .i64 (i:Int))]) (fun i w'=>(a+1≤i∧i≤(b - 1)+1∧(b - 1)<b∧(∀ x,a<x→x<i→(g) x<(g) a)∧∀ y,(b - 1)<y→y<b→(g) a≤(g) y)∧Ctx w0 [q] w' [(q,Bl 32 (B4 (g) m))]) (fun i=>b - i) (a+1) U ?_ ?_ ?_))))))
 ·exact ⟨by rfl,trivial⟩
 ·exact ⟨by assumption,H⟩
 ·rintro i jx w ⟨hiv,H⟩;refine Ax (DN 17591112302592 (α:=Unit) (fun _=>[(43,.bool (decide (i≤b - 1∧g i<g a)))]) (fun _ w'=>Ctx w0 [q] w' [(q,Bl 32 (B4 (g) m))]) U ?_ ?_)
  ·skip
   refine Fg 12 Bz U U ?_;refine AJ U (AJ U (Kw U U U (DC U (Dh 33 U ?_ ?_))))
   ·intro h1;replace h1:=AX h1;refine Bx U (AJ U (Bc AP AB U U ?_));refine CR Bm U (by rintro _ rfl; exact ((Bv (H.drew.get at0)))) ?_;refine Bx U (AJ U (Bc AP AB U U ?_));refine CR Bm U (by rintro _ rfl; exact ((Bv (H.drew.get at0)))) ?_;refine BZ ?_;replace H:=H.drew;refine Ai Dz (CN _ _ _) U ?_;rintro v w ⟨rfl,rfl⟩;simp only [Int.toNat_natCast];refine Av U (.bool _) U (Ab (Aa ?_));exact ⟨(),rfl,⟨congrArg Value.bool (by clear hiv; rw [Bool.eq_iff_iff]; simp_all; try omega),trivial⟩,H⟩
   ·intro h2;replace h2:=AY h2;refine AF U (AF U (AF U (AF U (AF U (AF U (AF U (AF U (BZ ?_))))))));replace H:=H.drew;refine Af U (AE U (.bool _) U (Ab (Aa ?_)));exact ⟨(),rfl,⟨congrArg Value.bool (by clear hiv; rw [Bool.eq_iff_iff]; simp_all; try omega),trivial⟩,H⟩
  ·rintro - jy w H;refine Ay _ U ?_ ?_
   ·intro hc;have hc:=of_decide_eq_true hc;refine A2 (Aa (A4 (A5 (Ad U (A3 U U ?_)))));refine Ae U (Ab (AU (Aa ?_)));exact ⟨i+1,rfl,⟨congrArg (Value.int .i64) (by omega),trivial⟩,⟨⟨by omega,by omega,by omega,fun x h1 h2=>(if e:x=i then by rw [e]; exact hc.2 else hiv.2.2.2.1 x h1 (by omega)),hiv.2.2.2.2⟩,H⟩,by omega⟩
   ·intro hc;have hc:=of_decide_eq_false hc;have hci:=hc;have hi0:=hiv;refine Bs (Ao (Ao (AK (Aa (Ax (A4 (Bt 9223301668110600192 (α:=Nat) (fun j=>[(11,.int .i64 (j:Int))]) (fun j w'=>(a+1≤i∧i≤j+1∧j<b∧(∀ x,a<x→x<i→(g) x<(g) a)∧∀ y,j<y→y<b→(g) a≤(g) y)∧Ctx w0 [q] w' [(q,Bl 32 (B4 (g) m))]) (fun j=>j) (b - 1) U ?_ ?_ ?_)))))))
    ·exact ⟨by rfl,trivial⟩
    ·exact ⟨by assumption,H⟩
    ·rintro j jx w ⟨hiv,H⟩;refine Ax (DN 2305772640469516288 (α:=Unit) (fun _=>[(60,.bool (decide (i≤j∧g a≤g j)))]) (fun _ w'=>Ctx w0 [q] w' [(q,Bl 32 (B4 (g) m))]) U ?_ ?_)
     ·skip
      refine Fg 12 Bz U U ?_;refine AJ U (AJ U (Kw U U U (DC U (Dh 49 U ?_ ?_))))
      ·intro h3;replace h3:=AX h3;refine Bx U (AJ U (Bc AP AB U U ?_));refine CR Bm U (by rintro _ rfl; exact ((Bv (H.drew.get at0)))) ?_;refine Bx U (AJ U (Bc AP AB U U ?_));refine CR Bm U (by rintro _ rfl; exact ((Bv (H.drew.get at0)))) ?_;refine BZ ?_;replace H:=H.drew;refine Ai Dz (CN _ _ _) U ?_;rintro v w ⟨rfl,rfl⟩;simp only [Int.toNat_natCast];refine C7 U (Av U (.bool _) U (Ab (Aa ?_)));exact ⟨(),rfl,⟨congrArg Value.bool (by clear hiv; rw [Bool.eq_iff_iff]; simp_all; try omega),trivial⟩,H⟩
      ·intro h4;replace h4:=AY h4;refine AF U (AF U (AF U (AF U (AF U (AF U (AF U (AF U (BZ ?_))))))));replace H:=H.drew;refine Af U (Af U (AE U (.bool _) U (Ab (Aa ?_))));exact ⟨(),rfl,⟨congrArg Value.bool (by clear hiv; rw [Bool.eq_iff_iff]; simp_all; try omega),trivial⟩,H⟩
     ·rintro - jy w H;refine Ay _ U ?_ ?_
      ·intro hc;have hc:=of_decide_eq_true hc;refine A2 (Aa (A4 (A5 (Ad U (AN U U ?_)))));refine Ae U (Ab (AU (Aa ?_)));exact ⟨j - 1,rfl,⟨congrArg (Value.int .i64) (by omega),trivial⟩,⟨⟨by omega,by omega,by omega,hiv.2.2.2.1,fun y h1 h2=>(if e:y=j then by rw [e]; exact hc.2 else hiv.2.2.2.2 y (by omega) h2)⟩,H⟩,by omega⟩
      ·intro hc;have hc:=of_decide_eq_false hc;have hci:¬ (i≤j∧g i<g a):=fun h=>hci ⟨by omega,h.2⟩;refine Bs (Ao (Ao (AK (Aa (Ax (Ag (Ad U (Ad U (CP U U (Ab (Aa (Ay _ U ?_ ?_))))))))))))
       ·intro h5;replace h5:=AX h5;have hji:j+1=i:=by omega
        refine BT [([0,1,2,3,4,5,6,7,8,9,10,11,12],13),([14],15)] (fun z=>z.heap[q]? = some (Bl 32 (B4 (g) m))) [13,15] Bz (H.drew.get at0) ?_;refine A0 U U ?_;refine AM U (AG U (AM U (AG U (AM U (AG U (Aw AP AB U U ?_))))));refine BE Bm U (fun _ hx=>(Bv hx)) ?_;refine AM U (AG U (Aw AP AB U U ?_));refine BE Bm U (fun _ hx=>(Bv hx)) ?_;refine Aw AP AB U U ?_;refine Ba ?_;replace H:=H.drew;refine BR (j) (fun z => .int .u64 (if z=j then (g) (a) else (g) z)) (.int _ _) AB U U U H at0 (by rw [if_pos rfl]; exact congrArg (fun z=>Value.int .u64 ((g) z)) (by omega)) (fun z _ hz=>by rw [if_neg hz]) ?_;rintro w H;refine Ab (Bo U (A0 U U ?_));refine Aw AP AB U U ?_
        refine Ba (BR (a) (fun z => .int .u64 (sw (g) (j) (a) z)) (.int _ _) AB U U U H at0 (by rw [Cl]; exact congrArg (fun z=>Value.int .u64 ((g) z)) (by omega)) (fun z _ hz=>by rw [Cj hz]) ?_);rintro w H;refine Ab (Bo U (B6 (Ag (Ad U (Ae U (Am U (Ab (Aa (A9 (A7 (C6 (v1:=(.int _ _)) (v2:=(.bool _)) U U U U ?_)))))))))));exact ⟨j,true,sw g j a,rfl,hS0.step j a ⟨by omega,by omega⟩ ⟨by omega,by omega⟩,by omega,by omega,KO (fun x h1 h2=>hiv.2.2.2.1 x h1 (by omega)) hiv.2.2.2.2,H⟩
       ·intro h5;replace h5:=AY h5
        have hne:i<j:=by
         rcases Nat.lt_or_ge i j with h | h
         ·exact h
         ·obtain rfl:i=j:=by omega
          exact absurd ⟨Nat.le_refl i,by rcases Int.lt_or_le (g i) (g a) with h7 | h7; exact absurd ⟨Nat.le_refl i,h7⟩ hci; exact h7⟩ hc
        have hgi:g a≤g i:=by rcases Int.lt_or_le (g i) (g a) with h7 | h7; exact absurd ⟨by omega,h7⟩ hci; exact h7
        have hgj:g j<g a:=by rcases Int.lt_or_le (g j) (g a) with h7 | h7; exact h7; exact absurd ⟨by omega,h7⟩ hc
        refine A2 (Aa (BT [([0,1,2,3,4,5,6,7,8,9,10,11,12],13),([14],15)] (fun z=>z.heap[q]? = some (Bl 32 (B4 (g) m))) [13,15] Bz (H.drew.get at0) ?_));refine A0 U U ?_;refine AM U (AG U (AM U (AG U (AM U (AG U (Aw AP AB U U ?_))))));refine BE Bm U (fun _ hx=>(Bv hx)) ?_;refine AM U (AG U (Aw AP AB U U ?_));refine BE Bm U (fun _ hx=>(Bv hx)) ?_;refine Aw AP AB U U ?_;refine Ba ?_;replace H:=H.drew;refine BR (i) (fun z => .int .u64 (if z=i then (g) (j) else (g) z)) (.int _ _) AB U U U H at0 (by rw [if_pos rfl]; exact congrArg (fun z=>Value.int .u64 ((g) z)) (by omega)) (fun z _ hz=>by rw [if_neg hz]) ?_;rintro w H;refine Ab (Bo U (A0 U U ?_));refine Aw AP AB U U ?_
        refine Ba (BR (j) (fun z => .int .u64 (sw (g) (i) (j) z)) (.int _ _) AB U U U H at0 (by rw [Cl]; exact congrArg (fun z=>Value.int .u64 ((g) z)) (by omega)) (fun z _ hz=>by rw [Cj hz]) ?_);rintro w H;refine Ab (Bo U (B6 (Ag (Ad U (A3 U U ?_)))));refine Ae U (Ab (Aa (Ag (Ad U (AN U U ?_)))));refine Ae U (Ab (Aa (Ax (A4 (Bt 11417981541647678414640987641481260342710373376 (α:=Nat × Nat × (Nat→Int)) (fun t=>[(10,.int .i64 (t.1:Int)),(11,.int .i64 (t.2.1:Int))]) (fun t w'=>(a+1≤t.1∧t.1≤t.2.1+1∧t.2.1<b∧(∀ x,a<x→x<t.1→(t.2.2) x<(t.2.2) a)∧∀ y,t.2.1<y→y<b→(t.2.2) a≤(t.2.2) y)∧Sw a b f t.2.2∧Ctx w0 [q] w' [(q,Bl 32 (B4 t.2.2 m))]) (fun t=>b - t.1) (i+1,j - 1,sw g i j) U ?_ ?_ ?_)))))
        ·exact ⟨rfl,congrArg (Value.int .i64) (by dsimp only; omega),trivial⟩
        ·exact ⟨KP hiv hne hgi hgj,hS0.step i j ⟨by omega,by omega⟩ ⟨by omega,by omega⟩,H⟩
        ·rintro ⟨i,j,g⟩ j0 w ⟨hi0,hS0,H⟩; dsimp only at hi0 hS0 H; dsimp only;obtain ⟨i0,hi0e⟩:∃ i0,i0=i:=⟨_,rfl⟩;obtain ⟨j1,hj1e⟩:∃ j1,j1=j:=⟨_,rfl⟩;have hi1:i0≤i∧a+1≤i∧i≤j+1∧j<b∧(∀ x,a<x→x<i→(g) x<(g) a)∧∀ y,j<y→y<b→(g) a≤(g) y:=⟨by omega,hi0⟩;refine A4 (Ax (A4 (Bt 41537741042978506913543222282159104 (α:=Nat) (fun i=>[(10,.int .i64 (i:Int))]) (fun i w'=>(i0≤i∧a+1≤i∧i≤j+1∧j<b∧(∀ x,a<x→x<i→(g) x<(g) a)∧∀ y,j<y→y<b→(g) a≤(g) y)∧Ctx w0 [q] w' [(q,Bl 32 (B4 (g) m))]) (fun i=>j+1 - i) i U ?_ ?_ ?_)))
         ·exact ⟨by rfl,trivial⟩
         ·exact ⟨hi1,H⟩
         ·rintro i jx w ⟨hiv,H⟩;refine Ax (DN 10383959891769541142360244306837504 (α:=Unit) (fun _=>[(112,.bool (decide (i≤j∧g i<g a)))]) (fun _ w'=>Ctx w0 [q] w' [(q,Bl 32 (B4 (g) m))]) U ?_ ?_)
          ·skip
           refine Fg 12 Bz U U ?_;refine AJ U (AJ U (Kw U U U (DC U (Dh 102 U ?_ ?_))))
           ·intro h5;replace h5:=AX h5;refine Bx U (AJ U (Bc AP AB U U ?_));refine CR Bm U (by rintro _ rfl; exact ((Bv (H.drew.get at0)))) ?_;refine Bx U (AJ U (Bc AP AB U U ?_));refine CR Bm U (by rintro _ rfl; exact ((Bv (H.drew.get at0)))) ?_;refine BZ ?_;replace H:=H.drew;refine Ai Dz (CN _ _ _) U ?_;rintro v w ⟨rfl,rfl⟩;simp only [Int.toNat_natCast];refine Av U (.bool _) U (Ab (Aa ?_));exact ⟨(),rfl,⟨congrArg Value.bool (by clear hiv; rw [Bool.eq_iff_iff]; simp_all; try omega),trivial⟩,H⟩
           ·intro h6;replace h6:=AY h6;refine AF U (AF U (AF U (AF U (AF U (AF U (AF U (AF U (BZ ?_))))))));replace H:=H.drew;refine Af U (AE U (.bool _) U (Ab (Aa ?_)));exact ⟨(),rfl,⟨congrArg Value.bool (by clear hiv; rw [Bool.eq_iff_iff]; simp_all; try omega),trivial⟩,H⟩
          ·rintro - jy w H;refine Ay _ U ?_ ?_
           ·intro hc;have hc:=of_decide_eq_true hc;refine A2 (Aa (A4 (A5 (Ad U (A3 U U ?_)))));refine Ae U (Ab (AU (Aa ?_)));exact ⟨i+1,rfl,⟨congrArg (Value.int .i64) (by omega),trivial⟩,⟨⟨by omega,by omega,by omega,by omega,fun x h1 h2=>(if e:x=i then by rw [e]; exact hc.2 else hiv.2.2.2.2.1 x h1 (by omega)),hiv.2.2.2.2.2⟩,H⟩,by omega⟩
           ·intro hc;have hc:=of_decide_eq_false hc;have hci:=hc;have hi2:j≤j1∧a+1≤i∧i≤j+1∧j<b∧(∀ x,a<x→x<i→(g) x<(g) a)∧∀ y,j<y→y<b→(g) a≤(g) y:=⟨by omega,hiv.2⟩;have hi3:=hiv.1;refine Bs (Ao (Ao (AK (Aa (Ax (A4 (Bt 5444476332360147136792965474937657624576 (α:=Nat) (fun j=>[(11,.int .i64 (j:Int))]) (fun j w'=>(j≤j1∧a+1≤i∧i≤j+1∧j<b∧(∀ x,a<x→x<i→(g) x<(g) a)∧∀ y,j<y→y<b→(g) a≤(g) y)∧Ctx w0 [q] w' [(q,Bl 32 (B4 (g) m))]) (fun j=>j) j U ?_ ?_ ?_)))))))
            ·exact ⟨by rfl,trivial⟩
            ·exact ⟨hi2,H⟩
            ·rintro j jx w ⟨hiv,H⟩;refine Ax (DN 1361087929308885575232470185756439085056 (α:=Unit) (fun _=>[(129,.bool (decide (i≤j∧g a≤g j)))]) (fun _ w'=>Ctx w0 [q] w' [(q,Bl 32 (B4 (g) m))]) U ?_ ?_)
             ·skip
              refine Fg 12 Bz U U ?_;refine AJ U (AJ U (Kw U U U (DC U (Dh 118 U ?_ ?_))))
              ·intro h7;replace h7:=AX h7;refine Bx U (AJ U (Bc AP AB U U ?_));refine CR Bm U (by rintro _ rfl; exact ((Bv (H.drew.get at0)))) ?_;refine Bx U (AJ U (Bc AP AB U U ?_));refine CR Bm U (by rintro _ rfl; exact ((Bv (H.drew.get at0)))) ?_;refine BZ ?_;replace H:=H.drew;refine Ai Dz (CN _ _ _) U ?_;rintro v w ⟨rfl,rfl⟩;simp only [Int.toNat_natCast];refine C7 U (Av U (.bool _) U (Ab (Aa ?_)));exact ⟨(),rfl,⟨congrArg Value.bool (by clear hiv; rw [Bool.eq_iff_iff]; simp_all; try omega),trivial⟩,H⟩
              ·intro h8;replace h8:=AY h8;refine AF U (AF U (AF U (AF U (AF U (AF U (AF U (AF U (BZ ?_))))))));replace H:=H.drew;refine Af U (Af U (AE U (.bool _) U (Ab (Aa ?_))));exact ⟨(),rfl,⟨congrArg Value.bool (by clear hiv; rw [Bool.eq_iff_iff]; simp_all; try omega),trivial⟩,H⟩
             ·rintro - jy w H;refine Ay _ U ?_ ?_
              ·intro hc;have hc:=of_decide_eq_true hc;refine A2 (Aa (A4 (A5 (Ad U (AN U U ?_)))));refine Ae U (Ab (AU (Aa ?_)));exact ⟨j - 1,rfl,⟨congrArg (Value.int .i64) (by omega),trivial⟩,⟨⟨by omega,by omega,by omega,by omega,hiv.2.2.2.2.1,fun y h1 h2=>(if e:y=j then by rw [e]; exact hc.2 else hiv.2.2.2.2.2 y (by omega) h2)⟩,H⟩,by omega⟩
              ·intro hc;have hc:=of_decide_eq_false hc;have hci:¬ (i≤j∧g i<g a):=fun h=>hci ⟨by omega,h.2⟩;replace hiv:=hiv.2;refine Bs (Ao (Ao (AK (Aa (Ax (Ag (Ad U (Ad U (CP U U (Ab (Aa (Ay _ U ?_ ?_))))))))))))
               ·intro h5;replace h5:=AX h5;have hji:j+1=i:=by omega
                refine Bs (Ao (EL U (Ao (AK (Aa (BT [([0,1,2,3,4,5,6,7,8,9,10,11,12],13),([14],15)] (fun z=>z.heap[q]? = some (Bl 32 (B4 (g) m))) [13,15] Bz (H.drew.get at0) ?_))))));refine A0 U U ?_;refine AM U (AG U (AM U (AG U (AM U (AG U (Aw AP AB U U ?_))))));refine BE Bm U (fun _ hx=>(Bv hx)) ?_;refine AM U (AG U (Aw AP AB U U ?_));refine BE Bm U (fun _ hx=>(Bv hx)) ?_;refine Aw AP AB U U ?_;refine Ba ?_;replace H:=H.drew;refine BR (j) (fun z => .int .u64 (if z=j then (g) (a) else (g) z)) (.int _ _) AB U U U H at0 (by rw [if_pos rfl]; exact congrArg (fun z=>Value.int .u64 ((g) z)) (by omega)) (fun z _ hz=>by rw [if_neg hz]) ?_;rintro w H;refine Ab (Bo U (A0 U U ?_));refine Aw AP AB U U ?_
                refine Ba (BR (a) (fun z => .int .u64 (sw (g) (j) (a) z)) (.int _ _) AB U U U H at0 (by rw [Cl]; exact congrArg (fun z=>Value.int .u64 ((g) z)) (by omega)) (fun z _ hz=>by rw [Cj hz]) ?_);rintro w H;refine Ab (Bo U (B6 (Ag (Ad U (Ae U (Am U (Ab (Aa (A9 (C6 (v1:=(.int _ _)) (v2:=(.bool _)) U U U U ?_))))))))));exact ⟨j,false,sw g j a,rfl,hS0.step j a ⟨by omega,by omega⟩ ⟨by omega,by omega⟩,by omega,by omega,KO (fun x h1 h2=>hiv.2.2.2.1 x h1 (by omega)) hiv.2.2.2.2,H⟩
               ·intro h5;replace h5:=AY h5
                have hne:i<j:=by
                 rcases Nat.lt_or_ge i j with h | h
                 ·exact h
                 ·obtain rfl:i=j:=by omega
                  exact absurd ⟨Nat.le_refl i,by rcases Int.lt_or_le (g i) (g a) with h7 | h7; exact absurd ⟨Nat.le_refl i,h7⟩ hci; exact h7⟩ hc
                refine A2 (Aa (BT [([0,1,2,3,4,5,6,7,8,9,10,11,12],13),([14],15)] (fun z=>z.heap[q]? = some (Bl 32 (B4 (g) m))) [13,15] Bz (H.drew.get at0) ?_));refine A0 U U ?_;refine AM U (AG U (AM U (AG U (AM U (AG U (Aw AP AB U U ?_))))));refine BE Bm U (fun _ hx=>(Bv hx)) ?_;refine AM U (AG U (Aw AP AB U U ?_));refine BE Bm U (fun _ hx=>(Bv hx)) ?_;refine Aw AP AB U U ?_;refine Ba ?_;replace H:=H.drew;refine BR (i) (fun z => .int .u64 (if z=i then (g) (j) else (g) z)) (.int _ _) AB U U U H at0 (by rw [if_pos rfl]; exact congrArg (fun z=>Value.int .u64 ((g) z)) (by omega)) (fun z _ hz=>by rw [if_neg hz]) ?_;rintro w H;refine Ab (Bo U (A0 U U ?_));refine Aw AP AB U U ?_
                refine Ba (BR (j) (fun z => .int .u64 (sw (g) (i) (j) z)) (.int _ _) AB U U U H at0 (by rw [Cl]; exact congrArg (fun z=>Value.int .u64 ((g) z)) (by omega)) (fun z _ hz=>by rw [Cj hz]) ?_);rintro w H;refine Ab (Bo U (B6 (Ag (Ad U (A3 U U ?_)))));refine Ae U (Ab (Aa (A5 (Ad U (AN U U ?_)))));refine Ae U (Ab (AU (Aa ?_)))
                have hgi:g a≤g i:=by rcases Int.lt_or_le (g i) (g a) with h7 | h7; exact absurd ⟨by omega,h7⟩ hci; exact h7
                have hgj:g j<g a:=by rcases Int.lt_or_le (g j) (g a) with h7 | h7; exact h7; exact absurd ⟨by omega,h7⟩ hc
                exact ⟨(i+1,j - 1,sw g i j),rfl,⟨rfl,congrArg (Value.int .i64) (by dsimp only; omega),trivial⟩,⟨KP hiv hne hgi hgj,hS0.step i j ⟨by omega,by omega⟩ ⟨by omega,by omega⟩,H⟩,by dsimp only; omega⟩
end
end Go.Proofs.YtibemkominehdaaGreat
namespace Go.Proofs.YtibemkominehdaaGreat
open Go.GV
attribute [local irreducible] Al W Wq Wt
theorem UJ {g:Nat→Int} {a i j b:Nat} (h:a+1≤i∧i≤j+1∧j<b∧(∀ x,a<x→x<i→(g) x≤(g) a)∧∀ y,j<y→y<b→(g) a<(g) y) (hij:i<j) (hi:g a<g i) (hj:g j≤g a):a+1≤i+1∧i+1≤(j - 1)+1∧(j - 1)<b∧(∀ x,a<x→x<i+1→(sw g i j) x≤(sw g i j) a)∧∀ y,(j - 1)<y→y<b→(sw g i j) a<(sw g i j) y:=by
 obtain ⟨h1,h2,h3,h4,h5⟩:=h;have ha:sw g i j a=g a:=CD;rw [ha];refine ⟨by omega,by omega,by omega,fun x hx hxi=>?_,fun y hy hyb=>?_⟩
 ·by_cases e:x=i
  ·rw [e,Eu]; exact hj
  ·rw [CD (h1:=e)]; exact h4 x hx (by omega)
 ·by_cases e:y=j
  ·rw [e,Cl]; exact hi
  ·rw [CD (h2:=e)]; exact h5 y (by omega) hyb
section
variable {w:World} {q n c m:Nat} {f:Nat→Int}
set_option maxRecDepth 20000 in
set_option maxHeartbeats 4000000 in
theorem Qx {a b p:Nat} (hd:w.heap[q]? = some (Bl 32 (B4 f m))) (hn:n≤m) (hm:n≤1000000000) (hp:a≤p∧p<b)  (hab:a<b:=by omega) (hb:b≤n:=by omega):
  Ret Tryz.prog 241 #[.slice (some ⟨q,0,none⟩) n c,.int .i64 (a:Int),.int .i64 (b:Int),.int .i64 (p:Int)] w fun v w'=>∃ (i:Nat) (g:Nat→Int),v = .int .i64 (i:Int)∧Sw a b f g∧a<i∧i≤b∧g a=f p∧(∀ x,a≤x→x<i→g x≤g a)∧(∀ y,i≤y→y<b→g a<g y)∧Ctx w [q] w' [(q,Bl 32 (B4 g m))]:=by
 obtain ⟨w0,rfl⟩:∃ w0,w0=w:=⟨_,rfl⟩;have H:=Ctx.start1 hd;refine Au (fn:=Tryz.f241) Tryz.func241 U [.slice (some ⟨q,0,none⟩) n c,.int .i64 (a:Int),.int .i64 (b:Int),.int .i64 (p:Int)] U ?_;refine Ag (Ae U (Ab (Aa (BT [([0,1,2,3,4,5,6,7,8,9,10,11,12],13),([14],15)] (fun z=>z.heap[q]? = some (Bl 32 (B4 (f) m))) [13,15] Bz (H.drew.get at0) ?_))));refine A0 U U ?_;refine AM U (AG U (AM U (AG U (AM U (AG U (Aw AP AB U U ?_))))));refine BE Bm U (fun _ hx=>(Bv hx)) ?_;refine AM U (AG U (Aw AP AB U U ?_));refine BE Bm U (fun _ hx=>(Bv hx)) ?_;refine Aw AP AB U U ?_;refine Ba ?_;replace H:=H.drew
 refine BR (a) (fun z => .int .u64 (if z=a then (f) (p) else (f) z)) (.int _ _) AB U U U H at0 (by rw [if_pos rfl]; exact congrArg (fun z=>Value.int .u64 ((f) z)) (by omega)) (fun z _ hz=>by rw [if_neg hz]) ?_;rintro w H;refine Ab (Bo U (A0 U U ?_));refine Aw AP AB U U ?_;refine Ba (BR (p) (fun z => .int .u64 (sw (f) (a) (p) z)) (.int _ _) AB U U U H at0 (by rw [Cl]; exact congrArg (fun z=>Value.int .u64 ((f) z)) (by omega)) (fun z _ hz=>by rw [Cj hz]) ?_);rintro w H;refine Ab (Bo U (B6 ?_));have hS0:=(Sw.refl (a:=a) (b:=b) f).step a p ⟨by omega,by omega⟩ hp;obtain ⟨g,hg⟩:∃ g,g=sw f a p:=⟨_,rfl⟩;have hga:g a=f p:=by rw [hg,Eu]
 rw [← hg] at hS0 H;refine Ag (Ad U (A3 U U ?_));rw [show (a:Int)+1=((a+1:Nat):Int) by omega];refine Ad U (AN U U ?_);rw [show (b:Int) - 1=((b - 1:Nat):Int) by omega];refine Ae U (Ae U (Ab (Aa (Ax (A4 (Bt 9671406556917032860780032 (α:=Nat × Nat × (Nat→Int)) (fun t=>[(9,.int .i64 (t.1:Int)),(10,.int .i64 (t.2.1:Int))]) (fun t w'=>(a+1≤t.1∧t.1≤t.2.1+1∧t.2.1<b∧(∀ x,a<x→x<t.1→(t.2.2) x≤(t.2.2) a)∧∀ y,t.2.1<y→y<b→(t.2.2) a<(t.2.2) y)∧t.2.2 a=f p∧Sw a b f t.2.2∧Ctx w0 [q] w' [(q,Bl 32 (B4 t.2.2 m))]) (fun t=>b - t.1) (a+1,b - 1,g) U ?_ ?_ ?_))))))
 ·exact ⟨rfl,rfl,trivial⟩
 ·exact ⟨⟨Nat.le_refl _,by dsimp only; omega,by dsimp only; omega,fun x h1 h2=>by dsimp only at h2; omega,fun y h1 h2=>by dsimp only at h1; omega⟩,hga,hS0,H⟩
 ·rintro ⟨i,j,g⟩ j0 w ⟨hi0,hga,hS0,H⟩; dsimp only at hi0 hga hS0 H; dsimp only;obtain ⟨i0,hi0e⟩:∃ i0,i0=i:=⟨_,rfl⟩;obtain ⟨j1,hj1e⟩:∃ j1,j1=j:=⟨_,rfl⟩;have hi1:i0≤i∧a+1≤i∧i≤j+1∧j<b∧(∀ x,a<x→x<i→(g) x≤(g) a)∧∀ y,j<y→y<b→(g) a<(g) y:=⟨by omega,hi0⟩;refine A4 (Ax (A4 (Bt 70368207307264 (α:=Nat) (fun i=>[(9,.int .i64 (i:Int))]) (fun i w'=>(i0≤i∧a+1≤i∧i≤j+1∧j<b∧(∀ x,a<x→x<i→(g) x≤(g) a)∧∀ y,j<y→y<b→(g) a<(g) y)∧Ctx w0 [q] w' [(q,Bl 32 (B4 (g) m))]) (fun i=>j+1 - i) i U ?_ ?_ ?_)))
  ·exact ⟨by rfl,trivial⟩
  ·exact ⟨hi1,H⟩
  ·rintro i jx w ⟨hiv,H⟩;refine Ax (DN 17591649173504 (α:=Unit) (fun _=>[(43,.bool (decide (i≤j∧¬ g a<g i)))]) (fun _ w'=>Ctx w0 [q] w' [(q,Bl 32 (B4 (g) m))]) U ?_ ?_)
   ·skip
    refine Fg 12 Bz U U ?_;refine AJ U (AJ U (Kw U U U (DC U (Dh 32 U ?_ ?_))))
    ·intro h1;replace h1:=AX h1;refine Bx U (AJ U (Bc AP AB U U ?_));refine CR Bm U (by rintro _ rfl; exact ((Bv (H.drew.get at0)))) ?_;refine Bx U (AJ U (Bc AP AB U U ?_));refine CR Bm U (by rintro _ rfl; exact ((Bv (H.drew.get at0)))) ?_;refine BZ ?_;replace H:=H.drew;refine Ai Dz (CN _ _ _) U ?_;rintro v w ⟨rfl,rfl⟩;simp only [Int.toNat_natCast];refine C7 U (Av U (.bool _) U (Ab (Aa ?_)));exact ⟨(),rfl,⟨congrArg Value.bool (by clear hiv; rw [Bool.eq_iff_iff]; simp_all; try omega),trivial⟩,H⟩
    ·intro h2;replace h2:=AY h2;refine AF U (AF U (AF U (AF U (AF U (AF U (AF U (AF U (BZ ?_))))))));replace H:=H.drew;refine Af U (Af U (AE U (.bool _) U (Ab (Aa ?_))));exact ⟨(),rfl,⟨congrArg Value.bool (by clear hiv; rw [Bool.eq_iff_iff]; simp_all; try omega),trivial⟩,H⟩
   ·rintro - jy w H;refine Ay _ U ?_ ?_
    ·intro hc;have hc:=of_decide_eq_true hc;refine A2 (Aa (A4 (A5 (Ad U (A3 U U ?_)))));refine Ae U (Ab (AU (Aa ?_)));exact ⟨i+1,rfl,⟨congrArg (Value.int .i64) (by omega),trivial⟩,⟨⟨by omega,by omega,by omega,by omega,fun x h1 h2=>(if e:x=i then by rw [e]; omega else hiv.2.2.2.2.1 x h1 (by omega)),hiv.2.2.2.2.2⟩,H⟩,by omega⟩
    ·intro hc;have hc:=of_decide_eq_false hc;have hci:=hc;have hi2:j≤j1∧a+1≤i∧i≤j+1∧j<b∧(∀ x,a<x→x<i→(g) x≤(g) a)∧∀ y,j<y→y<b→(g) a<(g) y:=⟨by omega,hiv.2⟩;have hi3:=hiv.1;refine Bs (Ao (Ao (AK (Aa (Ax (A4 (Bt 4611615649683211264 (α:=Nat) (fun j=>[(10,.int .i64 (j:Int))]) (fun j w'=>(j≤j1∧a+1≤i∧i≤j+1∧j<b∧(∀ x,a<x→x<i→(g) x≤(g) a)∧∀ y,j<y→y<b→(g) a<(g) y)∧Ctx w0 [q] w' [(q,Bl 32 (B4 (g) m))]) (fun j=>j) j U ?_ ?_ ?_)))))))
     ·exact ⟨by rfl,trivial⟩
     ·exact ⟨hi2,H⟩
     ·rintro j jx w ⟨hiv,H⟩;refine Ax (DN 1152851135862669312 (α:=Unit) (fun _=>[(59,.bool (decide (i≤j∧g a<g j)))]) (fun _ w'=>Ctx w0 [q] w' [(q,Bl 32 (B4 (g) m))]) U ?_ ?_)
      ·skip
       refine Fg 12 Bz U U ?_;refine AJ U (AJ U (Kw U U U (DC U (Dh 49 U ?_ ?_))))
       ·intro h3;replace h3:=AX h3;refine Bx U (AJ U (Bc AP AB U U ?_));refine CR Bm U (by rintro _ rfl; exact ((Bv (H.drew.get at0)))) ?_;refine Bx U (AJ U (Bc AP AB U U ?_));refine CR Bm U (by rintro _ rfl; exact ((Bv (H.drew.get at0)))) ?_;refine BZ ?_;replace H:=H.drew;refine Ai Dz (CN _ _ _) U ?_;rintro v w ⟨rfl,rfl⟩;simp only [Int.toNat_natCast];refine Av U (.bool _) U (Ab (Aa ?_));exact ⟨(),rfl,⟨congrArg Value.bool (by clear hiv; rw [Bool.eq_iff_iff]; simp_all; try omega),trivial⟩,H⟩
       ·intro h4;replace h4:=AY h4;refine AF U (AF U (AF U (AF U (AF U (AF U (AF U (AF U (BZ ?_))))))));replace H:=H.drew;refine Af U (AE U (.bool _) U (Ab (Aa ?_)));exact ⟨(),rfl,⟨congrArg Value.bool (by clear hiv; rw [Bool.eq_iff_iff]; simp_all; try omega),trivial⟩,H⟩
      ·rintro - jy w H;refine Ay _ U ?_ ?_
       ·intro hc;have hc:=of_decide_eq_true hc;refine A2 (Aa (A4 (A5 (Ad U (AN U U ?_)))));refine Ae U (Ab (AU (Aa ?_)));exact ⟨j - 1,rfl,⟨congrArg (Value.int .i64) (by omega),trivial⟩,⟨⟨by omega,by omega,by omega,by omega,hiv.2.2.2.2.1,fun y h1 h2=>(if e:y=j then by rw [e]; exact hc.2 else hiv.2.2.2.2.2 y (by omega) h2)⟩,H⟩,by omega⟩
       ·intro hc;have hc:=of_decide_eq_false hc;have hci:¬ (i≤j∧¬ g a<g i):=fun h=>hci ⟨by omega,h.2⟩;replace hiv:=hiv.2;refine Bs (Ao (Ao (AK (Aa (Ax (Ag (Ad U (Ad U (CP U U (Ab (Aa (Ay _ U ?_ ?_))))))))))))
        ·intro h5;replace h5:=AX h5;have hji:j+1=i:=by omega
         refine Bs (Ao (EL U (Ao (AK (Aa (Ag (Ad U (Ae U (Ab (Aa (A9 (AD (v:=(.int _ _)) U U U ?_))))))))))));exact ⟨i,g,rfl,hS0,by omega,by omega,hga,fun x h1 h2=>(if e:x=a then by rw [e]; exact Int.le_refl _ else hiv.2.2.2.1 x (by omega) h2),fun y h1 h2=>hiv.2.2.2.2 y (by omega) h2,H⟩
        ·intro h5;replace h5:=AY h5
         have hgi:g a<g i:=by rcases Int.lt_or_le (g a) (g i) with h7 | h7; exact h7; exact absurd ⟨by omega,by omega⟩ hci
         have hgj:g j≤g a:=by rcases Int.lt_or_le (g a) (g j) with h7 | h7; exact absurd ⟨by omega,h7⟩ hc; exact h7
         have hne:i<j:=by
          rcases Nat.lt_or_ge i j with h | h
          ·exact h
          ·obtain rfl:i=j:=by omega
           omega
         refine A2 (Aa (BT [([0,1,2,3,4,5,6,7,8,9,10,11,12],13),([14],15)] (fun z=>z.heap[q]? = some (Bl 32 (B4 (g) m))) [13,15] Bz (H.drew.get at0) ?_));refine A0 U U ?_;refine AM U (AG U (AM U (AG U (AM U (AG U (Aw AP AB U U ?_))))));refine BE Bm U (fun _ hx=>(Bv hx)) ?_;refine AM U (AG U (Aw AP AB U U ?_));refine BE Bm U (fun _ hx=>(Bv hx)) ?_;refine Aw AP AB U U ?_;refine Ba ?_;replace H:=H.drew;refine BR (i) (fun z => .int .u64 (if z=i then (g) (j) else (g) z)) (.int _ _) AB U U U H at0 (by rw [if_pos rfl]; exact congrArg (fun z=>Value.int .u64 ((g) z)) (by omega)) (fun z _ hz=>by rw [if_neg hz]) ?_;rintro w H;refine Ab (Bo U (A0 U U ?_));refine Aw AP AB U U ?_
         refine Ba (BR (j) (fun z => .int .u64 (sw (g) (i) (j) z)) (.int _ _) AB U U U H at0 (by rw [Cl]; exact congrArg (fun z=>Value.int .u64 ((g) z)) (by omega)) (fun z _ hz=>by rw [Cj hz]) ?_);rintro w H;refine Ab (Bo U (B6 (Ag (Ad U (A3 U U ?_)))));refine Ae U (Ab (Aa (A5 (Ad U (AN U U ?_)))));refine Ae U (Ab (AU (Aa ?_)));exact ⟨(i+1,j - 1,sw g i j),rfl,⟨rfl,congrArg (Value.int .i64) (by dsimp only; omega),trivial⟩,⟨UJ hiv hne hgi hgj,(CD).trans hga,hS0.step i j ⟨by omega,by omega⟩ ⟨by omega,by omega⟩,H⟩,by dsimp only; omega⟩
set_option maxRecDepth 20000 in
set_option maxHeartbeats 4000000 in
theorem Og {a b:Nat} (hd:w.heap[q]? = some (Bl 32 (B4 f m))) (hn:n≤m) (hm:n≤1000000000) (hLB:0<a→∀ x,a≤x→x<b→f (a - 1)≤f x)  (hab:a<b:=by omega) (hb:b≤n:=by omega):
  Ret Tryz.prog 239 #[.slice (some ⟨q,0,none⟩) n c,.int .i64 (a:Int),.int .i64 (b:Int)] w fun v w'=>∃ (t:Bool) (g:Nat→Int),v = .bool t∧Sw a b f g∧(t=true→FD g a b)∧Ctx w [q] w' [(q,Bl 32 (B4 g m))]:=by
 obtain ⟨w0,rfl⟩:∃ w0,w0=w:=⟨_,rfl⟩;have H:=Ctx.start1 hd;refine Au (fn:=Tryz.f239) Tryz.func239 U [.slice (some ⟨q,0,none⟩) n c,.int .i64 (a:Int),.int .i64 (b:Int)] U ?_;refine Ag (Am U (Ab (Aa (Ag (Ad U (A3 U U ?_))))));rw [show (a:Int)+1=((a+1:Nat):Int) by omega];refine Ae U (Ab (Aa (Ax (Ag (Ae U (Ab (Aa (A4 (Bt 10889035741470030830827987437816582760384 (α:=Nat × Nat × (Nat→Int)) (fun t=>[(8,.int .i64 (t.1:Int)),(7,.int .i64 (t.2.1:Int))]) (fun t w'=>t.1≤5∧(a+1≤t.2.1∧t.2.1≤b∧FD t.2.2 a t.2.1)∧Sw a b f t.2.2∧Ctx w0 [q] w' [(q,Bl 32 (B4 t.2.2 m))]) (fun t=>5 - t.1) (0,a+1,f) U ?_ ?_ ?_)))))))))
 ·exact ⟨rfl,rfl,trivial⟩
 ·exact ⟨by dsimp only; omega,⟨Nat.le_refl _,by dsimp only; omega,fun x y h1 h2 h3=>by dsimp only at h3; omega⟩,.refl _,H⟩
 ·rintro ⟨st,i,g⟩ j0 w ⟨hst,hi0,hS0,H⟩; dsimp only at hst hi0 hS0 H; dsimp only;refine Ax (Ag (Ad U (Bu U U (Ab (Aa (Ay _ U ?_ ?_))))))
  ·intro h1;replace h1:=AX h1
   have hLBg:0<a→∀ g',Sw a b f g'→∀ x,a≤x→x<b→g' (a - 1)≤g' x:=fun h0 g' h x hx hxb=>by
    obtain ⟨z,hz1,hz2,hz3⟩:=h.mem x hx hxb;rw [h.out (a - 1) (.inl (by omega)),hz3];exact hLB h0 z hz1 hz2
   refine A2 (Aa (Ax (A4 (Ax (A4 (Bt 34359607424 (α:=Nat) (fun i=>[(7,.int .i64 (i:Int))]) (fun i w'=>(a+1≤i∧i≤b∧FD g a i)∧Ctx w0 [q] w' [(q,Bl 32 (B4 (g) m))]) (fun i=>b - i) i U ?_ ?_ ?_))))))
   ·exact ⟨by rfl,trivial⟩
   ·exact ⟨hi0,H⟩
   ·rintro i jx w ⟨hiv,H⟩;refine Ax (DN 8589803520 (α:=Unit) (fun _=>[(32,.bool (decide (i<b∧¬ g i<g (i - 1))))]) (fun _ w'=>Ctx w0 [q] w' [(q,Bl 32 (B4 (g) m))]) U ?_ ?_)
    ·skip
     refine Fg 13 Bz U U ?_;refine AJ U (AJ U (Vk U U U (DC U (Dh 20 U ?_ ?_))))
     ·intro h1;replace h1:=AX h1;refine Bx U (AJ U (Bc AP AB U U ?_));refine CR Bm U (by rintro _ rfl; exact ((Bv (H.drew.get at0)))) ?_;refine Bx U (AJ U (EP U U U ?_));refine Bc AP AB U U ?_;refine CR Bm U (by rintro _ rfl; exact ((Bv (H.drew.get at0)))) ?_;refine BZ ?_;replace H:=H.drew;refine Ai Dz (CN _ _ _) U ?_;rintro v w ⟨rfl,rfl⟩;rw [show ((i:Int) - 1).toNat=i - 1 by omega,Int.toNat_natCast];refine C7 U (Av U (.bool _) U (Ab (Aa ?_)));exact ⟨(),rfl,⟨congrArg Value.bool (by clear hiv; rw [Bool.eq_iff_iff]; simp_all; try omega),trivial⟩,H⟩
     ·intro h2;replace h2:=AY h2;refine AF U (AF U (AF U (AF U (AF U (AF U (AF U (AF U (AF U (BZ ?_)))))))));replace H:=H.drew;refine Af U (Af U (AE U (.bool _) U (Ab (Aa ?_))));exact ⟨(),rfl,⟨congrArg Value.bool (by clear hiv; rw [Bool.eq_iff_iff]; simp_all; try omega),trivial⟩,H⟩
    ·rintro - jy w H;refine Ay _ U ?_ ?_
     ·intro hc;have hc:=of_decide_eq_true hc;refine A2 (Aa (A4 (A5 (Ad U (A3 U U ?_)))));refine Ae U (Ab (AU (Aa ?_)));exact ⟨i+1,rfl,⟨congrArg (Value.int .i64) (by omega),trivial⟩,⟨⟨by omega,by omega,fun x y hx hxy hy=>(if e:y=i then (by rw [e]; exact (if e2:x=i - 1 then by rw [e2]; omega else Int.le_trans (hiv.2.2 x (i - 1) hx (by omega) (by omega)) (by omega))) else hiv.2.2 x y hx hxy (by omega))⟩,H⟩,by omega⟩
     ·intro hc;have hc:=of_decide_eq_false hc;refine Bs (Ao (Ao (AK (Aa (Ax (Ag (Ad U (Ad U (Cp U U (Ab (Aa (Ay _ U ?_ ?_))))))))))))
      ·intro h2;replace h2:=AX h2;refine Ag (Am U (Ab (Aa (A9 (A7 (Bd (A7 (A7 (Bd (A7 (AD (v:=(.bool _)) U U U ?_)))))))))));obtain rfl:i=b:=by omega
       exact ⟨true,g,rfl,hS0,fun _=>hiv.2.2,H⟩
      ·intro h2;replace h2:=AY h2;have hib:i<b:=by omega
       have hlt:g i<g (i - 1):=by rcases Int.lt_or_le (g i) (g (i - 1)) with h7 | h7; exact h7; exact absurd ⟨hib,by omega⟩ hc
       refine A2 (Aa (Ax (Ag (Ad U (Ad U (AN U U ?_))))));refine Bu U U (Ab (Aa (Ay _ U ?_ ?_)))
       ·intro h3;replace h3:=AX h3;refine Ag (Am U (Ab (Aa (A9 (A7 (Bd (A7 (A7 (Bd (A7 (AD (v:=(.bool _)) U U U ?_)))))))))));exact ⟨false,g,rfl,hS0,(fun h=>by cases h),H⟩
       ·intro h3;replace h3:=AY h3;refine A2 (Aa (BT [([0,1,2,3,4,5,6,7,8,9,10,11,12,13,14],15),([16],17)] (fun z=>z.heap[q]? = some (Bl 32 (B4 (g) m))) [15,17] Bz (H.drew.get at0) ?_));refine A0 U U ?_;refine AM U (AG U (AM U (AG U (Dt U U ?_))));refine AM U (AG U (Dt U U ?_));refine Aw AP AB U U ?_;refine BE Bm U (fun _ hx=>(Bv hx)) ?_;refine AM U (AG U (Aw AP AB U U ?_));refine BE Bm U (fun _ hx=>(Bv hx)) ?_;refine Aw AP AB U U ?_;refine Ba ?_;replace H:=H.drew;refine BR (i) (fun z => .int .u64 (if z=i then (g) (i - 1) else (g) z)) (.int _ _) AB U U U H at0 (by rw [if_pos rfl]; exact congrArg (fun z=>Value.int .u64 ((g) z)) (by omega)) (fun z _ hz=>by rw [if_neg hz]) ?_;rintro w H
        refine Ab (Bo U (A0 U U ?_));refine Aw AP AB U U ?_;refine Ba (BR (i - 1) (fun z => .int .u64 (sw (g) (i) (i - 1) z)) (.int _ _) AB U U U H at0 (by rw [Cl]; exact congrArg (fun z=>Value.int .u64 ((g) z)) (by omega)) (fun z _ hz=>by rw [Cj hz]) ?_);rintro w H;refine Ab (Bo U (B6 (Ax ?_)));have hS1:=hS0.step i (i - 1) ⟨by omega,by omega⟩ ⟨by omega,by omega⟩;have hI1:InsU (sw g i (i - 1)) a (i - 1) (i - 1):=fun x y hx hxy hy hne=>by rw [CD,CD]; exact hiv.2.2 x y hx hxy (by omega)
        obtain ⟨g1,hg1⟩:∃ g1,g1=sw g i (i - 1):=⟨_,rfl⟩;rw [← hg1] at hS1 hI1 H;refine Ag (Ad U (Ad U (AN U U ?_)));refine Ci U U (Ab (Aa (Dl 39614081252520482778344587776 (α:=Nat→Int) (fun _=>[]) (fun g w'=>FD g a i∧Sw a b f g∧Ctx w0 [q] w' [(q,Bl 32 (B4 g m))]) U ?_ ?_)))
        ·skip
         refine Ay _ U ?_ ?_
         ·intro h4;replace h4:=AX h4;refine Ag (Ad U (AN U U ?_));rw [show (i:Int) - 1=((i - 1:Nat):Int) by omega];refine Ae U (Ab (Aa (A4 (Bt 39614081238685424723062424064 (α:=Nat × (Nat→Int)) (fun t=>[(9,.int .i64 (t.1:Int))]) (fun t w'=>(a≤t.1∧t.1≤i - 1∧InsU t.2 a t.1 (i - 1))∧Sw a b f t.2∧Ctx w0 [q] w' [(q,Bl 32 (B4 t.2 m))]) (fun t=>t.1) (i - 1,g1) U ?_ ?_ ?_))))
          ·exact ⟨rfl,trivial⟩
          ·exact ⟨⟨by dsimp only; omega,Nat.le_refl _,hI1⟩,hS1,H⟩
          ·rintro ⟨j,g⟩ j3 w ⟨hj,hS,H⟩; dsimp only at hj hS H; dsimp only;have hex:(a<j→g (j - 1)≤g j)→FD g a i:=fun h7=>by have h8:=hj.2.2.done hj.1 h7; rw [show i - 1+1=i by omega] at h8; exact h8
           refine Ax (Ag (Ad U (Ci U U (Ab (Aa (Ay _ U ?_ ?_))))))
           ·intro h5;replace h5:=AX h5;refine A2 (Aa (Ax (A4 (Ax (El 9 Bz U U ?_)))));refine Bx U (AJ U (Bc AP AB U U ?_));refine CR Bm U (by rintro _ rfl; exact ((Bv (H.drew.get at0)))) ?_;refine Bx U (AJ U (EP U U U ?_));refine Bc AP AB U U ?_;refine CR Bm U (by rintro _ rfl; exact ((Bv (H.drew.get at0)))) ?_;refine BZ ?_;replace H:=H.drew;refine Ai Dz (CN _ _ _) U ?_;rintro v w ⟨rfl,rfl⟩;rw [show ((j:Int) - 1).toNat=j - 1 by omega,Int.toNat_natCast];refine C7 U (Ab (Aa (Ay _ U ?_ ?_)))
            ·intro h6;replace h6:=Df h6;have h6:¬ g j<g (j - 1):=by simpa using h6
             refine Bs (Ao (EL U (Ao (Ao (AK (Aa ?_))))));exact ⟨g,rfl,trivial,hex fun _=>by omega,hS,H⟩
            ·intro h6;replace h6:=Dg h6;have h6:g j<g (j - 1):=by simpa using h6
             have haj:a<j:=by
              rcases Nat.lt_or_ge a j with h | h
              ·exact h
              ·obtain rfl:a=j:=by omega
               have:=hLBg (by omega) g hS a (Nat.le_refl _) hab;omega
             refine A2 (Aa (G6 [([0,1,2,3,4,5,6,7,8,9,10,11,12,13,14],15),([16],17)] (fun z=>z.heap[q]? = some (Bl 32 (B4 (g) m))) [15,17] Bz (H.drew.get at0) ?_));refine A0 U U ?_;refine AM U (AG U (AM U (AG U (Dt U U ?_))));refine AM U (AG U (Dt U U ?_));refine Aw AP AB U U ?_;refine BE Bm U (fun _ hx=>(Bv hx)) ?_;refine AM U (AG U (Aw AP AB U U ?_));refine BE Bm U (fun _ hx=>(Bv hx)) ?_;refine Aw AP AB U U ?_;refine Ba ?_;replace H:=H.drew;refine BR (j) (fun z => .int .u64 (if z=j then (g) (j - 1) else (g) z)) (.int _ _) AB U U U H at0 (by rw [if_pos rfl]; exact congrArg (fun z=>Value.int .u64 ((g) z)) (by omega)) (fun z _ hz=>by rw [if_neg hz]) ?_;rintro w H
             refine Ab (Bo U (A0 U U ?_));refine Aw AP AB U U ?_;refine Ba (BR (j - 1) (fun z => .int .u64 (sw (g) (j) (j - 1) z)) (.int _ _) AB U U U H at0 (by rw [Cl]; exact congrArg (fun z=>Value.int .u64 ((g) z)) (by omega)) (fun z _ hz=>by rw [Cj hz]) ?_);rintro w H;refine Ab (Bo U (B6 (AU (Aa (A5 (Ad U (AN U U ?_)))))));refine Ae U (Ab (Aa ?_));exact ⟨(j - 1,sw g j (j - 1)),rfl,⟨congrArg (Value.int .i64) (by dsimp only; omega),trivial⟩,⟨⟨by dsimp only; omega,by dsimp only; omega,hj.2.2.step haj hj.2.1 h6⟩,hS.step j (j - 1) ⟨by omega,by omega⟩ ⟨by omega,by omega⟩,H⟩,by dsimp only; omega⟩
           ·intro h5;replace h5:=AY h5;refine Bs (Ao (Ao (AK (Aa ?_))));exact ⟨g,rfl,trivial,hex fun _=>by omega,hS,H⟩
         ·intro h4;replace h4:=AY h4;refine A2 (Aa ?_);exact ⟨g1,rfl,trivial,fun x y hx hxy hy=>by omega,hS1,H⟩
        ·rintro g2 j4 w ⟨hO2,hS2,H⟩;refine Ag (Ad U (Ad U (AN U U ?_)));refine Ci U U (Ab (Aa (Ay _ U ?_ ?_)))
         ·intro h4;replace h4:=AX h4;refine Ag (Ad U (A3 U U ?_));rw [show (i:Int)+1=((i+1:Nat):Int) by omega];refine Ae U (Ab (Aa (A4 (Bt 10889035738934729630371528634823176356864 (α:=Nat × (Nat→Int)) (fun t=>[(10,.int .i64 (t.1:Int))]) (fun t w'=>(i+1≤t.1∧t.1≤b∧FD t.2 a i)∧Sw a b f t.2∧Ctx w0 [q] w' [(q,Bl 32 (B4 t.2 m))]) (fun t=>b - t.1) (i+1,g2) U ?_ ?_ ?_))))
          ·exact ⟨rfl,trivial⟩
          ·exact ⟨⟨Nat.le_refl _,by dsimp only; omega,hO2⟩,hS2,H⟩
          ·rintro ⟨j,g⟩ j5 w ⟨hj,hS,H⟩; dsimp only at hj hS H; dsimp only;refine Ax (Ag (Ad U (Ad U (Bu U U (Ab (Aa (Ay _ U ?_ ?_)))))))
           ·intro h5;replace h5:=AX h5;refine A2 (Aa (Ax (A4 (Ax (El 9 Bz U U ?_)))));refine Bx U (AJ U (Bc AP AB U U ?_));refine CR Bm U (by rintro _ rfl; exact ((Bv (H.drew.get at0)))) ?_;refine Bx U (AJ U (EP U U U ?_));refine Bc AP AB U U ?_;refine CR Bm U (by rintro _ rfl; exact ((Bv (H.drew.get at0)))) ?_;refine BZ ?_;replace H:=H.drew;refine Ai Dz (CN _ _ _) U ?_;rintro v w ⟨rfl,rfl⟩;rw [show ((j:Int) - 1).toNat=j - 1 by omega,Int.toNat_natCast];refine C7 U (Ab (Aa (Ay _ U ?_ ?_)))
            ·intro h6;replace h6:=Df h6;refine Bs (Ao (EL U (Ao (Ao (AK (AU (Aa (A5 (Ad U (A3 U U ?_))))))))));refine Ae U (Ab (Aa ?_));exact ⟨(st+1,i,g),rfl,⟨rfl,rfl,trivial⟩,⟨by dsimp only; omega,⟨by dsimp only; omega,by dsimp only; omega,hj.2.2⟩,hS,H⟩,by dsimp only; omega⟩
            ·intro h6;replace h6:=Dg h6;refine A2 (Aa (G6 [([0,1,2,3,4,5,6,7,8,9,10,11,12,13,14],15),([16],17)] (fun z=>z.heap[q]? = some (Bl 32 (B4 (g) m))) [15,17] Bz (H.drew.get at0) ?_));refine A0 U U ?_;refine AM U (AG U (AM U (AG U (Dt U U ?_))));refine AM U (AG U (Dt U U ?_));refine Aw AP AB U U ?_;refine BE Bm U (fun _ hx=>(Bv hx)) ?_;refine AM U (AG U (Aw AP AB U U ?_));refine BE Bm U (fun _ hx=>(Bv hx)) ?_;refine Aw AP AB U U ?_;refine Ba ?_;replace H:=H.drew;refine BR (j) (fun z => .int .u64 (if z=j then (g) (j - 1) else (g) z)) (.int _ _) AB U U U H at0 (by rw [if_pos rfl]; exact congrArg (fun z=>Value.int .u64 ((g) z)) (by omega)) (fun z _ hz=>by rw [if_neg hz]) ?_;rintro w H
             refine Ab (Bo U (A0 U U ?_));refine Aw AP AB U U ?_;refine Ba (BR (j - 1) (fun z => .int .u64 (sw (g) (j) (j - 1) z)) (.int _ _) AB U U U H at0 (by rw [Cl]; exact congrArg (fun z=>Value.int .u64 ((g) z)) (by omega)) (fun z _ hz=>by rw [Cj hz]) ?_);rintro w H;refine Ab (Bo U (B6 (AU (Aa (A5 (Ad U (A3 U U ?_)))))));refine Ae U (Ab (Aa ?_));exact ⟨(j+1,sw g j (j - 1)),rfl,⟨rfl,trivial⟩,⟨⟨by dsimp only; omega,by dsimp only; omega,fun x y hx hxy hy=>by dsimp only; rw [CD,CD]; exact hj.2.2 x y hx hxy hy⟩,hS.step j (j - 1) ⟨by omega,by omega⟩ ⟨by omega,by omega⟩,H⟩,by dsimp only; omega⟩
           ·intro h5;replace h5:=AY h5;refine Bs (Ao (Ao (AK (AU (Aa (A5 (Ad U (A3 U U ?_))))))));refine Ae U (Ab (Aa ?_));exact ⟨(st+1,i,g),rfl,⟨rfl,rfl,trivial⟩,⟨by dsimp only; omega,⟨by dsimp only; omega,by dsimp only; omega,hj.2.2⟩,hS,H⟩,by dsimp only; omega⟩
         ·intro h4;replace h4:=AY h4;refine A2 (AU (Aa (A5 (Ad U (A3 U U ?_)))));refine Ae U (Ab (Aa ?_));exact ⟨(st+1,i,g2),rfl,⟨rfl,rfl,trivial⟩,⟨by dsimp only; omega,⟨by dsimp only; omega,by dsimp only; omega,hO2⟩,hS2,H⟩,by dsimp only; omega⟩
  ·intro h1;replace h1:=AY h1;refine Bs (Ao (Ao (AK (Aa (Ag (Am U (Ab (Aa (A9 (AD (v:=(.bool _)) U U U ?_))))))))));exact ⟨false,g,rfl,hS0,(fun h=>by cases h),H⟩
end
end Go.Proofs.YtibemkominehdaaGreat
namespace Go.Proofs.YtibemkominehdaaGreat
open Go.GV
attribute [local irreducible] Al W Wq Wt
theorem Oh (x:Nat) (w:World) (hx:x≤4503599627370496:=by omega):Ret Tryz.prog 211 #[.int .u64 (x:Int)] w fun v w'=>∃ r:Nat,v = .int .i64 (r:Int)∧x<2 ^ r∧r≤64∧(0<x→2 ^ r≤2*x)∧w=w':=by
 refine Au (fn:=Tryz.f211) Tryz.func211 U [.int .u64 (x:Int)] U ?_;refine Ag (Ae U (Ab (Aa (Ax (Ay _ U ?_ ?_)))))
 ·intro h;cases h
 ·intro h;refine A2 (Aa (Ag (Ad U (Ai Wr (SZ x hx w) U ?_))));rintro v w ⟨r,rfl,h1,h2,h3,rfl⟩;refine Ae U (Ab (Aa (A9 (AD (v:=(.int _ _)) U U U ?_))));exact ⟨r,rfl,h1,h2,h3,rfl⟩
theorem UK (l:Nat) (w:World) (h0:0<l:=by omega) (hl:l≤1000000000:=by omega):Ret Tryz.prog 267 #[.int .i64 (l:Int)] w fun v w'=>∃ r:Nat,v = .int .u64 (r:Int)∧0<r∧r≤2*l∧w=w':=by
 refine Au (fn:=Tryz.f267) Tryz.func267 U [.int .i64 (l:Int)] U ?_;refine Ag (Ae U (Ab (Aa (Ag (Ad U (Cv U E0 J5 ?_))))));refine Ai NV (Oh l w) U ?_;rintro v w ⟨r,rfl,h1,h2,h3,rfl⟩;refine Ju (a:=1) (n:=r) U U U h2 ?_;refine Ae U (Ab (Aa (A9 (AD (v:=(.int _ _)) U U U ?_))));have h4:=h3 h0;have h5:=Nat.two_pow_pos r;exact ⟨2 ^ r,congrArg (Value.int .u64) (by rw [Nat.one_mul,Nat.mod_eq_of_lt (by omega)]),h5,h4,rfl⟩
theorem Tb {x y:Nat} (hx:x<18446744073709551616) (hy:y<18446744073709551616):x ^^^ y<18446744073709551616:=Nat.xor_lt_two_pow (n:=64) hx hy
section
variable {w:World} {q n c m s:Nat} {f:Nat→Int}
set_option maxRecDepth 20000 in
theorem UL {z:Nat} (hs:w.heap[s]? = some (Bl 329 [.int .u64 (z:Int)])) (hz:z<18446744073709551616) :
  Ret Tryz.prog 268 #[ptr s] w fun v w'=>∃ z':Nat,v = .int .u64 (z':Int)∧z'<18446744073709551616∧Ctx w [s] w' [(s,Bl 329 [.int .u64 (z':Int)])]:=by
 obtain ⟨w0,rfl⟩:∃ w0,w0=w:=⟨_,rfl⟩;have H:=Ctx.start1 hs;refine Au (fn:=Tryz.f268) Tryz.func268 U [.pointer (some ⟨s,0,none⟩)] U ?_;have b1:=Nat.mod_lt (z*2 ^ 13) (show 0<18446744073709551616 by decide);obtain ⟨y1,hy1⟩:∃ y1,y1=z*2 ^ 13 % 18446744073709551616:=⟨_,rfl⟩;rw [← hy1] at b1;refine Ag (Ae U (Ab (Aa (El 9 Bz U U ?_))));refine E7 U (Cq U (DS GC U (by rintro _ rfl; exact H.drew) at0 U ?_));refine E7 U (Cq U (DS GC U (by rintro _ rfl; exact H.drew) at0 U ?_));refine Kx (a:=z) (n:=13) U U U ?_;rw [← hy1];refine HD (a:=z) (b:=y1) U U U hz b1 ?_;refine Cq U (BZ ?_);replace H:=H.drew;refine Ck (.int _ _) LD U U U H at0 (by (simp; done)) ?_;rintro w H;refine Ab (Aa ?_);obtain ⟨z1,hz1⟩:∃ z1,z1=z ^^^ y1:=⟨_,rfl⟩;have c1:=Tb hz b1;rw [← hz1] at c1;replace H:Ctx w0 [s] w [(s,Bl 329 [.int .u64 (z1:Int)])]:=by rw [hz1]; exact H
 have b2:z1 / 2 ^ 7<18446744073709551616:=Nat.lt_of_le_of_lt (Nat.div_le_self _ _) c1;obtain ⟨y2,hy2⟩:∃ y2,y2=z1 / 2 ^ 7:=⟨_,rfl⟩;rw [← hy2] at b2;refine El 9 Bz U U ?_;refine E7 U (Cq U (DS GC U (by rintro _ rfl; exact H.drew) at0 U ?_));refine E7 U (Cq U (DS GC U (by rintro _ rfl; exact H.drew) at0 U ?_));refine Qe (a:=z1) (n:=7) U U U ?_;rw [← hy2];refine HD (a:=z1) (b:=y2) U U U c1 b2 ?_;refine Cq U (BZ ?_);replace H:=H.drew;refine Ck (.int _ _) LD U U U H at0 (by (simp; done)) ?_;rintro w H;refine Ab (Aa ?_);obtain ⟨z2,hz2⟩:∃ z2,z2=z1 ^^^ y2:=⟨_,rfl⟩;have c2:=Tb c1 b2;rw [← hz2] at c2;replace H:Ctx w0 [s] w [(s,Bl 329 [.int .u64 (z2:Int)])]:=by rw [hz2]; exact H
 have b3:=Nat.mod_lt (z2*2 ^ 17) (show 0<18446744073709551616 by decide);obtain ⟨y3,hy3⟩:∃ y3,y3=z2*2 ^ 17 % 18446744073709551616:=⟨_,rfl⟩;rw [← hy3] at b3;refine El 9 Bz U U ?_;refine E7 U (Cq U (DS GC U (by rintro _ rfl; exact H.drew) at0 U ?_));refine E7 U (Cq U (DS GC U (by rintro _ rfl; exact H.drew) at0 U ?_));refine Kx (a:=z2) (n:=17) U U U ?_;rw [← hy3];refine HD (a:=z2) (b:=y3) U U U c2 b3 ?_;refine Cq U (BZ ?_);replace H:=H.drew;refine Ck (.int _ _) LD U U U H at0 (by (simp; done)) ?_;rintro w H;refine Ab (Aa (Ag (AA U (Bb U (AH GC U H at0 U (Ae U (Ab (Aa (A9 (AD (v:=(.int _ _)) U U U ?_))))))))));exact ⟨z2 ^^^ y3,rfl,Tb c2 b3,H⟩
set_option maxRecDepth 20000 in
set_option maxHeartbeats 2000000 in
theorem Tc {a b:Nat} (hd:w.heap[q]? = some (Bl 32 (B4 f m))) (hn:n≤m) (hm:n≤1000000000)  (hab:a<b:=by omega) (hb:b≤n:=by omega):
  Ret Tryz.prog 236 #[.slice (some ⟨q,0,none⟩) n c,.int .i64 (a:Int),.int .i64 (b:Int)] w fun v w'=>v = .tuple #[]∧∃ g,Sw a b f g∧Ctx w [q] w' [(q,Bl 32 (B4 g m))]:=by
 obtain ⟨w0,rfl⟩:∃ w0,w0=w:=⟨_,rfl⟩;have H:=Ctx.start1 hd;obtain ⟨l,rfl⟩:∃ l,b=a+l:=⟨b - a,by omega⟩;have hl:((a+l:Nat):Int) - (a:Int)=(l:Int):=by omega
 refine Au (fn:=Tryz.f236) Tryz.func236 U [.slice (some ⟨q,0,none⟩) n c,.int .i64 (a:Int),.int .i64 ((a+l:Nat):Int)] U ?_;refine Ag (Ad U (Ad U (AN U U ?_)));rw [hl];refine Ae U (Ab (Aa (Ag (Ad U (Ci U U (Ab (Aa (Ay _ U ?_ ?_))))))))
 ·intro h1;replace h1:=AX h1;refine Ag (Ad U (Cv U E0 WA ?_));refine B5 WH H ?_;rintro b7 w - H;refine Ck (.int _ _) LD U U U H at0 (by decide) ?_;rintro w H;refine Ab (Aa (Ag (Ad U (Ai W1 (UK l _) U ?_))));rintro v w ⟨M,rfl,hM0,hM,rfl⟩;refine Ae U (Ab (Aa (Ag (Ad U (Ad U (G8 U U (show _≤(9223372036854775807:Int) by omega) ?_))))));refine C1 U U ?_;refine A3 U U ?_;refine AN U U ?_;rw [show (a:Int)+(l:Int) / 4*2 - 1=((a+l / 4*2 - 1:Nat):Int) by omega]
  refine Ae U (Ab (Aa (A4 (Bt 36893488147351995904 (α:=Nat × (Nat→Int) × Nat) (fun t=>[(9,.int .i64 (t.1:Int))]) (fun t w'=>a≤t.1∧t.1≤a+l / 4*2+2∧t.2.2<18446744073709551616∧Sw a (a+l) f t.2.1∧Ctx w0 [q] w' [(b7,Bl 329 [.int .u64 (t.2.2:Int)]),(q,Bl 32 (B4 t.2.1 m))]) (fun t=>a+l / 4*2+2 - t.1) (a+l / 4*2 - 1,f,l) U ?_ ?_ ?_))))
  ·exact ⟨rfl,trivial⟩
  ·exact ⟨by dsimp only; omega,by dsimp only; omega,by dsimp only; omega,.refl _,H⟩
  ·rintro ⟨i,g,z⟩ j0 w ⟨hi1,hi2,hz,hS,H⟩; dsimp only at hi1 hi2 hz hS H; dsimp only;refine Ax (Ag (Ad U (Ad U (Ad U (G8 U U (show _≤(9223372036854775807:Int) by omega) ?_)))));refine C1 U U ?_;refine A3 U U ?_;refine A3 U U ?_;refine Jn U U U (Ab (Aa (Ay _ U ?_ ?_)))
   ·intro h2;replace h2:=AX h2;refine A2 (Aa (Ax (A4 (Ag (Ai W3 (UL (H.get at0) hz) U ?_)))));rintro v w ⟨z2,rfl,hz2,H2⟩;replace H:=Ctx.back (L1:=[_]) (L2:=[_]) H H2;refine Ad U (NH U U U ?_);rw [show (M:Int) - 1=((M - 1:Nat):Int) by omega];refine Jt (a:=z2) (b:=M - 1) U U U hz2 (by omega) ?_;have hand:z2 &&& (M - 1)≤M - 1:=Nat.and_le_right;refine BP U J5 E0 ?_;refine Ae U (Ab (Aa (Ax (Ag (Ad U (Ad U (Ci U U (Ab (Aa ?_)))))))));obtain ⟨r,hr⟩:∃ r,r=z2 &&& (M - 1):=⟨_,rfl⟩;have hr2:r≤M - 1:=by rw [hr]; exact Nat.and_le_right
    rw [← hr];refine Dl 123145302311936 (α:=Nat) (fun r=>[(10,.int .i64 (r:Int))]) (fun r w'=>r<l∧Ctx w0 [q] w' [(b7,Bl 329 [.int .u64 (z2:Int)]),(q,Bl 32 (B4 g m))]) U ?_ ?_
    ·skip
     refine Ay _ U ?_ ?_
     ·intro h3;replace h3:=AX h3;refine A5 (Ad U (Ad U (AN U U ?_)));refine Ae U (Ab (Aa ?_));exact ⟨r - l,rfl,⟨congrArg (Value.int .i64) (by omega),trivial⟩,by omega,H⟩
     ·intro h3;replace h3:=AY h3;refine A2 (Aa ?_);exact ⟨r,rfl,⟨rfl,trivial⟩,by omega,H⟩
    ·rintro r2 j1 w ⟨hr3,H⟩;refine G6 [([0,1,2,3,4,5,6,7,8,9,10,11,12,13,14,15,16],17),([18],19)] (fun z=>z.heap[q]? = some (Bl 32 (B4 (g) m))) [17,19] Bz (H.drew.get at1) ?_;refine A0 U U ?_;refine AM U (AG U (AM U (AG U (AG U (CZ U U ?_)))));refine AM U (AG U (AG U (CZ U U ?_)));refine Aw AP AB U U ?_;refine BE Bm U (fun _ hx=>(Bv hx)) ?_;refine AM U (AG U (Aw AP AB U U ?_));refine BE Bm U (fun _ hx=>(Bv hx)) ?_;refine Aw AP AB U U ?_;refine Ba ?_;replace H:=H.drew;refine BR (i) (fun z => .int .u64 (if z=i then (g) (a+r2) else (g) z)) (.int _ _) AB U U U H at1 (by rw [if_pos rfl]; exact congrArg (fun z=>Value.int .u64 ((g) z)) (by omega)) (fun z _ hz=>by rw [if_neg hz]) ?_;rintro w H
     refine Ab (Bo U (A0 U U ?_));refine Aw AP AB U U ?_;refine Ba (BR (a+r2) (fun z => .int .u64 (sw (g) (i) (a+r2) z)) (.int _ _) AB U U U H at1 (by rw [Cl]; exact congrArg (fun z=>Value.int .u64 ((g) z)) (by omega)) (fun z _ hz=>by rw [Cj hz]) ?_);rintro w H;refine Ab (Bo U (B6 (AU (Aa (A5 (Ad U (A3 U U ?_)))))));refine Ae U (Ab (Aa ?_));exact ⟨(i+1,sw g i (a+r2),z2),rfl,⟨rfl,trivial⟩,⟨by dsimp only; omega,by dsimp only; omega,hz2,hS.step i (a+r2) ⟨by omega,by omega⟩ ⟨by omega,by omega⟩,H⟩,by dsimp only; omega⟩
   ·intro h2;replace h2:=AY h2;refine Bs (Ao (Ao (AK (CW U U ?_))));exact ⟨rfl,g,hS,H.tail⟩
 ·intro h1;replace h1:=AY h1;refine A2 (CW U U ?_);exact ⟨rfl,f,.refl _,H⟩
end
end Go.Proofs.YtibemkominehdaaGreat
namespace Go.Proofs.YtibemkominehdaaGreat
open Go.GV
attribute [local irreducible] Al W Wq Wt
structure PQ (f g:Nat→Int) (a b a' b':Nat):Prop where
 ha:a≤a'
 hab:a'≤b'
 hb:b'≤b
 sw:Sw a b f g
 out:∀ x y,a≤x→x<y→y<b→¬ (a'≤x∧y<b')→g x≤g y
 lb:0<a'→∀ x,a'≤x→x<b'→g (a' - 1)≤g x
section
variable {f g g':Nat→Int} {a b a' b':Nat}
theorem PQ.swap (h:PQ f g a b a' b') (s:Sw a' b' g g'):PQ f g' a b a' b':=by
 refine ⟨h.ha,h.hab,h.hb,h.sw.trans (s.mono h.ha h.hb),fun x y hx hxy hy hn=>?_,fun h0 x hx hxb=>?_⟩
 ·by_cases ix:a'≤x∧x<b'
  ·obtain ⟨x2,h1,h2,h3⟩:=s.mem x ix.1 ix.2;rw [h3,s.out y (.inr (by omega))];exact h.out x2 y (Nat.le_trans h.ha h1) (by omega) hy (by omega)
  ·rw [s.out x (by omega)]
   by_cases iy:a'≤y∧y<b'
   ·obtain ⟨y2,h1,h2,h3⟩:=s.mem y iy.1 iy.2;rw [h3];exact h.out x y2 hx (by omega) (Nat.lt_of_lt_of_le h2 h.hb) (by omega)
   ·rw [s.out y (by omega)];exact h.out x y hx hxy hy hn
 ·obtain ⟨x2,h1,h2,h3⟩:=s.mem x hx hxb;rw [h3,s.out (a' - 1) (.inl (by omega))];exact h.lb h0 x2 h1 h2
theorem PQ.done (h:PQ f g a b a' b') (s:FD g a' b'):FD g a b:=fun x y hx hxy hy=>by
 by_cases hn:a'≤x∧y<b'
 ·exact s x y hn.1 hxy hn.2
 ·exact h.out x y hx hxy hy hn
theorem PQ.eq {i:Nat} (h:PQ f g a b a' b') (h0:0<a') (hle:g a'≤g (a' - 1)) (hi:a'<i) (hi2:i≤b') (h1:∀ x,a'≤x→x<i→g x≤g a') (h2:∀ y,i≤y→y<b'→g a'<g y):PQ f g a b i b':=by
 refine ⟨by have:=h.ha; omega,hi2,h.hb,h.sw,fun x y hx hxy hy hn=>?_,fun _ x hx hxb=>?_⟩
 ·by_cases hin:a'≤x∧y<b'
  ·have hxi:x<i:=by omega
   have hx1:=h1 x hin.1 hxi
   rcases Nat.lt_or_ge y i with h3 | h3
   ·have:=h.lb h0 y (by omega) hin.2;omega
   ·have:=h2 y h3 hin.2;omega
  ·exact h.out x y hx hxy hy hin
 ·have e1:=h1 (i - 1) (by omega) (by omega);have e2:=h2 x hx hxb;omega
theorem PartU.sw {mid lo hi:Nat} (p:PartU g a' mid b') (s:Sw lo hi g g') (h:(a'≤lo∧hi≤mid)∨(mid<lo∧hi≤b')):PartU g' a' mid b':=by
 have hm:g' mid=g mid:=s.out mid (by omega);refine ⟨fun x hx hxm=>?_,fun y hy hyb=>?_⟩
 ·rw [hm]
  by_cases ix:lo≤x∧x<hi
  ·obtain ⟨x2,h1,h2,h3⟩:=s.mem x ix.1 ix.2;rw [h3]; exact p.le x2 (by omega) (by omega)
  ·rw [s.out x (by omega)]; exact p.le x hx hxm
 ·rw [hm]
  by_cases iy:lo≤y∧y<hi
  ·obtain ⟨y2,h1,h2,h3⟩:=s.mem y iy.1 iy.2;rw [h3]; exact p.ge y2 (by omega) (by omega)
  ·rw [s.out y (by omega)]; exact p.ge y hy hyb
theorem PQ.right {mid:Nat} (h:PQ f g a b a' b') (hm1:a'≤mid) (hm2:mid<b') (p:PartU g a' mid b') (s:FD g a' mid):PQ f g a b (mid+1) b':=by
 refine ⟨by have:=h.ha; omega,by omega,h.hb,h.sw,fun x y hx hxy hy hn=>?_,fun _ x hx hxb=>p.ge x (by omega) hxb⟩
 by_cases hin:a'≤x∧y<b'
 ·rcases Nat.lt_or_ge y mid with h1 | h1
  ·exact s x y hin.1 hxy h1
  ·have hxm:x≤mid:=by omega
   have e1:g x≤g mid:=by
    rcases Nat.lt_or_ge x mid with h2 | h2
    ·exact p.le x hin.1 h2
    ·rw [show x=mid by omega]; exact Int.le_refl _
   rcases Nat.lt_or_ge mid y with h2 | h2
   ·exact Int.le_trans e1 (p.ge y h2 hin.2)
   ·rw [show y=mid by omega]; exact e1
 ·exact h.out x y hx hxy hy hin
theorem PQ.left {mid:Nat} (h:PQ f g a b a' b') (hm1:a'≤mid) (hm2:mid<b') (p:PartU g a' mid b') (s:FD g (mid+1) b'):PQ f g a b a' mid:=by
 refine ⟨h.ha,hm1,by have:=h.hb; omega,h.sw,fun x y hx hxy hy hn=>?_,fun h0 x hx hxb=>h.lb h0 x hx (by omega)⟩
 by_cases hin:a'≤x∧y<b'
 ·rcases Nat.lt_or_ge mid x with h1 | h1
  ·exact s x y h1 hxy hin.2
  ·have hym:mid≤y:=by omega
   have e1:g x≤g mid:=by
    rcases Nat.lt_or_ge x mid with h2 | h2
    ·exact p.le x hin.1 h2
    ·rw [show x=mid by omega]; exact Int.le_refl _
   rcases Nat.lt_or_ge mid y with h2 | h2
   ·exact Int.le_trans e1 (p.ge y h2 hin.2)
   ·rw [show y=mid by omega]; exact e1
 ·exact h.out x y hx hxy hy hin
end
structure QSt where
 a:Nat
 b:Nat
 lim:Nat
 t8:Bool
 t9:Bool
 g:Nat→Int
set_option maxRecDepth 20000 in
set_option maxHeartbeats 8000000 in
theorem WP {q n c m:Nat} (hn:n≤m) (hm:n≤1000000000):∀ (Z:Nat) {w:World} {f:Nat→Int} {a b lim:Nat},b - a<Z→w.heap[q]? = some (Bl 32 (B4 f m))→a≤b→b≤n→lim≤1000→(0<a→∀ x,a≤x→x<b→f (a - 1)≤f x) →
  Ret Tryz.prog 210 #[.slice (some ⟨q,0,none⟩) n c,.int .i64 (a:Int),.int .i64 (b:Int),.int .i64 (lim:Int)] w fun v w'=>v = .tuple #[]∧∃ g,Sw a b f g∧FD g a b∧Ctx w [q] w' [(q,Bl 32 (B4 g m))]:=by
 intro Z
 induction Z with
 | zero=>intro w f a b lim h; omega
 | succ Z ih =>
 intro w f a b lim hZ hd hab hb hlim hLB;obtain ⟨w0,rfl⟩:∃ w0,w0=w:=⟨_,rfl⟩;have H:=Ctx.start1 hd;refine Au (fn:=Tryz.f210) Tryz.func210 U [.slice (some ⟨q,0,none⟩) n c,.int .i64 (a:Int),.int .i64 (b:Int),.int .i64 (lim:Int)] U ?_;refine Ag (Am U (Ab (Aa (Ag (Am U (Ab (Aa (A4 (Bt 21778071482940061661655974875633165532942 (α:=QSt) (fun t=>[(1,.int .i64 (t.a:Int)),(2,.int .i64 (t.b:Int)),(3,.int .i64 (t.lim:Int)),(8,.bool t.t8),(9,.bool t.t9)]) (fun t w'=>t.lim≤1000∧PQ f t.g a b t.a t.b∧Ctx w0 [q] w' [(q,Bl 32 (B4 t.g m))]) (fun t=>t.b - t.a) ⟨a,b,lim,true,true,f⟩ U ?_ ?_ ?_)))))))))
 ·exact ⟨rfl,rfl,rfl,rfl,rfl,trivial⟩
 ·exact ⟨hlim,⟨Nat.le_refl _,hab,Nat.le_refl _,.refl _,fun x y h1 h2 h3 h4=>absurd ⟨h1,h3⟩ h4,hLB⟩,H⟩
 ·rintro ⟨a',b',lim,t8,t9,g⟩ j0 w ⟨hlim,P,H⟩; dsimp only at hlim P H; dsimp only;have hP1:=P.ha;have hP2:=P.hab;have hP3:=P.hb;refine A4 (Ag (Ad U (Ad U (AN U U ?_))));refine Ae U (Ab (Aa (Ax (Ag (Ad U (Jn U U U (Ab (Aa (Ay _ U ?_ ?_)))))))))
  ·intro h1;replace h1:=AX h1;refine Ag (An U U (Ad U (Ad U (Ai Sn (LO (a:=a') (b:=b') (H.get at0) hP2 hn hm) U ?_))));rintro rv w ⟨rfl,g2,s2,o2,H2⟩;replace H:=Ctx.back (L1:=[_]) (L2:=[]) H H2;refine Ab (Aa (A9 (A7 (Bd (A7 (Bd (Hu U U ?_)))))));exact ⟨rfl,g2,(P.swap s2).sw,(P.swap s2).done o2,H⟩
  ·intro h1;replace h1:=AY h1;refine A2 (Aa (Ax (Ag (Ad U (Cp U U (Ab (Aa (Ay _ U ?_ ?_))))))))
   ·intro h2;replace h2:=AX h2;refine Ag (An U U (Ad U (Ad U (Ai Wu (Na (a:=a') (b:=b') (H.get at0) hn hm) U ?_))));rintro rv w ⟨rfl,g2,s2,o2,H2⟩;replace H:=Ctx.back (L1:=[_]) (L2:=[]) H H2;refine Ab (Aa (A9 (A7 (Bd (A7 (Bd (Hu U U ?_)))))));exact ⟨rfl,g2,(P.swap s2).sw,(P.swap s2).done o2,H⟩
   ·intro h2;replace h2:=AY h2;refine A2 (Aa (Ax (Ag (Ap U (C7 U (Ab (Aa (Dl 4329327034376 (α:=Nat × (Nat→Int)) (fun t=>[(3,.int .i64 (t.1:Int))]) (fun t w'=>t.1≤1000∧PQ f t.2 a b a' b'∧Ctx w0 [q] w' [(q,Bl 32 (B4 t.2 m))]) U ?_ ?_))))))))
    ·skip
     refine Ay _ U ?_ ?_
     ·intro h3;replace h3:=Df h3;refine Ag (An U U (Ad U (Ad U (Ai Wv (Tc (a:=a') (b:=b') (H.get at0) hn hm) U ?_))));rintro rv w ⟨rfl,g2,s2,H2⟩;replace H:=Ctx.back (L1:=[_]) (L2:=[]) H H2;refine Ab (Aa (A5 (Ad U (AN U U ?_))));refine Ae U (Ab (Aa ?_));exact ⟨(lim - 1,g2),rfl,⟨congrArg (Value.int .i64) (by dsimp only; omega),trivial⟩,by dsimp only; omega,P.swap s2,H⟩
     ·intro h3;replace h3:=Dg h3;refine A2 (Aa ?_);exact ⟨(lim,g),rfl,⟨rfl,trivial⟩,hlim,P,H⟩
    ·rintro ⟨lim,g⟩ j1 w ⟨hlim,P,H⟩; dsimp only at hlim P H; dsimp only;refine Ag (An U U (Ad U (Ad U (Ai Ww (Ta (a:=a') (b:=b') (H.get at0) hn hm) U ?_))));rintro rv w ⟨p,hint,hp1,hp2,rfl,hx46⟩;replace H:=H.call hx46;refine C9 U (AO U U (AO U U (Ae U (Ae U (Ab (Aa (Ax (Ag (Ad U (Cp U U ?_))))))))));refine Ab (Aa (Dl 2303591209400014848 (α:=Nat × Int × (Nat→Int)) (fun t=>[(11,.int .i64 (t.1:Int)),(12,.int .i64 t.2.1)]) (fun t w'=>a'≤t.1∧t.1<b'∧PQ f t.2.2 a b a' b'∧Ctx w0 [q] w' [(q,Bl 32 (B4 t.2.2 m))]) U ?_ ?_))
     ·skip
      refine Ay _ U ?_ ?_
      ·intro h4;replace h4:=AX h4;refine Ag (An U U (Ad U (Ad U (Ai Wx (Oe (a:=a') (b:=b') (H.get at0) hn hm) U ?_))));rintro rv w ⟨rfl,g2,s2,H2⟩;replace H:=Ctx.back (L1:=[_]) (L2:=[]) H H2;refine Ab (Aa (Ag (Ad U (AN U U ?_))));refine Ad U (Ad U (AN U U ?_));refine AN U U ?_;refine Ae U (Ab (Aa (A5 (Ae U (Ab (Aa ?_))))));exact ⟨(b' - 1 - (p - a'),1,g2),rfl,⟨congrArg (Value.int .i64) (by dsimp only; omega),rfl,trivial⟩,by dsimp only; omega,by dsimp only; omega,P.swap s2,H⟩
      ·intro h4;replace h4:=AY h4;refine A2 (Aa ?_);exact ⟨(p,hint,g),rfl,⟨rfl,rfl,trivial⟩,hp1,hp2,P,H⟩
     ·rintro ⟨p,hint,g⟩ j2 w ⟨hp1,hp2,P,H⟩; dsimp only at hp1 hp2 P H; dsimp only;refine Ax (DN 587989967349491957760 (α:=Bool) (fun t=>[(68,.bool t)]) (fun _ w'=>Ctx w0 [q] w' [(q,Bl 32 (B4 g m))]) U ?_ ?_)
      ·skip
       refine A5 (Ap U (Ap U (AZ 62 U ?_ ?_)))
       ·intro h1;refine Ap U (Av U (.bool _) U (Ap U (AZ 65 U ?_ ?_)))
        ·intro h2;refine Ad U (Cp U U (Av U (.bool _) U (Ab (Aa ?_))));exact ⟨_,rfl,⟨rfl,trivial⟩,H⟩
        ·intro h3;refine Af U (Af U (AE U (.bool _) U (Ab (Aa ?_))));exact ⟨_,rfl,⟨rfl,trivial⟩,H⟩
       ·intro h4;refine Af U (AE U (.bool _) U (Ap U (Af U (Af U (AE U (.bool _) U (Ab (Aa ?_)))))));exact ⟨_,rfl,⟨rfl,trivial⟩,H⟩
      ·rintro t68 j3 w H;refine Dl 8854437155380584775680 (α:=Nat→Int) (fun _=>[]) (fun g w'=>PQ f g a b a' b'∧Ctx w0 [q] w' [(q,Bl 32 (B4 g m))]) U ?_ ?_
       ·skip
        refine Ay _ U ?_ ?_
        ·intro h5;refine Ag (An U U (Ad U (Ad U (Ai Wy (Og (a:=a') (b:=b') (H.get at0) hn hm P.lb) U ?_))));rintro rv w ⟨t72,g2,rfl,s2,o2,H2⟩;replace H:=Ctx.back (L1:=[_]) (L2:=[]) H H2;refine Ab (Aa (Ay _ U ?_ ?_))
         ·intro h6;refine A9 (A7 (Bd (A7 (Bd (Hu U U ?_)))));exact ⟨rfl,g2,(P.swap s2).sw,(P.swap s2).done (o2 h6),H⟩
         ·intro h6;refine A2 (Aa ?_);exact ⟨g2,rfl,trivial,P.swap s2,H⟩
        ·intro h5;refine A2 (Aa ?_);exact ⟨g,rfl,trivial,P,H⟩
       ·rintro g j4 w ⟨P,H⟩;have hP1:=P.ha;have hP3:=P.hb;have e1:((a':Int) - 1).toNat=a' - 1:=by omega
        refine Ax (DN 309475565088379329434353664 (α:=Unit) (fun _=>[(87,.bool (decide (0<a'∧¬ g (a' - 1)<g p)))]) (fun _ w'=>Ctx w0 [q] w' [(q,Bl 32 (B4 g m))]) U ?_ ?_)
        ·skip
         refine Fg 12 Bz U U ?_;refine AJ U (Vl U U U (DC U (Dh 75 U ?_ ?_)))
         ·intro h5;replace h5:=AX h5;refine Bx U (AJ U (EP U U U ?_));refine Bc AP AB U U ?_;refine CR Bm U (by rintro _ rfl; exact ((Bv (H.drew.get at0)))) ?_;refine Bx U (AJ U (Bc AP AB U U ?_));refine CR Bm U (by rintro _ rfl; exact ((Bv (H.drew.get at0)))) ?_;refine BZ ?_;replace H:=H.drew;refine Ai Dz (CN _ _ _) U ?_;rintro v w ⟨rfl,rfl⟩;rw [e1,Int.toNat_natCast];refine C7 U (Av U (.bool _) U (Ab (Aa ?_)));exact ⟨(),rfl,⟨congrArg Value.bool (by clear P ih hLB; rw [Bool.eq_iff_iff]; simp_all; try omega),trivial⟩,H⟩
         ·intro h6;replace h6:=AY h6;refine AF U (AF U (AF U (AF U (AF U (AF U (AF U (AF U (AF U (BZ ?_)))))))));replace H:=H.drew;refine Af U (Af U (AE U (.bool _) U (Ab (Aa ?_))));exact ⟨(),rfl,⟨congrArg Value.bool (by clear P ih hLB; rw [Bool.eq_iff_iff]; simp_all; try omega),trivial⟩,H⟩
        ·rintro - j5 w H;refine Ay _ U ?_ ?_
         ·intro h7;have h7:=of_decide_eq_true h7;refine Ag (An U U (Ad U (Ad U (Ad U (Ai Wz (Qx (a:=a') (b:=b') (p:=p) (H.get at0) hn hm ⟨hp1,hp2⟩) U ?_)))));rintro rv w ⟨i,g2,rfl,s2,hi1,hi2,hga,o1,o2,H2⟩;replace H:=Ctx.back (L1:=[_]) (L2:=[]) H H2;refine Ae U (Ab (Aa (Ag (Ad U (Ae U (Ab (Aa (Bs (Ao (AK (Aa ?_)))))))))));have P2:=P.swap s2;have hout:=s2.out (a' - 1) (.inl (by omega));exact ⟨⟨i,b',lim,t8,t9,g2⟩,rfl,⟨rfl,rfl,rfl,rfl,rfl,trivial⟩,⟨hlim,P2.eq h7.1 (by rw [hga,hout]; omega) hi1 hi2 o1 o2,H⟩,by dsimp only; omega⟩
         ·intro h7;refine A2 (Aa (Ag (An U U (Ad U (Ad U (Ad U (Ai W0 (LP (a:=a') (b:=b') (p:=p) (H.get at0) hn hm ⟨hp1,hp2⟩) U ?_)))))));rintro rv w ⟨mid,t,g2,rfl,s2,hm1,hm2,PP,H2⟩;replace H:=Ctx.back (L1:=[_]) (L2:=[]) H H2;refine C9 U (AO U U (AO U U (Ae U (Am U (Ab (Aa ?_))))));have P2:=P.swap s2;refine Ag (Ap U (Am U (Ab (Aa (Ag (Ad U (Ad U (AN U U ?_))))))));refine Ad U (Ad U (AN U U ?_));refine Ae U (Ae U (Ab (Aa (Ag (Ad U (G8 U U (show _≤(9223372036854775807:Int) by omega) ?_))))));refine Ae U (Ab (Aa (Ag (Ad U (Ad U (Bu U U (Ab (Aa (Ay _ U ?_ ?_)))))))))
          ·intro h8;replace h8:=AX h8;refine Ag (Ad U (Ad U (Ci U U (Am U (Ab (Aa (Ag (An U U (Ad U (Ad U ?_))))))))));refine Ad U (Ai L5 (ih (a:=a') (b:=mid) (lim:=lim) (f:=g2) (by omega) (H.get at0) hm1 (by omega) hlim (fun h0 x hx hxb=>P2.lb h0 x hx (by omega))) U ?_);rintro rv w ⟨rfl,g3,s3,o3,H2⟩;replace H:=Ctx.back (L1:=[_]) (L2:=[]) H H2;refine Ab (Aa (A5 (Ad U (A3 U U ?_))));refine Ae U (Ab (AU (Aa ?_)));have P3:=P2.swap (s3.mono (Nat.le_refl _) (by omega));exact ⟨⟨mid+1,b',lim,_,t,g3⟩,rfl,⟨rfl,rfl,rfl,rfl,rfl,trivial⟩,⟨hlim,P3.right hm1 hm2 (PartU.sw PP s3 (.inl ⟨Nat.le_refl _,Nat.le_refl _⟩)) o3,H⟩,by dsimp only; omega⟩
          ·intro h8;replace h8:=AY h8;refine Ag (Ad U (Ad U (Ci U U (Am U (Ab (Aa (Ag (An U U (Ad U (A3 U U ?_))))))))));rw [show (mid:Int)+1=((mid+1:Nat):Int) by omega];refine Ad U (Ad U (Ai L5 (ih (a:=mid+1) (b:=b') (lim:=lim) (f:=g2) (by omega) (H.get at0) (by omega) (by omega) hlim (fun _ x hx hxb=>PP.ge x (by omega) hxb)) U ?_));rintro rv w ⟨rfl,g3,s3,o3,H2⟩;replace H:=Ctx.back (L1:=[_]) (L2:=[]) H H2;refine Ab (Aa (A5 (Ad U (Ae U (Ab (AU (Aa ?_)))))));have P3:=P2.swap (s3.mono (by omega) (Nat.le_refl _));have P4:=P3.left hm1 hm2 (PartU.sw PP s3 (.inr ⟨by omega,Nat.le_refl _⟩)) o3;exact ⟨⟨a',mid,lim,_,t,g3⟩,rfl,⟨rfl,rfl,rfl,rfl,rfl,trivial⟩,⟨hlim,P4,H⟩,by show mid - a'<b' - a'; omega⟩
set_option maxRecDepth 20000 in
theorem Td {q n c m:Nat} {w:World} {f:Nat→Int} (hd:w.heap[q]? = some (Bl 32 (B4 f m))) (hn:n≤m) (hm:n≤1000000000) :
  Ret Tryz.prog 173 #[.slice (some ⟨q,0,none⟩) n c] w fun v w'=>v = .tuple #[]∧∃ g,(tab g n).Perm (tab f n)∧FD g 0 n∧Ctx w [q] w' [(q,Bl 32 (B4 g m))]:=by
 obtain ⟨w0,rfl⟩:∃ w0,w0=w:=⟨_,rfl⟩;refine Au (fn:=Tryz.f173) Tryz.func173 U [.slice (some ⟨q,0,none⟩) n c] U ?_;refine Ag (An U U (Bp AP U (Ae U (Ab (Aa (A5 (An U U (Ad U (Ad U (Cv U E0 J5 ?_))))))))));refine Ai NV (Oh n _) U ?_;rintro v w ⟨r,rfl,h1,h2,h3,rfl⟩;refine Ai L5 (WP hn hm (n+1) (a:=0) (b:=n) (lim:=r) (by omega) hd (Nat.zero_le _) (Nat.le_refl _) (by omega) (fun h=>absurd h (Nat.lt_irrefl _))) U ?_;rintro rv w ⟨rfl,g,s,o,H⟩;refine Ab (CW U U ?_);exact ⟨rfl,g,s.perm (Nat.le_refl _),o,H⟩
theorem Oi (c:Nat) (w:World):Ret Tryz.prog 173 #[.slice none 0 c] w fun v w'=>v = .tuple #[]∧w=w':=by
 have ins:∀ w,Ret Tryz.prog 234 #[.slice none 0 c,.int .i64 0,.int .i64 0] w fun v w'=>v = .tuple #[]∧w=w':=fun w=>by
  refine Au (fn:=Tryz.f234) Tryz.func234 U [.slice none 0 c,.int .i64 0,.int .i64 0] U ?_;refine Ag (Ad U (A3 U U ?_));refine Ae U (Ab (Aa (A4 (Bt 562949953420480 (α:=Unit) (fun _=>[(6,.int .i64 1)]) (fun _ w'=>w=w') (fun _=>0) () U ?_ ?_ ?_))))
  ·exact ⟨rfl,trivial⟩
  ·rfl
  ·rintro - j0 w rfl;refine Ax (Ag (Ad U (Ad U (Bu U U (Ab (Aa (Ay _ U ?_ ?_)))))))
   ·intro h1;replace h1:=AX h1;omega
   ·intro h1;replace h1:=AY h1;refine Bs (Ao (Ao (AK (CW U U ?_))));exact ⟨rfl,rfl⟩
 have pdq:∀ (r:Nat) (w:World),Ret Tryz.prog 210 #[.slice none 0 c,.int .i64 0,.int .i64 0,.int .i64 (r:Int)] w fun v w'=>v = .tuple #[]∧w=w':=fun r w=>by
  refine Au (fn:=Tryz.f210) Tryz.func210 U [.slice none 0 c,.int .i64 0,.int .i64 0,.int .i64 (r:Int)] U ?_;refine Ag (Am U (Ab (Aa (Ag (Am U (Ab (Aa (A4 (Bt 21778071482940061661655974875633165532942 (α:=Unit) (fun _=>[(1,.int .i64 0),(2,.int .i64 0),(3,.int .i64 (r:Int)),(8,.bool true),(9,.bool true)]) (fun _ w'=>w=w') (fun _=>0) () U ?_ ?_ ?_)))))))))
  ·exact ⟨rfl,rfl,rfl,rfl,rfl,trivial⟩
  ·rfl
  ·rintro - j0 w rfl;refine A4 (Ag (Ad U (Ad U (AN U U ?_))));refine Ae U (Ab (Aa (Ax (Ag (Ad U (Jn U U U (Ab (Aa (Ay _ U ?_ ?_)))))))))
   ·intro h1;replace h1:=AX h1;refine Ag (An U U (Ad U (Ad U (Ai Sn (ins _) U ?_))));rintro v w ⟨rfl,rfl⟩;refine Ab (Aa (A9 (A7 (Bd (A7 (Bd (Hu U U ?_)))))));exact ⟨rfl,rfl⟩
   ·intro h1;replace h1:=AY h1;omega
 refine Au (fn:=Tryz.f173) Tryz.func173 U [.slice none 0 c] U ?_;refine Ag (An U U (Bp AP U (Ae U (Ab (Aa (A5 (An U U (Ad U (Ad U (Cv U E0 J5 ?_))))))))));refine Ai NV (Oh 0 _) U ?_;rintro v w ⟨r,rfl,h1,h2,h3,rfl⟩;refine Ai L5 (pdq r _) U ?_;rintro v w ⟨rfl,rfl⟩;refine Ab (CW U U ?_);exact ⟨rfl,rfl⟩
end Go.Proofs.YtibemkominehdaaGreat
namespace Go.Proofs.YtibemkominehdaaGreat
open Go.GV
attribute [local irreducible] Al W Wq Wt
def Cr (x:Int):Bool:=decide (0≤x) && decide (x≤4503599627370496)
theorem Oj (x:Int) (w:World):Ret Tryz.prog 118 #[.int .i64 x] w fun v w'=>v = .bool (Cr x)∧w=w':=by
 obtain ⟨w0,rfl⟩:∃ w0,w0=w:=⟨_,rfl⟩;refine Au (fn:=Tryz.f118) Tryz.func118 U [.int .i64 x] U ?_;refine Ag (Am U (Ab (Aa (Ag (Ad U (Ci U U (Ap U (AZ 5 U ?_ ?_))))))))
 ·intro h1;replace h1:=AX h1;refine Ad U (Jn U U U (Av U (.bool _) U (Am U (Ab (Aa (A9 (AD (v:=(.bool _)) U U U ?_)))))));exact ⟨congrArg Value.bool (by unfold Cr; rw [Bool.eq_iff_iff]; simp_all; try omega),rfl⟩
 ·intro h2;replace h2:=AY h2;refine Af U (Af U (AE U (.bool _) U (Am U (Ab (Aa (A9 (AD (v:=(.bool _)) U U U ?_)))))));exact ⟨congrArg Value.bool (by unfold Cr; rw [Bool.eq_iff_iff]; simp_all; try omega),rfl⟩
set_option maxRecDepth 20000 in
theorem Qy (a:Option Addr) (n c:Nat) (xs:List Int) (w:World) (R:Rd w a 1 I1 xs) (hn:xs.length=n) (hn2:n≤1000000) :
  Ret Tryz.prog 177 #[.slice a n c] w fun v w'=>v = .bool (xs.all Cr)∧w=w':=by
 subst hn;obtain ⟨w0,rfl⟩:∃ w0,w0=w:=⟨_,rfl⟩;refine Au (fn:=Tryz.f177) Tryz.func177 U [.slice a xs.length c] U ?_;refine Ag (Am U (Ab (Aa (Ax (Ag (An U U (Bp Ch U (Ad U (Ab (Aa (A4 ?_)))))))))));refine Bt 32660 (α:=Nat) (fun i=>[(7,.int .i64 (i:Int))]) (fun i w'=>i≤xs.length∧w0=w'∧∀ (k:Nat) (x:Int),k<i→xs[k]? = some x→Cr x=true) (fun i=>xs.length - i) 0 U ?_ ?_ ?_
 ·exact ⟨rfl,trivial⟩
 ·exact ⟨Nat.zero_le _,rfl,fun k x h=>absurd h (Nat.not_lt_zero _)⟩
 ·rintro i j w ⟨hi,rfl,hb⟩;refine Ag (Bu U U (Ab (Aa (Ax (Ay _ U ?_ ?_)))))
  ·intro h1;replace h1:=AX h1;obtain ⟨x,hx⟩:=AV (l:=xs) (i:=i);refine A2 (Aa (Ax (A4 (Ag (BC R Ch Ez U U (by rfl) ?_)))));refine BN CT U ((R.fld hx U (j:=0) U)) ?_;refine Ae U (Ab (Aa (Ag (Ad U (Ai NU (Oj x _) U ?_)))));rintro v w ⟨rfl,rfl⟩;refine C7 U (Ab (Aa (Ay _ U ?_ ?_)))
   ·intro h2;replace h2:=Df h2;refine Ag (Am U (Ab (Aa (A9 (Bd (A7 (A7 (Bd (A7 (AD (v:=(.bool _)) U U U ?_))))))))));refine ⟨congrArg Value.bool ?_,rfl⟩;exact (Qt hx (show Cr x=false by simpa using h2)).symm
   ·intro h2;replace h2:=Dg h2;refine A2 (AU (Aa (A5 (A3 U U ?_))));refine Ad U (Ab (Aa ?_));refine ⟨i+1,rfl,⟨rfl,trivial⟩,⟨by omega,rfl,fun k y hk hy=>?_⟩,by omega⟩
    rcases Nat.lt_or_ge k i with h7 | h7
    ·exact hb k y h7 hy
    ·obtain rfl:k=i:=by omega
     rw [hx] at hy;cases hy
     simpa using h2
  ·intro h1;replace h1:=AY h1;refine Bs (Ao (Ao (AK (Aa (Ag (Am U (Ab (Aa (A9 (AD (v:=(.bool _)) U U U ?_))))))))));exact ⟨congrArg Value.bool (SO fun k x hk hx=>hb k x (by omega) hx).symm,rfl⟩
def BO (xs:List Int):Int:=xs.foldl (·+·) 0
theorem Qz (xs:List Int):∀ a:Int,xs.foldl (·+·) a=a+BO xs:=by
 induction xs with
 | nil=>intro a; show a=a+0; omega
 | cons x xs ih =>
  intro a;show xs.foldl (·+·) (a+x)=a+xs.foldl (·+·) (0+x);rw [ih,ih (0+x)]; omega
theorem KQ {xs:List Int} {i:Nat} {x:Int} (h:xs[i]? = some x):BO (xs.take (i+1))=BO (xs.take i)+x:=by
 rw [List.take_add_one,h];unfold BO;rw [List.foldl_append]; rfl
theorem BX (x:Int) (xs:List Int):BO (x::xs)=x+BO xs:=by
 show xs.foldl (·+·) (0+x)=_;rw [Qz]; omega
theorem FU (xs ys:List Int):BO (xs++ys)=BO xs+BO ys:=by
 induction xs with
 | nil=>show BO ys=0+_; omega
 | cons x xs ih=>rw [List.cons_append,BX,BX,ih]; omega
theorem FV {xs:List Int} (h:∀ x∈xs,0≤x):0≤BO xs:=by
 induction xs with
 | nil=>exact Int.le_refl _
 | cons x xs ih =>
  rw [BX];have:=h x (List.mem_cons_self ..);have:=ih fun y hy=>h y (List.mem_cons_of_mem _ hy);omega
def D4 (xs:List Int):Int × Int:=if xs.all Cr=false then (0,1) else if BO xs≤4503599627370496 then (BO xs,0) else (0,13)
theorem Cd {x:Int}:Cr x=true↔0≤x∧x≤4503599627370496:=by unfold Cr; simp
set_option maxRecDepth 20000 in
set_option maxHeartbeats 2000000 in
theorem PD (a:Option Addr) (n c:Nat) (xs:List Int) (w:World) (R:Rd w a 1 I1 xs) (hn:xs.length=n)  (hn2:n≤1000000:=by omega):
  Ret Tryz.prog 119 #[.slice a n c] w fun v w'=>v = .tuple #[.int .i64 (D4 xs).1,.int .i64 (D4 xs).2]∧w=w':=by
 subst hn;obtain ⟨w0,rfl⟩:∃ w0,w0=w:=⟨_,rfl⟩;refine Au (fn:=Tryz.f119) Tryz.func119 U [.slice a xs.length c] U ?_;refine Ag (Ae U (Ae U (Ab (Aa (Ax (Ag (An U U (Ai Wp (Qy a xs.length c xs _ R U hn2) U ?_))))))));rintro v w ⟨rfl,rfl⟩;refine C7 U (Ab (Aa (Ay _ U ?_ ?_)))
 ·intro h1;replace h1:=Df h1;refine Ag (Ae U (Ae U (Ab (Aa (A9 (A7 (C6 (v1:=(.int _ _)) (v2:=(.int _ _)) U U U U ?_)))))));have h1':xs.all Cr=false:=by simpa using h1
  exact ⟨by unfold D4; rw [if_pos h1'],rfl⟩
 ·intro h1;replace h1:=Dg h1;have h1':xs.all Cr=true:=by simpa using h1
  have hall:∀ (k:Nat) (x:Int),xs[k]? = some x→0≤x∧x≤4503599627370496:=fun k x hx=>Cd.1 (List.all_eq_true.1 h1' x (List.mem_of_getElem? hx));have hpos:∀ x∈xs,0≤x:=fun x hx=>(Cd.1 (List.all_eq_true.1 h1' x hx)).1;refine A2 (Aa (Ag (Ae U (Ab (Aa (Ax (Ag (An U U (Bp Ch U (Ad U (Ab (Aa ?_))))))))))));refine A4 (Bt 8384604 (α:=Nat) (fun i=>[(4,.int .i64 (BO (xs.take i))),(12,.int .i64 (i:Int))]) (fun i w'=>i≤xs.length∧w0=w'∧BO (xs.take i)≤4503599627370496) (fun i=>xs.length - i) 0 U ?_ ?_ ?_)
  ·exact ⟨rfl,rfl,trivial⟩
  ·exact ⟨Nat.zero_le _,rfl,by show (0:Int)≤_; omega⟩
  ·rintro i j w ⟨hi,rfl,hb⟩;have hs0:0≤BO (xs.take i):=FV fun y hy=>hpos y (List.mem_of_mem_take hy);refine Ag (Bu U U (Ab (Aa (Ax (Ay _ U ?_ ?_)))))
   ·intro h2;replace h2:=AX h2;obtain ⟨x,hx⟩:=AV (l:=xs) (i:=i);obtain ⟨hx0,hx1⟩:=hall i x hx;have hst:=KQ hx;refine A2 (Aa (Ax (A4 (Ag (BC R Ch Ez U U (by rfl) ?_)))));refine BN CT U ((R.fld hx U (j:=0) U)) ?_;refine Ae U (Ab (Aa (Ag (Ad U (Ad U (A3 U U ?_))))));rw [← hst];refine Ae U (Ab (Aa (Ag (Ad U (Ai NU (Oj (BO (xs.take (i+1))) _) U ?_)))));rintro v w ⟨rfl,rfl⟩;refine C7 U (Ab (Aa (Ay _ U ?_ ?_)))
    ·intro h3;replace h3:=Df h3;refine Ag (Ae U (Ae U (Ab (Aa (A9 (Bd (A7 (A7 (Bd (A7 (C6 (v1:=(.int _ _)) (v2:=(.int _ _)) U U U U ?_)))))))))));have h4:Cr (BO (xs.take (i+1)))=false:=by simpa using h3
     have h5:¬ BO (xs.take (i+1))≤4503599627370496:=fun h=>by
      rw [Cd.2 ⟨by omega,h⟩] at h4; cases h4
     have h6:BO xs=BO (xs.take (i+1))+BO (xs.drop (i+1)):=by rw [← FU,List.take_append_drop]
     have h7:=FV (xs:=xs.drop (i+1)) fun y hy=>hpos y (List.mem_of_mem_drop hy);exact ⟨by unfold D4; rw [if_neg (by rw [h1']; decide),if_neg (by omega)],rfl⟩
    ·intro h3;replace h3:=Dg h3;refine A2 (AU (Aa (A5 (A3 U U ?_))));refine Ad U (Ab (Aa ?_));have h4:Cr (BO (xs.take (i+1)))=true:=by simpa using h3
     exact ⟨i+1,rfl,⟨rfl,rfl,trivial⟩,⟨by omega,rfl,(Cd.1 h4).2⟩,by omega⟩
   ·intro h2;replace h2:=AY h2;refine Bs (Ao (Ao (AK (Aa (Ag (Ad U (Ae U (Ae U (Ab (Aa (A9 (C6 (v1:=(.int _ _)) (v2:=(.int _ _)) U U U U ?_))))))))))));obtain rfl:i=xs.length:=by omega
    rw [List.take_length] at hb ⊢;exact ⟨by unfold D4; rw [if_neg (by rw [h1']; decide),if_pos hb],rfl⟩
end Go.Proofs.YtibemkominehdaaGreat
namespace Go.Proofs.YtibemkominehdaaGreat
open Go.GV
attribute [local irreducible] Al W Wq Wt
section
variable {P:Program} {r:Option Nat} {ops rest:List Oper} {Q:Exit→Env→World→Prop} {e:Env} {w:World} {dst:Option Tmp} {ty:TypeId} {pos:String} {af:Array Edge} {g:Option (Nat × Bool)}
end
def Te (x:Int):Bool:=decide (-4503599627370496≤x) && decide (x≤4503599627370496)
def evenM (xs:List Int):Bool:=xs.all Te && decide (BO xs=0)
def Ol (xs ys:List Int):List Int:=List.zipWith (·+·) xs ys
def Tf (xs ys:List Int):Int :=
 if (decide (xs.length=ys.length) && (xs.all Cr && evenM ys))=false then 1 else if (Ol xs ys).all (fun x=>decide (0≤x))=false then 12 else if (Ol xs ys).all Cr=false then 13 else 0
end Go.Proofs.YtibemkominehdaaGreat
namespace Go.Proofs.YtibemkominehdaaGreat
open Go.GV
attribute [local irreducible] Al W Wq Wt
structure DueK (b2 b:Nat) (o:Obj) (w:World):Prop where
 h2:w.heap[b2]? = some (Bl 174 [.map (some b)])
 hb:w.heap[b]? = some o
def V9 (m:List (Int × Value)) (vis:List (Int × Value)) (v:List Value) (vis':List (Int × Value)):Prop:=∃ p,vis'=vis++[p]∧v=[.int .u64 p.1]∧p∈m∧vis.length<m.length
set_option maxRecDepth 20000 in
set_option maxHeartbeats 2000000 in
theorem Th {b2 b:Nat} {o:Obj} {m:List (Int × Value)} (hM:EG .u64 m o):Pi Tryz.prog 174 #[ptr b2] [] (fun _ w=>DueK b2 b o w) ([]:List (Int × Value)) (V9 m) (fun vis=>vis.Perm m) (fun _=>True):=by
 intro l w _ J E hJ0 hJs hEs hK hY;obtain ⟨M0,hJ0⟩:=hJ0;obtain ⟨w0,rfl⟩:∃ w0,w0=w:=⟨_,rfl⟩;have H:=Ctx.start w0 [];refine Au (fn:=Tryz.f174) Tryz.func174 U [.func (.yield l) #[] #[],.pointer (some ⟨b2,0,none⟩)] U ?_;have K0:=(hK _ _ _ hJ0).2;refine Ag (BN NT U ((by rw [A6 K0.h2]; rfl)) ?_);refine RN U S6 U H K0.hb hM ?_;rintro bi it w hV H;refine Ab (Aa (A4 ?_));have hbi:w0.heap.size≤bi:=(H.own (bi,it) (List.mem_cons_self ..)).elim (fun h=>by cases h) id;have hJ1:=hJs _ _ _ _ [] hJ0 (fun x hx=>by cases hx) H.ext
 have hM0:¬ M0 bi:=fun h=>by
  have:=(hK _ _ _ hJ0).1 bi h; omega
 refine Bt 16328 (α:=List (Int × Value) × Obj) (fun _=>[]) (fun z w'=>VisO .u64 b m z.1 o z.2∧∃ M,J z.1 M w'∧¬ M bi∧w'.heap[bi]? = some z.2) (fun z=>m.length - z.1.length) (([]:List (Int × Value)),it) U ?_ ?_ ?_
 ·exact trivial
 ·exact ⟨hV,M0,hJ1,hM0,H.get at0⟩
 ·rintro ⟨vis,it⟩ j w ⟨hV,M,hJ,hMb,hit⟩; dsimp only at hV hJ hit; dsimp only;have KK:=(hK _ _ _ hJ).2;obtain ⟨w1,rfl⟩:∃ w1,w1=w:=⟨_,rfl⟩;have H:=Ctx.start1 hit;have hT:∀ x∈[bi],¬ M x∧w0.heap.size≤x:=fun x hx=>by rw [List.mem_singleton] at hx; subst hx; exact ⟨hMb,hbi⟩
  refine Ag (U6 U (fun _=>rfl) U H KK.hb at0 hV ?_);rintro vs more it' w hc H
  skip
  refine Ab (Aa (Ax (Ay _ U ?_ ?_)))
  ·intro h1;obtain ⟨p,hV'⟩:∃ p,VisO .u64 b m (vis++[p]) o it':=hc.elim (fun h=>by rw [h.1] at h1; cases h1) fun h=>h.2;have hJw:=hJs _ _ _ _ [bi] hJ hT H.ext;have KR:=(hK _ _ _ hJw).2;have hle:=hV'.le;rw [List.length_append] at hle;have hst:V9 m vis [.int .u64 p.1] (vis++[p]):=⟨p,rfl,rfl,hV'.mem p (by simp),by simp at hle; omega⟩;refine A2 (Aa (A4 (Ag (RQ U U H KR.hb at0 hV' ?_))));refine AO U U (Ae U (Ab (Aa ?_)));have hY1:=hY vis [.int .u64 p.1] (vis++[p]) M w hst hJw;refine Ag (C3 U (.func _ _ _) U ?_);refine Ad U (RE (vs:=[.int .u64 p.1]) U U hY1 U ?_);rintro u w hu
   obtain ⟨bb,rfl,hu1,hu0⟩:∃ bb,u = .bool bb∧(bb=true→∃ M,J (vis++[p]) M w∧¬ M bi∧w.heap[bi]? = some it')∧(bb=false→E w):=hu.elim (fun h=>⟨true,h.1,fun _=>let ⟨M',h1,g⟩:=h.2; ⟨M',h1,fun hx=>(g.new _ hx).elim hMb (fun h=>by have:=H.lt at0; omega),g.to (H.get at0) hMb⟩,fun h=>by cases h⟩) (fun h=>⟨false,h.1,(fun h=>by cases h),fun _=>h.2⟩);refine C7 U (Ab (Aa (Ay _ U ?_ ?_)))
   ·intro h2;replace h2:=Df h2;refine A9 (Bd (A7 (Bd (Hu U U ?_))));exact .inr (hu0 (by simpa using h2))
   ·intro h2;replace h2:=Dg h2;refine A2 (AU (Aa ?_));exact ⟨(vis++[p],it'),rfl,trivial,⟨hV',hu1 (by simpa using h2)⟩,by dsimp only; rw [List.length_append]; simp; simp at hle; omega⟩
  ·intro h1;obtain ⟨hp,rfl⟩:vis.Perm m∧it'=it:=hc.elim (fun h=>h.2) fun h=>by rw [h.1] at h1; cases h1
   refine Bs (Ao (Ao (AK (CW U U ?_))));exact .inl ⟨vis,M,hp,hJs _ _ _ _ [bi] hJ hT H.ext⟩
end Go.Proofs.YtibemkominehdaaGreat
namespace Go.Proofs.YtibemkominehdaaGreat
open Go.GV
attribute [local irreducible] Al W Wq Wt
def DL (x:Int):Value := .int .u64 x
structure FreshU (w w':World) (v:Value) (l:List Int):Prop where
 ex:∃ a n c full,v = .slice a n c∧OS a n c 1 full (l.map DL)∧(∀ x∈full,∃ z,x=DL z)∧∀ x∈ent a 32 full,w'.heap[x.1]? = some x.2∧w.heap.size≤x.1
 ext:Ext [] w w'
def PE (bk:Nat):Value := .func (.func 174) #[] #[ptr bk]
theorem UM {b:Nat} (w:World):Ret Tryz.prog 115 #[.map (some b)] w fun v w'=>∃ bk,v=PE bk∧w'.heap[bk]? = some (Bl 174 [.map (some b)])∧w.heap.size≤bk∧Ext [] w w':=by
 obtain ⟨w0,rfl⟩:∃ w0,w0=w:=⟨_,rfl⟩;have H:=Ctx.start w0 [];refine Au (fn:=Tryz.f115) Tryz.func115 U [.map (some b)] U ?_;refine Ag (BK _ (.map _) U U H ?_);rintro b1 w - H;refine CX U .nilFunc U ?_;refine Ab (Aa (Ag (Ea U [.pointer _] U (CX U (.func _ _ _) U ?_))));refine Ab (Aa (A9 (AD (v:=(.func _ _ _)) U U U ?_)));exact ⟨_,rfl,H.get at0,(H.own _ (List.mem_cons_self ..)).elim (fun h=>by cases h) id,H.ext⟩
def appJ (w0:World) (bk b bb k:Nat) (o:Obj) (vis:List (Int × Value)) (M:Mt) (w:World):Prop :=
 ∃ a c full,(M=fun y=>y∈((bb,Bl 72 [.slice a vis.length c])::ent a 32 full).map (·.1))∧Ctx w0 [] w ((bb,Bl 72 [.slice a vis.length c])::ent a 32 full) ∧
  OS a vis.length c 1 full (vis.map fun p=>DL p.1)∧(∀ x∈full,∃ z,x=DL z)∧DueK bk b o w∧∀ y∈((bb,Bl 72 [.slice a vis.length c])::ent a 32 full).map (·.1),y≠k∧y≠k+1
set_option maxRecDepth 20000 in
set_option maxHeartbeats 2000000 in
theorem Q0 {bk b:Nat} {o:Obj} {m:List (Int × Value)} (hM:EG .u64 m o) (hm:m.length≤1000000) (w:World) (K:DueK bk b o w) :
  Ret Tryz.prog 209 #[.slice none 0 0,PE bk] w fun v w'=>∃ vis:List (Int × Value),vis.Perm m∧FreshU w w' v (vis.map (·.1)):=by
 obtain ⟨w0,rfl⟩:∃ w0,w0=w:=⟨_,rfl⟩;have H:=Ctx.start w0 [];have lk:=Bq K.h2;have lb:=Bq K.hb;refine Qh (fn:=Tryz.f209) Tryz.func209 U [.slice none 0 0,.func (.func 174) #[] #[.pointer (some ⟨bk,0,none⟩)]] U ?_;refine Ag (BK _ (.slice _ _ _) U U H ?_);rintro b2 w - H;refine Aj U (Ab (Aa (Ax (Ag (C3 U (.func _ _ _) U ?_)))));refine Ab (Aa (A4 ?_));obtain ⟨ws,rfl⟩:∃ z,z=w:=⟨_,rfl⟩;have hb2:=(H.own _ (List.mem_cons_self ..)).elim (fun h=>by cases h) id;have l2:=H.lt at0;have hsz:=H.size;dsimp only at hb2;have K2:DueK bk b o ws:=⟨H.ext.to K.h2 (by simp),H.ext.to K.hb (by simp)⟩
 refine RL (gf:=174) U Wm (Th (b2:=bk) (b:=b) hM) (by kernel_rfl) (by kernel_rfl) (fun vis v vis' h=>by obtain ⟨p,-,rfl,-⟩:=h; rfl)
  (appJ w0 bk b b2 ws.heap.size o) (fun _=>False) (by simp) (fun _ _=>True.intro)
  (fun w2 hx2 _=>⟨_,none,0,[],rfl,H.call hx2,OS.nil,by simp,⟨hx2.to K2.h2 (by simp),hx2.to K2.hb (by simp)⟩,by simp [ent]; omega⟩)
  (fun vis M w' w'' T hJ hT hx=>?_) (fun _ _ h _=>h) (fun vis M w' hJ=>?_) ?_ ?_ (fun _ h _=>h.elim)
 ·obtain ⟨a,c,full,hMM,HJ,O,Z,KJ,hne⟩:=hJ;refine ⟨a,c,full,hMM,HJ.step hx (fun y hy hy2=>(hT _ hy2).1 (by rw [hMM]; exact List.mem_map_of_mem (f:=(·.1)) hy)) (fun x hx => .inr (by have:=(hT x hx).2; omega)),O,Z,⟨hx.to KJ.h2 (fun h=>by have:=(hT _ h).2; omega),hx.to KJ.hb (fun h=>by have:=(hT _ h).2; omega)⟩,hne⟩
 ·obtain ⟨a,c,full,hMM,HJ,O,Z,KJ,hne⟩:=hJ;refine ⟨fun x hx=>?_,KJ⟩;rw [hMM] at hx;obtain ⟨y,hy,rfl⟩:=List.mem_map.1 hx;exact ⟨Bq (HJ.blk y hy),hne _ hx⟩
 ·rintro vis v vis' M w ⟨p,rfl,rfl,hpm,hvl⟩ ⟨a,c,full,rfl,HJ,O,Z,KJ,hne⟩ hsz2;obtain ⟨w1,rfl⟩:∃ z,z=w:=⟨_,rfl⟩;refine A5 (Ae U (Ab ?_));refine ⟨Ext.refl _ _,fun wB hxB=>?_⟩;have HB:=HJ.step hxB (fun y hy h=>(hne _ (List.mem_map_of_mem (f:=(·.1)) hy)).2 (List.mem_singleton.1 h)) (fun z hz => .inr (by rw [List.mem_singleton.1 hz]; omega));have KB:DueK bk b o wB:=⟨hxB.to KJ.h2 (by rw [List.mem_singleton]; omega),hxB.to KJ.hb (by rw [List.mem_singleton]; omega)⟩
  have hown:∀ y∈((b2,Bl 72 [.slice a vis.length c])::ent a 32 full).map (·.1),w0.heap.size≤y:=fun y hy=>by
   obtain ⟨z,hz,rfl⟩:=List.mem_map.1 hy;exact (HJ.own z hz).elim (fun h=>by cases h) id
  have hsB:=hxB.size;obtain ⟨w2,rfl⟩:∃ z,z=wB:=⟨_,rfl⟩;rw [← List.append_nil ((b2,Bl 72 [.slice a vis.length c])::ent a 32 full)] at HB;have H:=Ctx.lend (L1:=(b2,Bl 72 [.slice a vis.length c])::ent a 32 full) (L2:=[]) HB;obtain ⟨SS,hSS⟩:∃ SS,SS=((b2,Bl 72 [.slice a vis.length c])::ent a 32 full).map (·.1):=⟨_,rfl⟩;rw [← hSS] at H;refine A4 (A5 (AH Iy U H at0 U (Ad U (Cn _ (.int _ _) AP AB SH U U U U H ?_))));rintro b10 w - H;refine M7 (L:=[_]) U AP AP AB Vt SH U U U H O U (by simp [AR]) ?_;rintro a' c' full' w H O Z2;refine Ck (.slice _ _ _) V2 U U U H at0 (by (simp; done)) ?_;rintro w H;refine Ab (AU ?_);have hl:(vis++[p]).length=vis.length+1:=by rw [List.length_append]; rfl
  rw [hSS] at H;have HE:=H.ext;refine ⟨_,⟨a',c',full',rfl,by rw [hl,← List.append_nil (_::ent a' _ full')]; exact Ctx.back HB H,by rw [hl,List.map_append]; exact O,fun x hx=>?_,⟨HE.to KB.h2 fun h=>by have:=hown _ h; omega,HE.to KB.hb fun h=>by have:=hown _ h; omega⟩,fun y hy=>?_⟩,fun y hy=>?_,_,HE,fun y hy => .inl hy⟩
  ·rcases Z2 x hx with h | h | h
   ·exact Z x h
   ·exact ⟨_,List.mem_singleton.1 h⟩
   ·exact ⟨_,List.mem_singleton.1 h⟩
  ·rw [hl] at hy;obtain ⟨z,hz,rfl⟩:=List.mem_map.1 hy
   rcases H.own z hz with h | h
   ·exact hne _ h
   ·omega
  ·rw [hl] at hy;obtain ⟨z,hz,rfl⟩:=List.mem_map.1 hy;exact (H.own z hz).imp id fun h=>by omega
 ·rintro vis M w hp ⟨a,c,full,rfl,HJ,O,Z,KJ,hne⟩ hD;have H:=HJ;refine AU (Aa (Ag (AH Iy U H at0 U (Aj U (Ab (Aa (A9 (U2 (v:=(.slice _ _ _)) U U (Qm hD U fun wF hxF=>?_)))))))));have HF:=H.step hxF (fun y hy h=>(hne _ (List.mem_map_of_mem (f:=(·.1)) hy)).1 (List.mem_singleton.1 h)) (fun z hz => .inr (by rw [List.mem_singleton.1 hz]; omega));refine ⟨vis,hp,⟨a,vis.length,c,full,rfl,by rw [List.map_map]; exact O,Z,fun x hx=>⟨HF.blk x (List.mem_cons_of_mem _ hx),(HF.own x (List.mem_cons_of_mem _ hx)).elim (fun h=>by cases h) id⟩⟩,HF.ext⟩
end Go.Proofs.YtibemkominehdaaGreat
namespace Go.Proofs.YtibemkominehdaaGreat
open Go.GV
attribute [local irreducible] Al W Wq Wt
theorem Om {bk b:Nat} {o:Obj} {m:List (Int × Value)} (hM:EG .u64 m o) (hm:m.length≤1000000) (w:World) (K:DueK bk b o w) :
  Ret Tryz.prog 172 #[PE bk] w fun v w'=>∃ vis:List (Int × Value),vis.Perm m∧FreshU w w' v (vis.map (·.1)):=by
 obtain ⟨w0,rfl⟩:∃ w0,w0=w:=⟨_,rfl⟩;refine Au (fn:=Tryz.f172) Tryz.func172 U [.func (.func 174) #[] #[.pointer (some ⟨bk,0,none⟩)]] U ?_;refine Ag (Aj U (Ab (Aa (Ag (C3 U (.func _ _ _) U ?_)))));refine Ai Ws (Q0 hM hm _ K) U ?_;rintro v w ⟨vis,hp,F⟩;obtain ⟨a,n,c,full,rfl,O,Z,hb⟩:=F.ex;refine Aj U (Ab (Aa (A9 (AD (v:=(.slice _ _ _)) U U U ?_))));exact ⟨vis,hp,F⟩
theorem Ti {x y:Int} (h:DL x=DL y):x=y:=by unfold DL at h; injection h
theorem PF:∀ (l:List Value),(∀ x∈l,∃ z,x=DL z)→∃ zs:List Int,l=zs.map DL
 | [],_=>⟨[],rfl⟩
 | x::l,h=>by
  obtain ⟨z,rfl⟩:=h x (List.mem_cons_self ..);obtain ⟨zs,rfl⟩:=PF l fun y hy=>h y (List.mem_cons_of_mem _ hy);exact ⟨z::zs,rfl⟩
theorem KS:∀ {l m:List Int},l.map DL=m.map DL→l=m
 | [],[],_=>rfl
 | [],_::_,h=>by cases h
 | _::_,[],h=>by cases h
 | x::l,y::m,h=>by
  simp only [List.map_cons,List.cons.injEq] at h;rw [Ti h.1,KS h.2]
theorem JD (f:Nat→Int) (n:Nat):B4 f n=(tab f n).map DL:=by unfold tab; rw [List.map_map]; rfl
theorem Nb (f:Nat→Int) {n m:Nat} (h:n≤m):(tab f m).take n=tab f n:=by
 unfold tab;rw [← List.map_take,List.take_range,Nat.min_eq_left h]
theorem WQ {g:Nat→Int} {n:Nat} (h:FD g 0 n):(tab g n).Pairwise (·≤·):=by
 rw [List.pairwise_iff_getElem];intro i j hi hj hij;rw [IY] at hi hj;have h1:=Gs (f:=g) hi;have h2:=Gs (f:=g) hj;rw [List.getElem?_eq_getElem (by rw [IY]; exact hi)] at h1;rw [List.getElem?_eq_getElem (by rw [IY]; exact hj)] at h2
 injection h1 with h1
 injection h2 with h2
 rw [h1,h2];exact h i j (Nat.zero_le _) hij hj
theorem sortF {a:Option Addr} {n c:Nat} {full:List Value} {l:List Int} (w:World) (O:OS a n c 1 full (l.map DL)) (Z:∀ x∈full,∃ z,x=DL z) (hb:∀ x∈ent a 32 full,w.heap[x.1]? = some x.2) (hn:n≤1000000000) :
  Ret Tryz.prog 173 #[.slice a n c] w fun v w'=>v = .tuple #[]∧∃ (full':List Value) (l':List Int),l'.Perm l∧l'.Pairwise (·≤·)∧OS a n c 1 full' (l'.map DL)∧(∀ x∈full',∃ z,x=DL z)∧(∀ x∈ent a 32 full',w'.heap[x.1]? = some x.2)∧Ext ((ent a 32 full).map (·.1)) w w':=by
 cases a with
 | none =>
  obtain rfl:n=0:=by have:=O.none' rfl; have:=O.le; omega
  have hl:l=[]:=by have:=O.llen; rw [List.length_map] at this; exact List.eq_nil_of_length_eq_zero (by omega)
  subst hl;refine Ret.mono (Oi c w) ?_;rintro v w' ⟨rfl,rfl⟩;exact ⟨rfl,full,[],List.Perm.refl _,.nil,O,Z,hb,Ext.refl _ _⟩
 | some p =>
  have hp:=O.zero p rfl;obtain ⟨q,o,sp⟩:=p;simp only [Addr.mk.injEq,true_and] at hp;obtain ⟨rfl,rfl⟩:=hp;obtain ⟨zs,rfl⟩:=PF full Z;have hlen:=O.len;rw [List.length_map,Nat.mul_one] at hlen;have hpre:=O.pre;rw [Nat.mul_one,← List.map_take] at hpre;have hpre:=KS hpre;have hzs:tab (fun i=>zs.getD i 0) c=zs:=by rw [← hlen]; exact WL zs
  have hb0:w.heap[q]? = some (Bl 32 (B4 (fun i=>zs.getD i 0) c)):=by
   rw [JD,hzs];exact hb (q,Bl 32 (zs.map DL)) (List.mem_singleton.2 U)
  refine Ret.mono (Td (c:=c) hb0 O.le hn) ?_;rintro v w' ⟨rfl,g,hP,hS,H⟩;have hS0:((ent (some ⟨q,0,none⟩) 32 (zs.map DL)).map (·.1))=[q]:=by simp [ent]
  refine ⟨rfl,B4 g c,tab g n,?_,WQ hS,⟨O.zero,O.none',by simp,O.le,?_⟩,fun x hx=>?_,fun x hx=>?_,by rw [hS0]; exact H.ext⟩
  ·rw [← Nb (fun i=>zs.getD i 0) O.le,hzs,hpre] at hP;exact hP
  ·rw [Nat.mul_one,JD,← List.map_take,Nb g O.le]
  ·rw [JD,List.mem_map] at hx;obtain ⟨z,_,rfl⟩:=hx;exact ⟨z,rfl⟩
  ·simp only [ent,List.mem_singleton] at hx;subst hx;exact H.get at0
theorem Q1 {bk b:Nat} {o:Obj} {m:List (Int × Value)} (hM:EG .u64 m o) (w:World) (K:DueK bk b o w)  (hm:m.length≤1000000:=by omega):
  Ret Tryz.prog 114 #[PE bk] w fun v w'=>∃ l:List Int,l.Perm (m.map (·.1))∧l.Pairwise (·≤·)∧FreshU w w' v l:=by
 obtain ⟨w0,rfl⟩:∃ w0,w0=w:=⟨_,rfl⟩;refine Au (fn:=Tryz.f114) Tryz.func114 U [.func (.func 174) #[] #[.pointer (some ⟨bk,0,none⟩)]] U ?_;refine Ag (Aj U (Ab (Aa (Ag (C3 U (.func _ _ _) U ?_)))));refine Ai Wk (Om hM hm _ K) U ?_;rintro v w ⟨vis,hp,F⟩;obtain ⟨a,n,c,full,rfl,O,Z,hb⟩:=F.ex;have hx5:=F.ext;have hvn:=O.llen;have hvm:=hp.length_eq;rw [List.length_map,List.length_map] at hvn;refine Aj U (Ab (Aa (Ag (An U U (Ai Wl (sortF _ O Z (fun x hx=>(hb x hx).1) (by omega)) U ?_)))));rintro v w ⟨rfl,full',l',hP,hS,O',Z',hb',hx7⟩;refine Ab (Aa (Ag (An U U (Aj U (Ab (Aa (A9 (AD (v:=(.slice _ _ _)) U U U ?_))))))));refine ⟨l',hP.trans (hp.map _),hS,⟨_,_,_,_,rfl,O',Z',fun x hx=>⟨hb' x hx,?_⟩⟩,hx5.then hx7 fun x hx=>?_⟩
 ·cases a with
  | none=>simp [ent] at hx
  | some p =>
   simp only [ent,List.mem_singleton] at hx;subst hx;exact (hb (p.block,Bl 32 full) (by simp [ent])).2
 ·obtain ⟨y,hy,rfl⟩:=List.mem_map.1 hx;exact .inr (hb y hy).2
end Go.Proofs.YtibemkominehdaaGreat
namespace Go.Proofs.YtibemkominehdaaGreat
open Go.GV
attribute [local irreducible] Al W Wq Wt
structure Du where
 id:Int
 fr:Int
 to:Int
 am:Int
 we:Int
 un:Int
 held:Bool
instance:DecidableEq Du:=fun x y=>if h:x.id=y.id∧x.fr=y.fr∧x.to=y.to∧x.am=y.am∧x.we=y.we∧x.un=y.un∧x.held=y.held then isTrue (by cases x; cases y; simp_all) else isFalse fun e=>h (by subst e; exact ⟨rfl,rfl,rfl,rfl,rfl,rfl,rfl⟩)
abbrev FW (d:Du):List Value:=[.int .u64 d.id,.int .i64 d.fr,.int .i64 d.to,.int .i64 d.am,.int .i64 d.we,.int .i64 d.un,.bool d.held]
abbrev dueV (d:Du):Value := .agg #[.int .u64 d.id,.int .i64 d.fr,.int .i64 d.to,.int .i64 d.am,.int .i64 d.we,.int .i64 d.un,.bool d.held]
def dm (ds:List Du):List (Int × Value):=ds.map fun d=>(d.id,dueV d)
def amV (p:Int × Value):Int:=match p.2 with
 | .agg vs=>match vs.toList with | [_,_,_,.int _ x,_,_,_]=>x | _=>0
 | _=>0
abbrev DU (b:Nat) (nx:Int):List Value:=[.map (some b),.int .u64 nx]
structure VSt where
 vis:List (Int × Value)
 it:Obj
 a:Option Addr
 c:Nat
 full:List Value
end Go.Proofs.YtibemkominehdaaGreat
namespace Go.Proofs.YtibemkominehdaaGreat
open Go.GV
attribute [local irreducible] Al W Wq Wt
def d00:Du:=⟨0,0,0,0,0,0,false⟩
def F3 (ds:List Du) (k:Int):Du:=(ds.find? fun d=>d.id == k).getD d00
theorem HW {d:Du}:∀ {ds:List Du},(ds.map (·.id)).Nodup→d∈ds→F3 ds d.id=d
 | x::ds,hn,h=>by
  simp only [List.map_cons,List.nodup_cons] at hn;unfold F3
  by_cases e:x.id=d.id
  ·rcases List.mem_cons.1 h with rfl | h
   ·simp
   ·exact absurd (List.mem_map_of_mem (f:=(·.id)) h) (by rw [← e]; exact hn.1)
  ·rcases List.mem_cons.1 h with rfl | h
   ·exact absurd U e
   ·have:=HW hn.2 h;unfold F3 at this;rw [List.find?_cons,show (x.id == d.id)=false by simpa using e];exact this
theorem Tj {ds:List Du} (hn:(ds.map (·.id)).Nodup):(ds.map (·.id)).map (F3 ds)=ds:=by
 rw [List.map_map];have:ds.map (F3 ds ∘ (·.id))=ds.map id:=List.map_congr_left fun d hd=>HW hn hd;rw [this,List.map_id]
theorem PG {d:Du}:∀ {ds:List Du},(ds.map (·.id)).Nodup→d∈ds→DP (dm ds) d.id=some (dueV d)
 | x::ds,hn,h=>by
  simp only [List.map_cons,List.nodup_cons] at hn;unfold dm DP;rw [List.map_cons,List.find?_cons]
  by_cases e:x.id=d.id
  ·rcases List.mem_cons.1 h with rfl | h
   ·simp
   ·exact absurd (List.mem_map_of_mem (f:=(·.id)) h) (by rw [← e]; exact hn.1)
  ·rcases List.mem_cons.1 h with rfl | h
   ·exact absurd U e
   ·have:=PG hn.2 h;unfold dm DP at this;rw [show (x.id == d.id)=false by simpa using e];exact this
def Tk (ds' ds:List Du):Prop:=ds'.Perm ds∧(ds'.map (·.id)).Pairwise (·<·)
theorem Q2 {ds:List Du} {l:List Int} (hn:(ds.map (·.id)).Nodup) (hp:l.Perm ((dm ds).map (·.1))) (hs:l.Pairwise (·≤·)):Tk (l.map (F3 ds)) ds∧(l.map (F3 ds)).map (·.id)=l:=by
 have h1:(dm ds).map (·.1)=ds.map (·.id):=by unfold dm; rw [List.map_map]; rfl
 rw [h1] at hp
 have h2:(l.map (F3 ds)).map (·.id)=l:=by
  rw [List.map_map]
  have:l.map ((·.id) ∘ F3 ds)=l.map id:=List.map_congr_left fun k hk=>by
   obtain ⟨d,hd,rfl⟩:=List.mem_map.1 (hp.mem_iff.1 hk);show (F3 ds d.id).id=d.id;rw [HW hn hd]
  rw [this,List.map_id]
 refine ⟨⟨?_,?_⟩,h2⟩
 ·have:=hp.map (F3 ds)
  rwa [Tj hn] at this
 ·rw [h2];have hnd:=hp.nodup_iff.2 hn;exact (hs.and (List.nodup_iff_pairwise_ne.1 hnd)).imp fun h=>by omega
theorem Q3 {ds:List Du} {i:Nat} {d:Du} (h:ds[i]? = some d):(ds.take (i+1)).flatMap FW=(ds.take i).flatMap FW++FW d:=by
 rw [List.take_add_one,h,List.flatMap_append];simp
set_option maxRecDepth 20000 in
set_option maxHeartbeats 2000000 in
theorem Tl {bd b:Nat} {nx:Int} {o:Obj} {ds:List Du} (w:World) (hd:w.heap[bd]? = some (Bl 176 (DU b nx))) (hb:w.heap[b]? = some o) (hM:EG .u64 (dm ds) o) (hnd:(ds.map (·.id)).Nodup)  (hn:ds.length≤1000000:=by omega):
  Ret Tryz.prog 71 #[ptr bd] w fun v w'=>∃ ds':List Du,Tk ds' ds∧Fresh w w' 163 7 v (ds'.flatMap FW):=by
 obtain ⟨w0,rfl⟩:∃ w0,w0=w:=⟨_,rfl⟩;have H:=Ctx.start w0 [];have hdl:(dm ds).length=ds.length:=by unfold dm; rw [List.length_map]
 refine Au (fn:=Tryz.f71) Tryz.func71 U [.pointer (some ⟨bd,0,none⟩)] U ?_;refine Ag (Aj U (Ab (Aa (Ax (Ag (AA U (Cg SB U ?_)))))));refine Ab (Aa (Ay _ U ?_ ?_))
 ·intro h0;cases h0
 ·intro h0;refine A2 (Aa (Ag (Aj U (Ab (Aa (Ax (Ag (AA U (Bb U (Ah MO U (BN NT U ((by rw [A6 hd]; rfl)) ?_)))))))))));refine Ai Wd (UM (b:=b) _) U ?_;rintro v w ⟨bk,rfl,hbk,-,hx12⟩;replace H:=H.call hx12;refine Ai Wc (Q1 hM _ ⟨hbk,H.ext.to hb (by simp)⟩) U ?_;rintro v w ⟨l,hlp,hls,F⟩;obtain ⟨ak,nk,ck,fk,rfl,OK,ZK,hbl⟩:=F.ex;replace H:=H.call F.ext;refine Bp AP U (Ad U (Ab (Aa (A4 ?_))));obtain ⟨w1,rfl⟩:∃ z,z=w:=⟨_,rfl⟩;have H0:=H.ext;replace H:=Ctx.start w1 [];have R:Rd w1 ak 1 (fun x=>[DL x]) l:=OK.rd1 fun x hx=>(hbl x hx).1;have hd1:=H0.to hd (by simp);have hb1:=H0.to hb (by simp);obtain ⟨hSD,hid⟩:=Q2 hnd hlp hls;obtain ⟨ds',hds'⟩:∃ ds',ds'=l.map (F3 ds):=⟨_,rfl⟩;rw [← hds'] at hSD hid;have hlen:ds'.length=l.length:=by rw [hds',List.length_map]
  have hll:l.length=nk:=by have:=OK.llen; rw [List.length_map] at this; omega
  have hle:l.length=ds.length:=by have:=hlp.length_eq; rw [List.length_map] at this; omega
  subst hll;refine Bt 536838184 (α:=LSt) (fun t=>[(3,.slice t.a t.i t.c),(15,.int .i64 (t.i:Int))]) (fun t w'=>t.i≤l.length∧OS t.a t.i t.c 7 t.full ((ds'.take t.i).flatMap FW)∧Ctx w1 [] w' (ent t.a 163 t.full)) (fun t=>l.length - t.i) ⟨0,none,0,[]⟩ U ?_ ?_ ?_
  ·exact ⟨rfl,rfl,trivial⟩
  ·exact ⟨Nat.zero_le _,OS.nil,H⟩
  ·rintro ⟨i,a,c,full⟩ j w ⟨hi,O,H⟩; dsimp only at hi O H; dsimp only;refine Ag (Bu U U (Ab (Aa (Ax (Ay _ U ?_ ?_)))))
   ·intro h1;replace h1:=AX h1;obtain ⟨k,hk⟩:=AV (l:=l) (i:=i);obtain ⟨d,hdi⟩:=AV (l:=ds') (i:=i)
    have hkd:k=d.id:=by
     have h7:(ds'.map (·.id))[i]? = some d.id:=by rw [List.getElem?_map,hdi]; rfl
     rw [hid,hk] at h7;injection h7
    subst hkd;have hmg:=PG hnd (hSD.1.mem_iff.1 (List.mem_of_getElem? hdi));refine A2 (Aa (Ax (A4 (Ag (BC R AP AB U U (by rfl) ?_)))));refine BN Bm U (((R.ext0 H.ext).fld hk U (j:=0) U)) ?_;refine Ae U (Ab (Aa (A5 (An U U (AA U (Bb U (Ah MO U (BN NT U ((H.old0 (by rw [A6 hd1]; rfl))) ?_))))))));refine Ad U (NO U S6 CH WI U U (H.ext.to hb1 (by simp)) hM ?_);rw [hmg];rw [Option.getD_some];refine Cn _ (.agg _) I0 HO SG U U U U H ?_;rintro b26 w - H;refine C2 (L:=[]) I0 I0 HO VX SG U U U H O U (by simp [AR]) ?_;rintro a' c' full' w H O;refine Aj U (Ab (AU (Aa (A5 (A3 U U ?_)))));refine Ad U (Ab (Aa ?_));exact ⟨⟨i+1,a',c',full'⟩,rfl,⟨rfl,rfl,trivial⟩,⟨by dsimp only; omega,by dsimp only; rw [Q3 hdi]; exact O,H⟩,by dsimp only; omega⟩
   ·intro h1;replace h1:=AY h1;refine Bs (Ao (Ao (AK (Aa (Ag (An U U (Aj U (Ab (Aa (A9 (AD (v:=(.slice _ _ _)) U U U ?_)))))))))));obtain rfl:i=l.length:=by omega
    have FF:=Ctx.fresh (L:=[]) H O;rw [show ds'.take l.length=ds' by rw [← hlen,List.take_length]] at FF;obtain ⟨⟨a2,n2,c2,f2,e1,e2,e3⟩,e4⟩:=FF;exact ⟨ds',hSD,⟨a2,n2,c2,f2,e1,e2,fun x hx=>⟨(e3 x hx).1,Nat.le_trans H0.size (e3 x hx).2⟩⟩,H0.trans e4⟩
end Go.Proofs.YtibemkominehdaaGreat
namespace Go.Proofs.YtibemkominehdaaGreat
open Go.GV
attribute [local irreducible] Al W Wq Wt
def Tm (x:Int):Bool:=decide (0≤x) && decide (x<16)
def JE (d:Du):Bool:=(Tm d.fr && (Tm d.to && !decide (d.fr=d.to))) && (decide (1≤d.am) && (Cr d.am && (decide (1≤d.we) && (decide (d.we≤1000) && decide (0≤d.un)))))
end Go.Proofs.YtibemkominehdaaGreat
namespace Go.Proofs.YtibemkominehdaaGreat
open Go.GV
attribute [local irreducible] Al W Wq Wt
def LQ (nx:Int):Int→List Du→Bool
 | _,[]=>true
 | ah,d::ds=>(JE d && (decide (ah<d.id) && decide (d.id<nx))) && LQ nx d.id ds
def LR (ah:Int):List Du→Int
 | []=>ah
 | d::ds=>LR d.id ds
theorem Oo {nx:Int}:∀ {ah:Int} {ds:List Du},LQ nx ah ds=true→(∀ d∈ds,ah<d.id∧d.id≤LR ah ds∧d.id<nx∧JE d=true)∧(ds.map (·.id)).Pairwise (·<·)∧ah≤LR ah ds
 | _,[],_=>⟨fun _ h=>(by cases h),List.Pairwise.nil,Int.le_refl _⟩
 | ah,x::ds,h=>by
  simp only [LQ,Bool.and_eq_true,decide_eq_true_eq] at h;obtain ⟨⟨hm,h1,h2⟩,h3⟩:=h;obtain ⟨i1,i2,i3⟩:=Oo h3;refine ⟨fun d hd=>?_,?_,?_⟩
  ·rcases List.mem_cons.1 hd with rfl | hd
   ·exact ⟨h1,i3,h2,hm⟩
   ·obtain ⟨a,b,c,e⟩:=i1 d hd;exact ⟨by omega,b,c,e⟩
  ·rw [List.map_cons,List.pairwise_cons];refine ⟨fun k hk=>?_,i2⟩;obtain ⟨d,hd,rfl⟩:=List.mem_map.1 hk;exact (i1 d hd).1
  ·show ah≤LR x.id ds;omega
def ofC (ds:List Du) (nx:Int):Int :=
 if 64<ds.length then 6 else if (decide (1≤nx) && decide (nx≤4611686018427387904))=false then 1 else if LQ nx 0 ds=false then 1 else (D4 (ds.map (·.am))).2
structure OSt where
 i:Nat
 ah:Int
 o:Obj
end Go.Proofs.YtibemkominehdaaGreat
namespace Go.Proofs.YtibemkominehdaaGreat
open Go.GV
attribute [local irreducible] Al W Wq Wt
structure Ac where
 ba:Int
 re:Int
instance:DecidableEq Ac:=fun x y=>if h:x.ba=y.ba∧x.re=y.re then isTrue (by cases x; cases y; simp_all) else isFalse fun e=>h (by subst e; exact ⟨rfl,rfl⟩)
abbrev Cs (a:Ac):List Value:=[.int .i64 a.ba,.int .i64 a.re]
theorem JF (a:Ac):∀ v∈Cs a,AR v=true:=by simp [Cs,AR]
theorem Q4 (acs:List Ac):∀ v∈acs.flatMap Cs,AR v=true:=fun v hv=>by
 obtain ⟨a,_,h⟩:=List.mem_flatMap.1 hv;exact JF a v h
theorem Tn (acs:List Ac):(acs.flatMap Cs).length=acs.length*2:=by
 induction acs with
 | nil=>rfl
 | cons a acs ih =>
  rw [List.flatMap_cons,List.length_append,ih];show 2+acs.length*2=(acs.length+1)*2;omega
theorem Q5 (a:Option Addr) (n c:Nat) (acs:List Ac) (w:World) (R:Rd w a 2 Cs acs) (hn:acs.length=n) (hm:n≤1000000000) :
  Ret Tryz.prog 113 #[.slice a n c] w fun v w'=>Fresh w w' 51 2 v (acs.flatMap Cs):=by
 subst hn;obtain ⟨w0,rfl⟩:∃ w0,w0=w:=⟨_,rfl⟩;have H:=Ctx.start w0 [];refine Au (fn:=Tryz.f113) Tryz.func113 U [.slice a acs.length c] U ?_;refine Ag (Aj U (Ab (Aa (Ax (Ag (An U U (EO U CM U (Ab (Aa (Ay _ U ?_ ?_))))))))))
 ·intro h1;have ha:a=none:=by simpa using h1
  subst ha
  have hxs:acs=[]:=by
   cases acs with
   | nil=>rfl
   | cons x xs=>obtain ⟨b,o,h⟩:=R.some' (by simp); cases h
  subst hxs;refine Ag (Aj U (Ab (Aa (A9 (A7 (AD (v:=(.slice _ _ _)) U U U ?_))))));exact Fresh.nil H _ _
 ·intro h1;refine A2 (Aa (Ag (EQ U CM Dj H ?_)));rintro b5 w H O;refine An U U (Ei U CM CM Dj Vu I8 U (acs.flatMap Cs) U U H O (Tn acs) (Q4 acs) ((R.ext0 H.ext).app (fun _ _=>rfl) (by omega)) ?_);rintro a7 c7 full7 w H O;refine Aj U (Ab (Aa (A9 (AD (v:=(.slice _ _ _)) U U U ?_))));exact H.fresh O
set_option maxRecDepth 20000 in
theorem To {bd:Nat} (a:Option Addr) (n c:Nat) (acs:List Ac) (w:World) (hd:w.heap[bd]? = some (Bl 173 [.slice a n c])) (R:Rd w a 2 Cs acs) (hn:acs.length=n)  (hm:n≤1000000000:=by omega):
  Ret Tryz.prog 70 #[ptr bd] w fun v w'=>Fresh w w' 51 2 v (acs.flatMap Cs):=by
 obtain ⟨w0,rfl⟩:∃ w0,w0=w:=⟨_,rfl⟩;have H:=Ctx.start w0 [];refine Au (fn:=Tryz.f70) Tryz.func70 U [.pointer (some ⟨bd,0,none⟩)] U ?_;refine Ag (Aj U (Ab (Aa (Ax (Ag (AA U (Cg LF U ?_)))))));refine Ab (Aa (Ay _ U ?_ ?_))
 ·intro h0;cases h0
 ·intro h0;refine A2 (Aa (Ag (AA U (Bb U (Ah Di U (BN EA U ((by rw [A6 hd]; rfl)) ?_))))));refine Ai Wb (Q5 a n c acs _ R hn hm) U ?_;rintro v w F;obtain ⟨a9,n9,c9,full9,rfl,O9,hb9⟩:=F.ex;refine Aj U (Ab (Aa (A9 (AD (v:=(.slice _ _ _)) U U U ?_))));exact F
theorem Tp {α β:Type} {f:α→β} {l:List α} {i:Nat} {x:α} (h:l[i]? = some x):(l.take (i+1)).map f=(l.take i).map f++[f x]:=by
 rw [List.take_add_one,h,List.map_append]; rfl
set_option maxRecDepth 20000 in
set_option maxHeartbeats 2000000 in
theorem IA {bd:Nat} (a:Option Addr) (n c:Nat) (acs:List Ac) (w:World) (hd:w.heap[bd]? = some (Bl 173 [.slice a n c])) (R:Rd w a 2 Cs acs) (hn:acs.length=n)  (hm:n≤1000000:=by omega):
  Ret Tryz.prog 120 #[ptr bd] w fun v w'=>Fresh w w' 2 1 v ((acs.map (·.ba)).map Eb):=by
 subst hn;obtain ⟨w0,rfl⟩:∃ w0,w0=w:=⟨_,rfl⟩;have H:=Ctx.start w0 [];refine Au (fn:=Tryz.f120) Tryz.func120 U [.pointer (some ⟨bd,0,none⟩)] U ?_;refine Ag (Aj U (Ab (Aa (Ag (Aj U (Ab (Aa (Ax (Ag (AA U (Bb U ?_)))))))))));refine Ah Di U (BN EA U ((by rw [A6 hd]; rfl)) ?_);refine Bp CM U (Ad U (Ab (Aa (A4 (Bt 2095144 (α:=LSt) (fun t=>[(3,.slice t.a t.i t.c),(11,.int .i64 (t.i:Int))]) (fun t w'=>t.i≤acs.length∧OS t.a t.i t.c 1 t.full (((acs.take t.i).map (·.ba)).map Eb)∧Ctx w0 [] w' (ent t.a 2 t.full)) (fun t=>acs.length - t.i) ⟨0,none,0,[]⟩ U ?_ ?_ ?_)))))
 ·exact ⟨rfl,rfl,trivial⟩
 ·exact ⟨Nat.zero_le _,OS.nil,H⟩
 ·rintro ⟨i,a2,c2,full⟩ j w ⟨hi,O,H⟩; dsimp only at hi O H; dsimp only;refine Ag (Bu U U (Ab (Aa (Ax (Ay _ U ?_ ?_)))))
  ·intro h1;replace h1:=AX h1;obtain ⟨x,hx⟩:=AV (l:=acs) (i:=i);refine A2 (Aa (Ax (A4 (Ag (BC R CM Dj U U (by rfl) ?_)))));refine Em _ KF Dj U U ((R.ext0 H.ext).row hx U) ?_;refine B5 I8 H ?_;rintro b5 w - H;refine BB Dj U U U (by exact JF _) H at0 U ?_;rintro w H;refine Ab (Aa (A5 (An U U (Ah Fm U (AH CT U H at0 U (Cn _ (.int _ _) Ch Ez Kj U U U U H ?_))))));rintro b18 w - H;refine C2 (L:=[_]) Ch Ch Ez by_2 Kj U U U H O U (by simp [AR]) ?_;rintro a' c' full' w H O;refine Aj U (Ab (AU (Aa (A5 (A3 U U ?_)))));refine Ad U (Ab (Aa ?_));exact ⟨⟨i+1,a',c',full'⟩,rfl,⟨rfl,rfl,trivial⟩,⟨by dsimp only; omega,by dsimp only; rw [Tp hx,List.map_append]; exact O,H.tail⟩,by dsimp only; omega⟩
  ·intro h1;replace h1:=AY h1;refine Bs (Ao (Ao (AK (Aa (Ag (An U U (Aj U (Ab (Aa (A9 (AD (v:=(.slice _ _ _)) U U U ?_)))))))))));obtain rfl:i=acs.length:=by omega
   rw [List.take_length] at O;exact Ctx.fresh (L:=[]) H O
def EB (a:Ac):Int:=max 0 (a.ba - a.re)
def KT (a:Ac):Bool:=Cr a.ba && Cr a.re
end Go.Proofs.YtibemkominehdaaGreat
namespace Go.Proofs.YtibemkominehdaaGreat
open Go.GV
attribute [local irreducible] Al W Wq Wt
def FE (acs:List Ac):Int:=if 16<acs.length then 6 else if acs.all KT=false then 1 else (D4 (acs.map Ac.ba)).2
end Go.Proofs.YtibemkominehdaaGreat
namespace Go.Proofs.YtibemkominehdaaGreat
open Go.GV
attribute [local irreducible] Al W Wq Wt
def a00:Ac:=⟨0,0⟩
def acZ (acs:List Ac) (z:Nat→Int) (k i:Nat):Ac:=if i<k then ⟨z i,(acs.getD i a00).re⟩ else acs.getD i a00
def acsZ (acs:List Ac) (z:Nat→Int) (k:Nat):List Ac:=(List.range acs.length).map (acZ acs z k)
def shA (acs:List Ac) (ys:List Int):List Ac:=if Tf (acs.map Ac.ba) ys=0 then List.zipWith (fun a y=>⟨a.ba+y,a.re⟩) acs ys else acs
def shZ (acs:List Ac) (ys:List Int):List Int:=if Tf (acs.map Ac.ba) ys=0 then Ol (acs.map Ac.ba) ys else []
structure HSt where
 i:Nat
 full:List Value
end Go.Proofs.YtibemkominehdaaGreat
namespace Go.Proofs.YtibemkominehdaaGreat
open Go.GV
attribute [local irreducible] Al W Wq Wt
end Go.Proofs.YtibemkominehdaaGreat
namespace Go.Proofs.YtibemkominehdaaGreat
open Go.GV
attribute [local irreducible] Al W Wq Wt
def inM (x y:Int):Bool:=Cr x && Te y
end Go.Proofs.YtibemkominehdaaGreat
namespace Go.Proofs.YtibemkominehdaaGreat
open Go.GV
attribute [local irreducible] Al W Wq Wt
end Go.Proofs.YtibemkominehdaaGreat
namespace Go.Proofs.YtibemkominehdaaGreat
open Go.GV
attribute [local irreducible] Al W Wq Wt
theorem Tq (x y:Ac):decide (x=y)=true↔Cs x=Cs y:=by
 obtain ⟨a,b⟩:=x;obtain ⟨c,d⟩:=y;simp [Cs]
theorem Ts (x y:Du):decide (x=y)=true↔FW x=FW y:=by
 obtain ⟨a,b,c,d,e,f,g⟩:=x;obtain ⟨a',b',c',d',e',f',g'⟩:=y;simp [FW]
theorem LS {α:Type} {xs ys:List α} (hl:xs.length=ys.length) (h:∀ (k:Nat) (x y:α),k<xs.length→xs[k]? = some x→ys[k]? = some y→x=y):xs=ys:=by
 refine List.ext_getElem? fun i=>?_
 rcases Nat.lt_or_ge i xs.length with h7 | h7
 ·obtain ⟨x,hx⟩:=AV (l:=xs) (i:=i) (h:=h7);obtain ⟨y,hy⟩:=AV (l:=ys) (i:=i);rw [hx,hy,h i x y h7 hx hy]
 ·rw [List.getElem?_eq_none (by omega),List.getElem?_eq_none (by omega)]
set_option maxRecDepth 20000 in
theorem Q6 (a b:Option Addr) (n c m d:Nat) (xs ys:List Ac) (w:World) (R:Rd w a 2 Cs xs) (hn:xs.length=n) (hn2:n≤1000000) (Ry:Rd w b 2 Cs ys) (hm:ys.length=m) (hm2:m≤1000000) :
  Ret Tryz.prog 67 #[.slice a n c,.slice b m d] w fun v w'=>v = .bool (decide (xs=ys))∧Ext [] w w':=by
 subst hn hm;obtain ⟨w0,rfl⟩:∃ w0,w0=w:=⟨_,rfl⟩;have H:=Ctx.start w0 [];refine Au (fn:=Tryz.f67) Tryz.func67 U [.slice a xs.length c,.slice b ys.length d] U ?_;refine Ag (Am U (Ab (Aa (Ax (Ag (An U U (Bp CM U (An U U (Bp CM U (CQ U U ?_))))))))));refine Ab (Aa (Ay _ U ?_ ?_))
 ·intro h1;replace h1:=Dw h1;refine Ag (Am U (Ab (Aa (A9 (A7 (AD (v:=(.bool _)) U U U ?_))))));exact ⟨congrArg Value.bool (decide_eq_false fun h=>by rw [h] at h1; simp at h1).symm,H.ext⟩
 ·intro h1;replace h1:=Dx h1;have hle:xs.length=ys.length:=by omega
  refine A2 (Aa (Ax (Ag (Ae U (Ab (Aa (A4 (Bt 67106864 (α:=Nat) (fun i=>[(5,.int .i64 (i:Int))]) (fun i w'=>i≤xs.length∧Ctx w0 [] w' []∧∀ (k:Nat) (x y:Ac),k<i→xs[k]? = some x→ys[k]? = some y→x=y) (fun i=>xs.length - i) 0 U ?_ ?_ ?_))))))))
  ·exact ⟨rfl,trivial⟩
  ·exact ⟨Nat.zero_le _,H,fun k x y h=>absurd h (Nat.not_lt_zero _)⟩
  ·clear H;rintro i j w ⟨hi,H,hb⟩;refine Ax (Ag (Ad U (An U U (Bp CM U (Bu U U (Ab (Aa (Ay _ U ?_ ?_))))))))
   ·intro h2;replace h2:=AX h2;obtain ⟨x,hx⟩:=AV (l:=xs) (i:=i);obtain ⟨y,hy⟩:=AV (l:=ys) (i:=i);refine A2 (Aa (Ax (A4 (Hw (fun x=>x=_) Bz U ?_))));refine Bx U (AJ U (Cf R CM Dj U U (by rfl) ?_));refine Gy _ U KF Dj U U (by rintro _ rfl; exact ((R.ext0 H.drew.ext).row hx rfl)) ?_;refine Bx U (AJ U (Cf Ry CM Dj U U (by rfl) ?_));refine Gy _ U KF Dj U U (by rintro _ rfl; exact ((Ry.ext0 H.drew.ext).row hy rfl)) ?_;refine RS (ks:=[true,true]) (xs:=Cs x) (ys:=Cs y) (decide (x=y)) U U U ⟨rfl,rfl,trivial⟩ (Tq x y) ?_;refine BZ ?_;rintro _ rfl;replace H:=H.drew;refine Ay _ U ?_ ?_
    ·intro h3;refine Ag (Am U (Ab (Aa (A9 (Bd (A7 (A7 (Bd (A7 (AD (v:=(.bool _)) U U U ?_))))))))));have hne:¬ x=y:=by simpa using h3
     exact ⟨congrArg Value.bool (decide_eq_false fun h=>by subst h; rw [hx] at hy; injection hy with hy; exact hne hy).symm,H.ext⟩
    ·intro h3;refine A2 (AU (Aa (A5 (Ad U (A3 U U ?_)))));refine Ae U (Ab (Aa ?_));have heq:x=y:=by simpa using h3
     refine ⟨i+1,rfl,⟨rfl,trivial⟩,⟨by omega,H,fun k x' y' hk hx' hy'=>?_⟩,by omega⟩
     rcases Nat.lt_or_ge k i with h7 | h7
     ·exact hb k x' y' h7 hx' hy'
     ·obtain rfl:k=i:=by omega
      rw [hx] at hx'; rw [hy] at hy';cases hx'; cases hy';exact heq
   ·intro h2;replace h2:=AY h2;refine Bs (Ao (Ao (AK (Aa (Ag (Am U (Ab (Aa (A9 (AD (v:=(.bool _)) U U U ?_))))))))));obtain rfl:i=xs.length:=by omega
    exact ⟨congrArg Value.bool (decide_eq_true (LS hle hb)).symm,H.ext⟩
end Go.Proofs.YtibemkominehdaaGreat
namespace Go.Proofs.YtibemkominehdaaGreat
open Go.GV
attribute [local irreducible] Al W Wq Wt
set_option maxRecDepth 20000 in
theorem Q7 (a b:Option Addr) (n c m d:Nat) (xs ys:List Du) (w:World) (R:Rd w a 7 FW xs) (hn:xs.length=n) (hn2:n≤1000000) (Ry:Rd w b 7 FW ys) (hm:ys.length=m) (hm2:m≤1000000) :
  Ret Tryz.prog 68 #[.slice a n c,.slice b m d] w fun v w'=>v = .bool (decide (xs=ys))∧Ext [] w w':=by
 subst hn hm;obtain ⟨w0,rfl⟩:∃ w0,w0=w:=⟨_,rfl⟩;have H:=Ctx.start w0 [];refine Au (fn:=Tryz.f68) Tryz.func68 U [.slice a xs.length c,.slice b ys.length d] U ?_;refine Ag (Am U (Ab (Aa (Ax (Ag (An U U (Bp I0 U (An U U (Bp I0 U (CQ U U ?_))))))))));refine Ab (Aa (Ay _ U ?_ ?_))
 ·intro h1;replace h1:=Dw h1;refine Ag (Am U (Ab (Aa (A9 (A7 (AD (v:=(.bool _)) U U U ?_))))));exact ⟨congrArg Value.bool (decide_eq_false fun h=>by rw [h] at h1; simp at h1).symm,H.ext⟩
 ·intro h1;replace h1:=Dx h1;have hle:xs.length=ys.length:=by omega
  refine A2 (Aa (Ax (Ag (Ae U (Ab (Aa (A4 (Bt 67106864 (α:=Nat) (fun i=>[(5,.int .i64 (i:Int))]) (fun i w'=>i≤xs.length∧Ctx w0 [] w' []∧∀ (k:Nat) (x y:Du),k<i→xs[k]? = some x→ys[k]? = some y→x=y) (fun i=>xs.length - i) 0 U ?_ ?_ ?_))))))))
  ·exact ⟨rfl,trivial⟩
  ·exact ⟨Nat.zero_le _,H,fun k x y h=>absurd h (Nat.not_lt_zero _)⟩
  ·clear H;rintro i j w ⟨hi,H,hb⟩;refine Ax (Ag (Ad U (An U U (Bp I0 U (Bu U U (Ab (Aa (Ay _ U ?_ ?_))))))))
   ·intro h2;replace h2:=AX h2;obtain ⟨x,hx⟩:=AV (l:=xs) (i:=i);obtain ⟨y,hy⟩:=AV (l:=ys) (i:=i);refine A2 (Aa (Ax (A4 (Hw (fun x=>x=_) Bz U ?_))));refine Bx U (AJ U (Cf R I0 HO U U (by rfl) ?_));refine Gy _ U Sb HO U U (by rintro _ rfl; exact ((R.ext0 H.drew.ext).row hx rfl)) ?_;refine Bx U (AJ U (Cf Ry I0 HO U U (by rfl) ?_));refine Gy _ U Sb HO U U (by rintro _ rfl; exact ((Ry.ext0 H.drew.ext).row hy rfl)) ?_;refine RS (ks:=[true,true,true,true,true,true,false]) (xs:=FW x) (ys:=FW y) (decide (x=y)) U U U ⟨rfl,rfl,rfl,rfl,rfl,rfl,True.intro,True.intro⟩ (Ts x y) ?_;refine BZ ?_;rintro _ rfl;replace H:=H.drew;refine Ay _ U ?_ ?_
    ·intro h3;refine Ag (Am U (Ab (Aa (A9 (Bd (A7 (A7 (Bd (A7 (AD (v:=(.bool _)) U U U ?_))))))))));have hne:¬ x=y:=by simpa using h3
     exact ⟨congrArg Value.bool (decide_eq_false fun h=>by subst h; rw [hx] at hy; injection hy with hy; exact hne hy).symm,H.ext⟩
    ·intro h3;refine A2 (AU (Aa (A5 (Ad U (A3 U U ?_)))));refine Ae U (Ab (Aa ?_));have heq:x=y:=by simpa using h3
     refine ⟨i+1,rfl,⟨rfl,trivial⟩,⟨by omega,H,fun k x' y' hk hx' hy'=>?_⟩,by omega⟩
     rcases Nat.lt_or_ge k i with h7 | h7
     ·exact hb k x' y' h7 hx' hy'
     ·obtain rfl:k=i:=by omega
      rw [hx] at hx'; rw [hy] at hy';cases hx'; cases hy';exact heq
   ·intro h2;replace h2:=AY h2;refine Bs (Ao (Ao (AK (Aa (Ag (Am U (Ab (Aa (A9 (AD (v:=(.bool _)) U U U ?_))))))))));obtain rfl:i=xs.length:=by omega
    exact ⟨congrArg Value.bool (decide_eq_true (LS hle hb)).symm,H.ext⟩
end Go.Proofs.YtibemkominehdaaGreat
namespace Go.Proofs.YtibemkominehdaaGreat
open Go.GV
attribute [local irreducible] Al W Wq Wt
end Go.Proofs.YtibemkominehdaaGreat
namespace Go.Proofs.YtibemkominehdaaGreat
open Go.GV
attribute [local irreducible] Al W Wq Wt
end Go.Proofs.YtibemkominehdaaGreat
namespace Go.Proofs.YtibemkominehdaaGreat
open Go.GV
attribute [local irreducible] Al W Wq Wt
def pC (d:Du) (x:Int):Int:=if x<0 then 1 else if d.held=true then 14 else if d.am<x then 12 else 0
def pD (d:Du) (x:Int):Du:=if pC d x=0 then { d with am:=d.am - x } else d
def KU (ds:List Du) (k:Int):Option Du:=ds.find? fun d=>d.id == k
def Q8:List Du→Int→Int→List Du
 | [],_,_=>[]
 | d::ds,k,x=>if d.id=k then (if d.am=x then ds else { d with am:=d.am - x }::ds) else d::Q8 ds k x
def payC (ds:List Du) (k x:Int):Int:=match KU ds k with
 | none=>11
 | some d=>pC d x
def payS (ds:List Du) (k x:Int):List Du:=if payC ds k x=0 then Q8 ds k x else ds
def payF (bx:Nat):Value := .func (.func 204) #[] #[ptr bx]
end Go.Proofs.YtibemkominehdaaGreat
namespace Go.Proofs.YtibemkominehdaaGreat
open Go.GV
attribute [local irreducible] Al W Wq Wt
end Go.Proofs.YtibemkominehdaaGreat
namespace Go.Proofs.YtibemkominehdaaGreat
open Go.GV
attribute [local irreducible] Al W Wq Wt
structure PlD (ds:List Du) (k:Int) (i:Nat) (d:Du):Prop where
 at':ds[i]? = some d
 id:d.id=k
 fst:∀ (j:Nat) (e:Du),j<i→ds[j]? = some e→e.id≠k
theorem PlD.pay {ds:List Du} {k x:Int} {i:Nat} {d:Du} (h:PlD ds k i d):Q8 ds k x=if d.am=x then ds.eraseIdx i else ds.set i { d with am:=d.am - x }:=by
 induction ds generalizing i with
 | nil=>have:=h.at'; cases this
 | cons y ds ih =>
  unfold Q8
  cases i with
  | zero =>
   have h1:=h.at'
   injection h1 with h1
   rw [h1,if_pos h.id]; rfl
  | succ i =>
   have h1:=h.fst 0 y (Nat.succ_pos _) rfl;rw [if_neg h1,ih ⟨h.at',h.id,fun j e hj he=>h.fst (j+1) e (Nat.succ_lt_succ hj) he⟩]
   split <;> rfl
end Go.Proofs.YtibemkominehdaaGreat
namespace Go.Proofs.YtibemkominehdaaGreat
open Go.GV
attribute [local irreducible] Al W Wq Wt
end Go.Proofs.YtibemkominehdaaGreat
namespace Go.Proofs.YtibemkominehdaaGreat
open Go.GV
attribute [local irreducible] Al W Wq Wt
end Go.Proofs.YtibemkominehdaaGreat
namespace Go.Proofs.YtibemkominehdaaGreat
open Go.GV
attribute [local irreducible] Al W Wq Wt
abbrev openF:Value := .func (.func 208) #[] #[]
structure FstH (ds:List Du) (i:Nat):Prop where
 at':∃ d,ds[i]? = some d∧d.held=true
 fst:∀ (j:Nat) (e:Du),j<i→ds[j]? = some e→e.held=false
end Go.Proofs.YtibemkominehdaaGreat
namespace Go.Proofs.YtibemkominehdaaGreat
open Go.GV
attribute [local irreducible] Al W Wq Wt
def opn (ds:List Du):List Du:=ds.filter fun d => !d.held
structure DSt where
 i:Nat
 j:Nat
 L:List Du
 full:List Value
end Go.Proofs.YtibemkominehdaaGreat
namespace Go.Proofs.YtibemkominehdaaGreat
open Go.GV
attribute [local irreducible] Al W Wq Wt
def VA:Nat→List Du→List Du
 | _,[]=>[]
 | i,d::ds=>{ d with id:=(i:Int)+1 }::VA (i+1) ds
def Ft (rs:List Int) (ds:List Du):Bool :=
 decide (rs.length≤16) && (!decide ((D4 rs).2=1) && (ds.all (fun d=>decide (max d.fr d.to<rs.length)) && decide (ofC (VA 0 ds) (ds.length+1)=0)))
end Go.Proofs.YtibemkominehdaaGreat
namespace Go.Proofs.YtibemkominehdaaGreat
open Go.GV
attribute [local irreducible] Al W Wq Wt
end Go.Proofs.YtibemkominehdaaGreat
namespace Go.Proofs.YtibemkominehdaaGreat
open Go.GV
attribute [local irreducible] Al W Wq Wt
def JG (d:Du):Ed:=⟨d.fr,d.to,d.am,-d.we⟩
def JH (rs:List Int):List Ed:=(List.range (2*rs.length)).map fun j=>if j % 2=0 then ⟨rs.length,(j / 2:Nat),rs.getD (j / 2) 0,0⟩ else ⟨(j / 2:Nat),rs.length,4503599627370496,0⟩
def Bj (rs:List Int) (ds:List Du) (net:Bool):List Ed:=ds.map JG++if net=true then [] else JH rs
theorem JI {rs:List Int} {i:Nat} {x:Int} (h:rs[i]? = some x):(JH rs)[2*i]? = some ⟨rs.length,i,x,0⟩:=by
 have hl:=Dn h;unfold JH;rw [Ds (by omega),if_pos (by omega),show 2*i / 2=i by omega,BM h]
theorem LU {rs:List Int} {i:Nat} (h:i<rs.length):(JH rs)[2*i+1]? = some ⟨i,rs.length,4503599627370496,0⟩:=by
 unfold JH;rw [Ds (by omega),if_neg (by omega),show (2*i+1) / 2=i by omega]
theorem UN (rs:List Int):(JH rs).length=2*rs.length:=by unfold JH; simp
def edV (e:Ed):List Value:=[.agg (DI e).toArray]
structure RndK (b1 b2 b3:Nat) (a b:Option Addr) (n c m e:Nat) (rs:List Int) (ds:List Du) (net:Bool) (w:World):Prop where
 h1:w.heap[b1]? = some (Bl 40 [.slice b m e])
 h2:w.heap[b2]? = some (Bl 4 [.bool net])
 h3:w.heap[b3]? = some (Bl 76 [.slice a n c])
 R:Rd w a 1 I1 rs
 Rd':Rd w b 7 FW ds
end Go.Proofs.YtibemkominehdaaGreat
namespace Go.Proofs.YtibemkominehdaaGreat
open Go.GV
attribute [local irreducible] Al W Wq Wt
abbrev U1 (x:Int):List Value:=[DL x]
instance:DecidableEq Ed:=fun x y=>if h:x.f=y.f∧x.t=y.t∧x.cap=y.cap∧x.cost=y.cost then isTrue (by cases x; cases y; simp_all) else isFalse fun e=>h (by subst e; exact ⟨rfl,rfl,rfl,rfl⟩)
theorem Tt (x y:Ed):decide (x=y)=true↔DI x=DI y:=by
 obtain ⟨a,b,c,d⟩:=x;obtain ⟨a',b',c',d'⟩:=y;simp [DI]
end Go.Proofs.YtibemkominehdaaGreat
namespace Go.Proofs.YtibemkominehdaaGreat
open Go.GV
attribute [local irreducible] Al W Wq Wt
end Go.Proofs.YtibemkominehdaaGreat
namespace Go.Proofs.YtibemkominehdaaGreat
open Go.GV
attribute [local irreducible] Al W Wq Wt
theorem Tu (l:List Int):∀ v∈l.map Eb,AR v=true:=fun v hv=>by
 obtain ⟨x,_,rfl⟩:=List.mem_map.1 hv; rfl
theorem KV (a:Option Addr) (n c:Nat) (xs:List Int) (w:World) (R:Rd w a 1 I1 xs) (hn:xs.length=n)  (hm:n≤1000000000:=by omega):
  Ret Tryz.prog 169 #[.slice a n c] w fun v w'=>Fresh w w' 2 1 v (xs.map Eb):=by
 subst hn;obtain ⟨w0,rfl⟩:∃ w0,w0=w:=⟨_,rfl⟩;have H:=Ctx.start w0 [];refine Au (fn:=Tryz.f169) Tryz.func169 U [.slice a xs.length c] U ?_;refine Ag (Aj U (Ab (Aa (Ax (Ag (An U U (EO U Ch U (Ab (Aa (Ay _ U ?_ ?_))))))))))
 ·intro h1;have ha:a=none:=by simpa using h1
  subst ha
  have hxs:xs=[]:=by
   cases xs with
   | nil=>rfl
   | cons x xs=>obtain ⟨b,o,h⟩:=R.some' (by simp); cases h
  subst hxs;refine Ag (Aj U (Ab (Aa (A9 (A7 (AD (v:=(.slice _ _ _)) U U U ?_))))));exact Fresh.nil H _ _
 ·intro h1;refine A2 (Aa (Ag (EQ U Ch Ez H ?_)));rintro b5 w H O;refine An U U (Ei U Ch Ch Ez by_2 Kj U (xs.map Eb) U U H O (by simp) (Tu xs) (Rd.app1 (f:=Eb) (R.ext0 H.ext)) ?_);rintro a7 c7 full7 w H O;refine Aj U (Ab (Aa (A9 (AD (v:=(.slice _ _ _)) U U U ?_))));exact H.fresh O
def cutK (k:Int) (n:Nat):Nat:=(max 0 (min k (n:Int))).toNat
end Go.Proofs.YtibemkominehdaaGreat
namespace Go.Proofs.YtibemkominehdaaGreat
open Go.GV
attribute [local irreducible] Al W Wq Wt
section
variable {P:Program} {r:Option Nat} {ops rest:List Oper} {Q:Exit→Env→World→Prop} {e:Env} {w:World} {dst:Option Tmp} {ty:TypeId} {pos:String} {af:Array Edge} {g:Option (Nat × Bool)}
end
def getD7 (ds:List Du) (k:Int):Du:=(KU ds k).getD d00
theorem UO (w:World):Ret Tryz.prog 49 #[] w fun v w'=>∃ bd b o,v=ptr bd∧EG .u64 (dm []) o∧Ctx w [] w' [(bd,Bl 176 (DU b 1)),(b,o)]:=by
 obtain ⟨w0,rfl⟩:∃ w0,w0=w:=⟨_,rfl⟩;have H:=Ctx.start w0 [];refine Au (fn:=Tryz.f49) Tryz.func49 U [] U ?_;refine Ag (BV U (Ab (Aa (Ag (Js .u64 U H ?_)))));rintro b o w hM H;refine Bn (DU b 1) W7 WE ?_;refine BK (DU b 1) (.agg _) U U H ?_;rintro b3 w - H;refine BV U (Ab (Aa (A9 (AD (v:=(.pointer _)) U U U ?_))));exact ⟨b3,b,o,rfl,hM,H⟩
end Go.Proofs.YtibemkominehdaaGreat
namespace Go.Proofs.YtibemkominehdaaGreat
open Go.GV
attribute [local irreducible] Al W Wq Wt
def dueB (n:Nat) (d:Du):Bool:=JE d && (decide (d.fr<n) && decide (d.to<n))
def r19B (rs:List Int) (ds:List Du):Bool:=(decide (rs.length≤16) && decide (ds.length≤64)) && (rs.all Cr && (ds.all (dueB rs.length) && decide ((D4 (ds.map Du.am)).2=0)))
end Go.Proofs.YtibemkominehdaaGreat
