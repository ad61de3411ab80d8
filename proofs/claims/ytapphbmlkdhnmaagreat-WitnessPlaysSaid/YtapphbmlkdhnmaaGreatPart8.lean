/- Part 8 of the proof. -/
import Derived.Test.YtapphbmlkdhnmaaGreatPart2
import Derived.Test.YtapphbmlkdhnmaaGreatPart7
import Derived.Test.YtapphbmlkdhnmaaGreatPart4
import Derived.Test.YtapphbmlkdhnmaaGreatPart5
import Derived.Test.YtapphbmlkdhnmaaGreatPart6
import Derived.Test.YtapphbmlkdhnmaaGreatPart3
/- Sorting numbers of 64 bits: parted by a pivot. -/
namespace Go.Proofs.YtapphbmlkdhnmaaGreat
open Go.GV
attribute [local irreducible] AC W Wq Wt

/-- What stands ahead of one is no greater, what stands behind it no less. -/
structure PartU (g:Nat→Int) (a mid b:Nat):Prop where
 le:∀ x,a≤x→x<mid→g x≤g mid
 ge:∀ y,mid<y→y<b→g mid≤g y
theorem OD {g:Nat→Int} {a j b:Nat} (hj:a≤j) (h1:∀ x,a<x→x≤j→g x<g a) (h2:∀ y,j<y→y<b→g a≤g y):PartU (sw g j a) a j b:=by
 have hv:sw g j a j=g a:=GX g j a;refine ⟨fun x hx hxj=>?_,fun y hy hyb=>?_⟩
 ·rw [hv]
  by_cases e:x=a
  ·rw [e,DO];exact Int.le_of_lt (h1 j (by omega) (Nat.le_refl _))
  ·rw [Ez (by omega) e]; exact Int.le_of_lt (h1 x (by omega) (by omega))
 ·rw [hv,Ez (by omega) (by omega)]; exact h2 y hy hyb
theorem OG {g:Nat→Int} {a i j b:Nat} (h:a+1≤i∧i≤j+1∧j<b∧(∀ x,a<x→x<i→g x<g a)∧∀ y,j<y→y<b→g a≤g y) (hij:i<j) (hi:g a≤g i) (hj:g j<g a) :
  a+1≤i+1∧i+1≤j - 1+1∧j - 1<b∧(∀ x,a<x→x<i+1→sw g i j x<sw g i j a)∧∀ y,j - 1<y→y<b→sw g i j a≤sw g i j y:=by
 obtain ⟨h1,h2,h3,h4,h5⟩:=h;have ha:sw g i j a=g a:=Ez (by omega) (by omega);rw [ha];refine ⟨by omega,by omega,by omega,fun x hx hxi=>?_,fun y hy hyb=>?_⟩
 ·by_cases e:x=i
  ·rw [e,GX]; exact hj
  ·rw [Ez e (by omega)]; exact h4 x hx (by omega)
 ·by_cases e:y=j
  ·rw [e,DO]; exact hi
  ·rw [Ez (by omega) e]; exact h5 y (by omega) hyb

section
variable {w:World} {q n c m:Nat} {f:Nat→Int}
set_option maxRecDepth 20000 in
set_option maxHeartbeats 4000000 in
theorem PO {a b p:Nat} (hd:w.heap[q]? = some (Bl 24 (CB f m))) (hab:a<b) (hb:b≤n) (hn:n≤m) (hm:n≤1000000000) (hp:a≤p∧p<b) :
  Ret Tryz.prog 208 #[.slice (some ⟨q,0,none⟩) n c,.int .i64 (a:Int),.int .i64 (b:Int),.int .i64 (p:Int)] w fun v w'=>∃ (mid:Nat) (t:Bool) (g:Nat→Int),v = .tuple #[.int .i64 (mid:Int),.bool t]∧Sw a b f g∧a≤mid∧mid<b∧PartU g a mid b∧Ctx w [q] w' [(q,Bl 24 (CB g m))]:=by
 obtain ⟨w0,rfl⟩:∃ w0,w0=w:=⟨_,rfl⟩;have H:=Ctx.start1 hd;refine A2 (fn:=Tryz.f208) Tryz.func208 U [.slice (some ⟨q,0,none⟩) n c,.int .i64 (a:Int),.int .i64 (b:Int),.int .i64 (p:Int)] U (by kernel_rfl) ?_;refine Ag (Ad U U (Ai U U (Ab (Aa (CI [([0,1,2,3,4,5,6,7,8,9,10,11,12],13),([14],15)] (fun z=>z.heap[q]? = some (Bl 24 (CB (f) m))) [13,15] B0 (by kernel_rfl) (H.drew.get at0) ?_)))));refine AL U U ?_;refine Bq U U (AP U U (Bq U U (AP U U (Bq U U (AP U U (AK U Bf Be U U (by omega) (by omega) ?_))))));refine BM U BR U (fun _ hx=>(C2 hx (by omega))) ?_;refine Bq U U (AP U U (AK U Bf Be U U (by omega) (by omega) ?_));refine BM U BR U (fun _ hx=>(C2 hx (by omega))) ?_;refine AK U Bf Be U U (by omega) (by omega) ?_;refine Bu ?_;replace H:=H.drew
 refine Cc (a) (fun z => .int .u64 (if z=a then (f) (p) else (f) z)) (.int _ _) U Be U U U H at0 (by omega) (by omega) (by rw [if_pos rfl]; exact congrArg (fun z=>Value.int .u64 ((f) z)) (by omega)) (fun z _ hz=>by rw [if_neg hz]) ?_;rintro w H;refine Ab (Cg U (AL U U ?_));refine AK U Bf Be U U (by omega) (by omega) ?_;refine Bu (Cc (p) (fun z => .int .u64 (sw (f) (a) (p) z)) (.int _ _) U Be U U U H at0 (by omega) (by omega) (by rw [DO]; exact congrArg (fun z=>Value.int .u64 ((f) z)) (by omega)) (fun z _ hz=>by rw [DI hz]) ?_);rintro w H;refine Ab (Cg U (BS ?_));have hS0:=(Sw.refl (a:=a) (b:=b) f).step a p ⟨by omega,by omega⟩ hp;obtain ⟨g,hg⟩:∃ g,g=sw f a p:=⟨_,rfl⟩;rw [← hg] at hS0 H;have hi0:a+1≤(a+1)∧(a+1)≤(b - 1)+1∧(b - 1)<b∧(∀ x,a<x→x<(a+1)→(g) x<(g) a)∧∀ y,(b - 1)<y→y<b→(g) a≤(g) y:=⟨Nat.le_refl _,by omega,by omega,fun x h1 h2=>by omega,fun y h1 h2=>by omega⟩
 refine Ag (Ae U U (Ao U U U (by omega) (by omega) ?_));rw [show (a:Int)+1=((a+1:Nat):Int) by omega];refine Ae U U (Bg U U U (by omega) (by omega) ?_);rw [show (b:Int) - 1=((b - 1:Nat):Int) by omega];refine Ad U U (Ad U U (Ab (Aa (Aq (Av (Bd 70367670436864 (α:=Nat) (fun i=>[(10,.int .i64 (i:Int))]) (fun i w'=>(a+1≤i∧i≤(b - 1)+1∧(b - 1)<b∧(∀ x,a<x→x<i→(g) x<(g) a)∧∀ y,(b - 1)<y→y<b→(g) a≤(g) y)∧Ctx w0 [q] w' [(q,Bl 24 (CB (g) m))]) (fun i=>b - i) (a+1) U ?_ ?_ ?_))))))
 ·exact ⟨by rfl,trivial⟩
 ·exact ⟨by assumption,H⟩
 ·rintro i jx w ⟨hiv,H⟩;refine Aq (DC 17591112302592 (α:=Unit) (fun _=>[(43,.bool (decide (i≤b - 1∧g i<g a)))]) (fun _ w'=>Ctx w0 [q] w' [(q,Bl 24 (CB (g) m))]) U ?_ ?_)
  ·skip
   refine F8 12 B0 (by kernel_rfl) U U ?_;refine AN U U (AN U U (NX U U U (DB U U (Dz 33 U ?_ ?_))))
   ·intro h1;replace h1:=AG h1;refine BV U U (AN U U (AR U Bf Be U U (by omega) (by omega) ?_));refine Ch U BR U (by rintro _ rfl; exact ((C2 (H.drew.get at0) (by omega)))) ?_;refine BV U U (AN U U (AR U Bf Be U U (by omega) (by omega) ?_));refine Ch U BR U (by rintro _ rfl; exact ((C2 (H.drew.get at0) (by omega)))) ?_;refine Ca ?_;replace H:=H.drew;refine Al U FH (EE _ _ _) U ?_;rintro v w ⟨rfl,rfl⟩;simp only [Int.toNat_natCast];refine An U U (.bool _) U (Ab (Aa ?_));exact ⟨(),rfl,⟨congrArg Value.bool (by clear hiv; rw [Bool.eq_iff_iff]; simp_all; try omega),trivial⟩,H⟩
   ·intro h2;replace h2:=AH h2;refine A0 U (A0 U (A0 U (A0 U (A0 U (A0 U (A0 U (A0 U (Ca ?_))))))));replace H:=H.drew;refine Af U (A1 U U (.bool _) U (Ab (Aa ?_)));exact ⟨(),rfl,⟨congrArg Value.bool (by clear hiv; rw [Bool.eq_iff_iff]; simp_all; try omega),trivial⟩,H⟩
  ·rintro - jy w H;refine Ay _ U ?_ ?_
   ·intro hc;have hc:=of_decide_eq_true hc;refine Ax (Aa (Av (Aw (Ae U U (Ao U U U (by omega) (by omega) ?_)))));refine Ad U U (Ab (A3 (Aa ?_)));exact ⟨i+1,rfl,⟨congrArg (Value.int .i64) (by omega),trivial⟩,⟨⟨by omega,by omega,by omega,fun x h1 h2=>(if e:x=i then by rw [e]; exact hc.2 else hiv.2.2.2.1 x h1 (by omega)),hiv.2.2.2.2⟩,H⟩,by omega⟩
   ·intro hc;have hc:=of_decide_eq_false hc;have hci:=hc;have hi0:=hiv;refine Bc (Aj (Aj (AD (Aa (Aq (Av (Bd 9223301668110600192 (α:=Nat) (fun j=>[(11,.int .i64 (j:Int))]) (fun j w'=>(a+1≤i∧i≤j+1∧j<b∧(∀ x,a<x→x<i→(g) x<(g) a)∧∀ y,j<y→y<b→(g) a≤(g) y)∧Ctx w0 [q] w' [(q,Bl 24 (CB (g) m))]) (fun j=>j) (b - 1) U ?_ ?_ ?_)))))))
    ·exact ⟨by rfl,trivial⟩
    ·exact ⟨by assumption,H⟩
    ·rintro j jx w ⟨hiv,H⟩;refine Aq (DC 2305772640469516288 (α:=Unit) (fun _=>[(60,.bool (decide (i≤j∧g a≤g j)))]) (fun _ w'=>Ctx w0 [q] w' [(q,Bl 24 (CB (g) m))]) U ?_ ?_)
     ·skip
      refine F8 12 B0 (by kernel_rfl) U U ?_;refine AN U U (AN U U (NX U U U (DB U U (Dz 49 U ?_ ?_))))
      ·intro h3;replace h3:=AG h3;refine BV U U (AN U U (AR U Bf Be U U (by omega) (by omega) ?_));refine Ch U BR U (by rintro _ rfl; exact ((C2 (H.drew.get at0) (by omega)))) ?_;refine BV U U (AN U U (AR U Bf Be U U (by omega) (by omega) ?_));refine Ch U BR U (by rintro _ rfl; exact ((C2 (H.drew.get at0) (by omega)))) ?_;refine Ca ?_;replace H:=H.drew;refine Al U FH (EE _ _ _) U ?_;rintro v w ⟨rfl,rfl⟩;simp only [Int.toNat_natCast];refine Bv U U (An U U (.bool _) U (Ab (Aa ?_)));exact ⟨(),rfl,⟨congrArg Value.bool (by clear hiv; rw [Bool.eq_iff_iff]; simp_all; try omega),trivial⟩,H⟩
      ·intro h4;replace h4:=AH h4;refine A0 U (A0 U (A0 U (A0 U (A0 U (A0 U (A0 U (A0 U (Ca ?_))))))));replace H:=H.drew;refine Af U (Af U (A1 U U (.bool _) U (Ab (Aa ?_))));exact ⟨(),rfl,⟨congrArg Value.bool (by clear hiv; rw [Bool.eq_iff_iff]; simp_all; try omega),trivial⟩,H⟩
     ·rintro - jy w H;refine Ay _ U ?_ ?_
      ·intro hc;have hc:=of_decide_eq_true hc;refine Ax (Aa (Av (Aw (Ae U U (Bg U U U (by omega) (by omega) ?_)))));refine Ad U U (Ab (A3 (Aa ?_)));exact ⟨j - 1,rfl,⟨congrArg (Value.int .i64) (by omega),trivial⟩,⟨⟨by omega,by omega,by omega,hiv.2.2.2.1,fun y h1 h2=>(if e:y=j then by rw [e]; exact hc.2 else hiv.2.2.2.2 y (by omega) h2)⟩,H⟩,by omega⟩
      ·intro hc;have hc:=of_decide_eq_false hc;have hci:¬ (i≤j∧g i<g a):=fun h=>hci ⟨by omega,h.2⟩;refine Bc (Aj (Aj (AD (Aa (Aq (Ag (Ae U U (Ae U U (Ct U U U (Ab (Aa (Ay _ U ?_ ?_))))))))))))
       ·intro h5;replace h5:=AG h5;have hji:j+1=i:=by omega
        refine CI [([0,1,2,3,4,5,6,7,8,9,10,11,12],13),([14],15)] (fun z=>z.heap[q]? = some (Bl 24 (CB (g) m))) [13,15] B0 (by kernel_rfl) (H.drew.get at0) ?_;refine AL U U ?_;refine Bq U U (AP U U (Bq U U (AP U U (Bq U U (AP U U (AK U Bf Be U U (by omega) (by omega) ?_))))));refine BM U BR U (fun _ hx=>(C2 hx (by omega))) ?_;refine Bq U U (AP U U (AK U Bf Be U U (by omega) (by omega) ?_));refine BM U BR U (fun _ hx=>(C2 hx (by omega))) ?_;refine AK U Bf Be U U (by omega) (by omega) ?_;refine Bu ?_;replace H:=H.drew;refine Cc (j) (fun z => .int .u64 (if z=j then (g) (a) else (g) z)) (.int _ _) U Be U U U H at0 (by omega) (by omega) (by rw [if_pos rfl]; exact congrArg (fun z=>Value.int .u64 ((g) z)) (by omega)) (fun z _ hz=>by rw [if_neg hz]) ?_;rintro w H;refine Ab (Cg U (AL U U ?_));refine AK U Bf Be U U (by omega) (by omega) ?_
        refine Bu (Cc (a) (fun z => .int .u64 (sw (g) (j) (a) z)) (.int _ _) U Be U U U H at0 (by omega) (by omega) (by rw [DO]; exact congrArg (fun z=>Value.int .u64 ((g) z)) (by omega)) (fun z _ hz=>by rw [DI hz]) ?_);rintro w H;refine Ab (Cg U (BS (Ag (Ae U U (Ad U U (Ai U U (Ab (Aa (A9 (Am (DG (v1:=(.int _ _)) (v2:=(.bool _)) U U U U ?_)))))))))));exact ⟨j,true,sw g j a,rfl,hS0.step j a ⟨by omega,by omega⟩ ⟨by omega,by omega⟩,by omega,by omega,OD (by omega) (fun x h1 h2=>hiv.2.2.2.1 x h1 (by omega)) hiv.2.2.2.2,H⟩
       ·intro h5;replace h5:=AH h5
        have hne:i<j:=by
         rcases Nat.lt_or_ge i j with h | h
         ·exact h
         ·obtain rfl:i=j:=by omega
          exact absurd ⟨Nat.le_refl i,by rcases Int.lt_or_le (g i) (g a) with h7 | h7; exact absurd ⟨Nat.le_refl i,h7⟩ hci; exact h7⟩ hc
        have hgi:g a≤g i:=by rcases Int.lt_or_le (g i) (g a) with h7 | h7; exact absurd ⟨by omega,h7⟩ hci; exact h7
        have hgj:g j<g a:=by rcases Int.lt_or_le (g j) (g a) with h7 | h7; exact h7; exact absurd ⟨by omega,h7⟩ hc
        refine Ax (Aa (CI [([0,1,2,3,4,5,6,7,8,9,10,11,12],13),([14],15)] (fun z=>z.heap[q]? = some (Bl 24 (CB (g) m))) [13,15] B0 (by kernel_rfl) (H.drew.get at0) ?_));refine AL U U ?_;refine Bq U U (AP U U (Bq U U (AP U U (Bq U U (AP U U (AK U Bf Be U U (by omega) (by omega) ?_))))));refine BM U BR U (fun _ hx=>(C2 hx (by omega))) ?_;refine Bq U U (AP U U (AK U Bf Be U U (by omega) (by omega) ?_));refine BM U BR U (fun _ hx=>(C2 hx (by omega))) ?_;refine AK U Bf Be U U (by omega) (by omega) ?_;refine Bu ?_;replace H:=H.drew;refine Cc (i) (fun z => .int .u64 (if z=i then (g) (j) else (g) z)) (.int _ _) U Be U U U H at0 (by omega) (by omega) (by rw [if_pos rfl]; exact congrArg (fun z=>Value.int .u64 ((g) z)) (by omega)) (fun z _ hz=>by rw [if_neg hz]) ?_;rintro w H;refine Ab (Cg U (AL U U ?_));refine AK U Bf Be U U (by omega) (by omega) ?_
        refine Bu (Cc (j) (fun z => .int .u64 (sw (g) (i) (j) z)) (.int _ _) U Be U U U H at0 (by omega) (by omega) (by rw [DO]; exact congrArg (fun z=>Value.int .u64 ((g) z)) (by omega)) (fun z _ hz=>by rw [DI hz]) ?_);rintro w H;refine Ab (Cg U (BS (Ag (Ae U U (Ao U U U (by omega) (by omega) ?_)))));refine Ad U U (Ab (Aa (Ag (Ae U U (Bg U U U (by omega) (by omega) ?_)))));refine Ad U U (Ab (Aa (Aq (Av (Bd 11417981541647678414640987641481260342710373376 (α:=Nat × Nat × (Nat→Int)) (fun t=>[(10,.int .i64 (t.1:Int)),(11,.int .i64 (t.2.1:Int))]) (fun t w'=>(a+1≤t.1∧t.1≤t.2.1+1∧t.2.1<b∧(∀ x,a<x→x<t.1→(t.2.2) x<(t.2.2) a)∧∀ y,t.2.1<y→y<b→(t.2.2) a≤(t.2.2) y)∧Sw a b f t.2.2∧Ctx w0 [q] w' [(q,Bl 24 (CB t.2.2 m))]) (fun t=>b - t.1) (i+1,j - 1,sw g i j) U ?_ ?_ ?_)))))
        ·exact ⟨rfl,congrArg (Value.int .i64) (by dsimp only; omega),trivial⟩
        ·exact ⟨OG hiv hne hgi hgj,hS0.step i j ⟨by omega,by omega⟩ ⟨by omega,by omega⟩,H⟩
        ·rintro ⟨i,j,g⟩ j0 w ⟨hi0,hS0,H⟩; dsimp only at hi0 hS0 H; dsimp only;obtain ⟨i0,hi0e⟩:∃ i0,i0=i:=⟨_,rfl⟩;obtain ⟨j1,hj1e⟩:∃ j1,j1=j:=⟨_,rfl⟩;have hi1:i0≤i∧a+1≤i∧i≤j+1∧j<b∧(∀ x,a<x→x<i→(g) x<(g) a)∧∀ y,j<y→y<b→(g) a≤(g) y:=⟨by omega,hi0⟩;refine Av (Aq (Av (Bd 41537741042978506913543222282159104 (α:=Nat) (fun i=>[(10,.int .i64 (i:Int))]) (fun i w'=>(i0≤i∧a+1≤i∧i≤j+1∧j<b∧(∀ x,a<x→x<i→(g) x<(g) a)∧∀ y,j<y→y<b→(g) a≤(g) y)∧Ctx w0 [q] w' [(q,Bl 24 (CB (g) m))]) (fun i=>j+1 - i) i U ?_ ?_ ?_)))
         ·exact ⟨by rfl,trivial⟩
         ·exact ⟨hi1,H⟩
         ·rintro i jx w ⟨hiv,H⟩;refine Aq (DC 10383959891769541142360244306837504 (α:=Unit) (fun _=>[(112,.bool (decide (i≤j∧g i<g a)))]) (fun _ w'=>Ctx w0 [q] w' [(q,Bl 24 (CB (g) m))]) U ?_ ?_)
          ·skip
           refine F8 12 B0 (by kernel_rfl) U U ?_;refine AN U U (AN U U (NX U U U (DB U U (Dz 102 U ?_ ?_))))
           ·intro h5;replace h5:=AG h5;refine BV U U (AN U U (AR U Bf Be U U (by omega) (by omega) ?_));refine Ch U BR U (by rintro _ rfl; exact ((C2 (H.drew.get at0) (by omega)))) ?_;refine BV U U (AN U U (AR U Bf Be U U (by omega) (by omega) ?_));refine Ch U BR U (by rintro _ rfl; exact ((C2 (H.drew.get at0) (by omega)))) ?_;refine Ca ?_;replace H:=H.drew;refine Al U FH (EE _ _ _) U ?_;rintro v w ⟨rfl,rfl⟩;simp only [Int.toNat_natCast];refine An U U (.bool _) U (Ab (Aa ?_));exact ⟨(),rfl,⟨congrArg Value.bool (by clear hiv; rw [Bool.eq_iff_iff]; simp_all; try omega),trivial⟩,H⟩
           ·intro h6;replace h6:=AH h6;refine A0 U (A0 U (A0 U (A0 U (A0 U (A0 U (A0 U (A0 U (Ca ?_))))))));replace H:=H.drew;refine Af U (A1 U U (.bool _) U (Ab (Aa ?_)));exact ⟨(),rfl,⟨congrArg Value.bool (by clear hiv; rw [Bool.eq_iff_iff]; simp_all; try omega),trivial⟩,H⟩
          ·rintro - jy w H;refine Ay _ U ?_ ?_
           ·intro hc;have hc:=of_decide_eq_true hc;refine Ax (Aa (Av (Aw (Ae U U (Ao U U U (by omega) (by omega) ?_)))));refine Ad U U (Ab (A3 (Aa ?_)));exact ⟨i+1,rfl,⟨congrArg (Value.int .i64) (by omega),trivial⟩,⟨⟨by omega,by omega,by omega,by omega,fun x h1 h2=>(if e:x=i then by rw [e]; exact hc.2 else hiv.2.2.2.2.1 x h1 (by omega)),hiv.2.2.2.2.2⟩,H⟩,by omega⟩
           ·intro hc;have hc:=of_decide_eq_false hc;have hci:=hc;have hi2:j≤j1∧a+1≤i∧i≤j+1∧j<b∧(∀ x,a<x→x<i→(g) x<(g) a)∧∀ y,j<y→y<b→(g) a≤(g) y:=⟨by omega,hiv.2⟩;have hi3:=hiv.1;refine Bc (Aj (Aj (AD (Aa (Aq (Av (Bd 5444476332360147136792965474937657624576 (α:=Nat) (fun j=>[(11,.int .i64 (j:Int))]) (fun j w'=>(j≤j1∧a+1≤i∧i≤j+1∧j<b∧(∀ x,a<x→x<i→(g) x<(g) a)∧∀ y,j<y→y<b→(g) a≤(g) y)∧Ctx w0 [q] w' [(q,Bl 24 (CB (g) m))]) (fun j=>j) j U ?_ ?_ ?_)))))))
            ·exact ⟨by rfl,trivial⟩
            ·exact ⟨hi2,H⟩
            ·rintro j jx w ⟨hiv,H⟩;refine Aq (DC 1361087929308885575232470185756439085056 (α:=Unit) (fun _=>[(129,.bool (decide (i≤j∧g a≤g j)))]) (fun _ w'=>Ctx w0 [q] w' [(q,Bl 24 (CB (g) m))]) U ?_ ?_)
             ·skip
              refine F8 12 B0 (by kernel_rfl) U U ?_;refine AN U U (AN U U (NX U U U (DB U U (Dz 118 U ?_ ?_))))
              ·intro h7;replace h7:=AG h7;refine BV U U (AN U U (AR U Bf Be U U (by omega) (by omega) ?_));refine Ch U BR U (by rintro _ rfl; exact ((C2 (H.drew.get at0) (by omega)))) ?_;refine BV U U (AN U U (AR U Bf Be U U (by omega) (by omega) ?_));refine Ch U BR U (by rintro _ rfl; exact ((C2 (H.drew.get at0) (by omega)))) ?_;refine Ca ?_;replace H:=H.drew;refine Al U FH (EE _ _ _) U ?_;rintro v w ⟨rfl,rfl⟩;simp only [Int.toNat_natCast];refine Bv U U (An U U (.bool _) U (Ab (Aa ?_)));exact ⟨(),rfl,⟨congrArg Value.bool (by clear hiv; rw [Bool.eq_iff_iff]; simp_all; try omega),trivial⟩,H⟩
              ·intro h8;replace h8:=AH h8;refine A0 U (A0 U (A0 U (A0 U (A0 U (A0 U (A0 U (A0 U (Ca ?_))))))));replace H:=H.drew;refine Af U (Af U (A1 U U (.bool _) U (Ab (Aa ?_))));exact ⟨(),rfl,⟨congrArg Value.bool (by clear hiv; rw [Bool.eq_iff_iff]; simp_all; try omega),trivial⟩,H⟩
             ·rintro - jy w H;refine Ay _ U ?_ ?_
              ·intro hc;have hc:=of_decide_eq_true hc;refine Ax (Aa (Av (Aw (Ae U U (Bg U U U (by omega) (by omega) ?_)))));refine Ad U U (Ab (A3 (Aa ?_)));exact ⟨j - 1,rfl,⟨congrArg (Value.int .i64) (by omega),trivial⟩,⟨⟨by omega,by omega,by omega,by omega,hiv.2.2.2.2.1,fun y h1 h2=>(if e:y=j then by rw [e]; exact hc.2 else hiv.2.2.2.2.2 y (by omega) h2)⟩,H⟩,by omega⟩
              ·intro hc;have hc:=of_decide_eq_false hc;have hci:¬ (i≤j∧g i<g a):=fun h=>hci ⟨by omega,h.2⟩;replace hiv:=hiv.2;refine Bc (Aj (Aj (AD (Aa (Aq (Ag (Ae U U (Ae U U (Ct U U U (Ab (Aa (Ay _ U ?_ ?_))))))))))))
               ·intro h5;replace h5:=AG h5;have hji:j+1=i:=by omega
                refine Bc (Aj (ER U (Aj (AD (Aa (CI [([0,1,2,3,4,5,6,7,8,9,10,11,12],13),([14],15)] (fun z=>z.heap[q]? = some (Bl 24 (CB (g) m))) [13,15] B0 (by kernel_rfl) (H.drew.get at0) ?_))))));refine AL U U ?_;refine Bq U U (AP U U (Bq U U (AP U U (Bq U U (AP U U (AK U Bf Be U U (by omega) (by omega) ?_))))));refine BM U BR U (fun _ hx=>(C2 hx (by omega))) ?_;refine Bq U U (AP U U (AK U Bf Be U U (by omega) (by omega) ?_));refine BM U BR U (fun _ hx=>(C2 hx (by omega))) ?_;refine AK U Bf Be U U (by omega) (by omega) ?_;refine Bu ?_;replace H:=H.drew;refine Cc (j) (fun z => .int .u64 (if z=j then (g) (a) else (g) z)) (.int _ _) U Be U U U H at0 (by omega) (by omega) (by rw [if_pos rfl]; exact congrArg (fun z=>Value.int .u64 ((g) z)) (by omega)) (fun z _ hz=>by rw [if_neg hz]) ?_;rintro w H;refine Ab (Cg U (AL U U ?_));refine AK U Bf Be U U (by omega) (by omega) ?_
                refine Bu (Cc (a) (fun z => .int .u64 (sw (g) (j) (a) z)) (.int _ _) U Be U U U H at0 (by omega) (by omega) (by rw [DO]; exact congrArg (fun z=>Value.int .u64 ((g) z)) (by omega)) (fun z _ hz=>by rw [DI hz]) ?_);rintro w H;refine Ab (Cg U (BS (Ag (Ae U U (Ad U U (Ai U U (Ab (Aa (A9 (DG (v1:=(.int _ _)) (v2:=(.bool _)) U U U U ?_))))))))));exact ⟨j,false,sw g j a,rfl,hS0.step j a ⟨by omega,by omega⟩ ⟨by omega,by omega⟩,by omega,by omega,OD (by omega) (fun x h1 h2=>hiv.2.2.2.1 x h1 (by omega)) hiv.2.2.2.2,H⟩
               ·intro h5;replace h5:=AH h5
                have hne:i<j:=by
                 rcases Nat.lt_or_ge i j with h | h
                 ·exact h
                 ·obtain rfl:i=j:=by omega
                  exact absurd ⟨Nat.le_refl i,by rcases Int.lt_or_le (g i) (g a) with h7 | h7; exact absurd ⟨Nat.le_refl i,h7⟩ hci; exact h7⟩ hc
                refine Ax (Aa (CI [([0,1,2,3,4,5,6,7,8,9,10,11,12],13),([14],15)] (fun z=>z.heap[q]? = some (Bl 24 (CB (g) m))) [13,15] B0 (by kernel_rfl) (H.drew.get at0) ?_));refine AL U U ?_;refine Bq U U (AP U U (Bq U U (AP U U (Bq U U (AP U U (AK U Bf Be U U (by omega) (by omega) ?_))))));refine BM U BR U (fun _ hx=>(C2 hx (by omega))) ?_;refine Bq U U (AP U U (AK U Bf Be U U (by omega) (by omega) ?_));refine BM U BR U (fun _ hx=>(C2 hx (by omega))) ?_;refine AK U Bf Be U U (by omega) (by omega) ?_;refine Bu ?_;replace H:=H.drew;refine Cc (i) (fun z => .int .u64 (if z=i then (g) (j) else (g) z)) (.int _ _) U Be U U U H at0 (by omega) (by omega) (by rw [if_pos rfl]; exact congrArg (fun z=>Value.int .u64 ((g) z)) (by omega)) (fun z _ hz=>by rw [if_neg hz]) ?_;rintro w H;refine Ab (Cg U (AL U U ?_));refine AK U Bf Be U U (by omega) (by omega) ?_
                refine Bu (Cc (j) (fun z => .int .u64 (sw (g) (i) (j) z)) (.int _ _) U Be U U U H at0 (by omega) (by omega) (by rw [DO]; exact congrArg (fun z=>Value.int .u64 ((g) z)) (by omega)) (fun z _ hz=>by rw [DI hz]) ?_);rintro w H;refine Ab (Cg U (BS (Ag (Ae U U (Ao U U U (by omega) (by omega) ?_)))));refine Ad U U (Ab (Aa (Aw (Ae U U (Bg U U U (by omega) (by omega) ?_)))));refine Ad U U (Ab (A3 (Aa ?_)))
                have hgi:g a≤g i:=by rcases Int.lt_or_le (g i) (g a) with h7 | h7; exact absurd ⟨by omega,h7⟩ hci; exact h7
                have hgj:g j<g a:=by rcases Int.lt_or_le (g j) (g a) with h7 | h7; exact h7; exact absurd ⟨by omega,h7⟩ hc
                exact ⟨(i+1,j - 1,sw g i j),rfl,⟨rfl,congrArg (Value.int .i64) (by dsimp only; omega),trivial⟩,⟨OG hiv hne hgi hgj,hS0.step i j ⟨by omega,by omega⟩ ⟨by omega,by omega⟩,H⟩,by dsimp only; omega⟩
end

end Go.Proofs.YtapphbmlkdhnmaaGreat

/- Sorting numbers of 64 bits: those that are the same as the pivot; patterns broken; almost sorted. -/
namespace Go.Proofs.YtapphbmlkdhnmaaGreat
open Go.GV
attribute [local irreducible] AC W Wq Wt

theorem Z9 {g:Nat→Int} {a i j b:Nat} (h:a+1≤i∧i≤j+1∧j<b∧(∀ x,a<x→x<i→(g) x≤(g) a)∧∀ y,j<y→y<b→(g) a<(g) y) (hij:i<j) (hi:g a<g i) (hj:g j≤g a):a+1≤i+1∧i+1≤(j - 1)+1∧(j - 1)<b∧(∀ x,a<x→x<i+1→(sw g i j) x≤(sw g i j) a)∧∀ y,(j - 1)<y→y<b→(sw g i j) a<(sw g i j) y:=by
 obtain ⟨h1,h2,h3,h4,h5⟩:=h;have ha:sw g i j a=g a:=Ez (by omega) (by omega);rw [ha];refine ⟨by omega,by omega,by omega,fun x hx hxi=>?_,fun y hy hyb=>?_⟩
 ·by_cases e:x=i
  ·rw [e,GX]; exact hj
  ·rw [Ez e (by omega)]; exact h4 x hx (by omega)
 ·by_cases e:y=j
  ·rw [e,DO]; exact hi
  ·rw [Ez (by omega) e]; exact h5 y (by omega) hyb

section
variable {w:World} {q n c m:Nat} {f:Nat→Int}
set_option maxRecDepth 20000 in
set_option maxHeartbeats 4000000 in
theorem Vr {a b p:Nat} (hd:w.heap[q]? = some (Bl 24 (CB f m))) (hab:a<b) (hb:b≤n) (hn:n≤m) (hm:n≤1000000000) (hp:a≤p∧p<b) :
  Ret Tryz.prog 207 #[.slice (some ⟨q,0,none⟩) n c,.int .i64 (a:Int),.int .i64 (b:Int),.int .i64 (p:Int)] w fun v w'=>∃ (i:Nat) (g:Nat→Int),v = .int .i64 (i:Int)∧Sw a b f g∧a<i∧i≤b∧g a=f p∧(∀ x,a≤x→x<i→g x≤g a)∧(∀ y,i≤y→y<b→g a<g y)∧Ctx w [q] w' [(q,Bl 24 (CB g m))]:=by
 obtain ⟨w0,rfl⟩:∃ w0,w0=w:=⟨_,rfl⟩;have H:=Ctx.start1 hd;refine A2 (fn:=Tryz.f207) Tryz.func207 U [.slice (some ⟨q,0,none⟩) n c,.int .i64 (a:Int),.int .i64 (b:Int),.int .i64 (p:Int)] U (by kernel_rfl) ?_;refine Ag (Ad U U (Ab (Aa (CI [([0,1,2,3,4,5,6,7,8,9,10,11,12],13),([14],15)] (fun z=>z.heap[q]? = some (Bl 24 (CB (f) m))) [13,15] B0 (by kernel_rfl) (H.drew.get at0) ?_))));refine AL U U ?_;refine Bq U U (AP U U (Bq U U (AP U U (Bq U U (AP U U (AK U Bf Be U U (by omega) (by omega) ?_))))));refine BM U BR U (fun _ hx=>(C2 hx (by omega))) ?_;refine Bq U U (AP U U (AK U Bf Be U U (by omega) (by omega) ?_));refine BM U BR U (fun _ hx=>(C2 hx (by omega))) ?_;refine AK U Bf Be U U (by omega) (by omega) ?_;refine Bu ?_;replace H:=H.drew
 refine Cc (a) (fun z => .int .u64 (if z=a then (f) (p) else (f) z)) (.int _ _) U Be U U U H at0 (by omega) (by omega) (by rw [if_pos rfl]; exact congrArg (fun z=>Value.int .u64 ((f) z)) (by omega)) (fun z _ hz=>by rw [if_neg hz]) ?_;rintro w H;refine Ab (Cg U (AL U U ?_));refine AK U Bf Be U U (by omega) (by omega) ?_;refine Bu (Cc (p) (fun z => .int .u64 (sw (f) (a) (p) z)) (.int _ _) U Be U U U H at0 (by omega) (by omega) (by rw [DO]; exact congrArg (fun z=>Value.int .u64 ((f) z)) (by omega)) (fun z _ hz=>by rw [DI hz]) ?_);rintro w H;refine Ab (Cg U (BS ?_));have hS0:=(Sw.refl (a:=a) (b:=b) f).step a p ⟨by omega,by omega⟩ hp;obtain ⟨g,hg⟩:∃ g,g=sw f a p:=⟨_,rfl⟩;have hga:g a=f p:=by rw [hg,GX]
 rw [← hg] at hS0 H;refine Ag (Ae U U (Ao U U U (by omega) (by omega) ?_));rw [show (a:Int)+1=((a+1:Nat):Int) by omega];refine Ae U U (Bg U U U (by omega) (by omega) ?_);rw [show (b:Int) - 1=((b - 1:Nat):Int) by omega];refine Ad U U (Ad U U (Ab (Aa (Aq (Av (Bd 9671406556917032860780032 (α:=Nat × Nat × (Nat→Int)) (fun t=>[(9,.int .i64 (t.1:Int)),(10,.int .i64 (t.2.1:Int))]) (fun t w'=>(a+1≤t.1∧t.1≤t.2.1+1∧t.2.1<b∧(∀ x,a<x→x<t.1→(t.2.2) x≤(t.2.2) a)∧∀ y,t.2.1<y→y<b→(t.2.2) a<(t.2.2) y)∧t.2.2 a=f p∧Sw a b f t.2.2∧Ctx w0 [q] w' [(q,Bl 24 (CB t.2.2 m))]) (fun t=>b - t.1) (a+1,b - 1,g) U ?_ ?_ ?_))))))
 ·exact ⟨rfl,rfl,trivial⟩
 ·exact ⟨⟨Nat.le_refl _,by dsimp only; omega,by dsimp only; omega,fun x h1 h2=>by dsimp only at h2; omega,fun y h1 h2=>by dsimp only at h1; omega⟩,hga,hS0,H⟩
 ·rintro ⟨i,j,g⟩ j0 w ⟨hi0,hga,hS0,H⟩; dsimp only at hi0 hga hS0 H; dsimp only;obtain ⟨i0,hi0e⟩:∃ i0,i0=i:=⟨_,rfl⟩;obtain ⟨j1,hj1e⟩:∃ j1,j1=j:=⟨_,rfl⟩;have hi1:i0≤i∧a+1≤i∧i≤j+1∧j<b∧(∀ x,a<x→x<i→(g) x≤(g) a)∧∀ y,j<y→y<b→(g) a<(g) y:=⟨by omega,hi0⟩;refine Av (Aq (Av (Bd 70368207307264 (α:=Nat) (fun i=>[(9,.int .i64 (i:Int))]) (fun i w'=>(i0≤i∧a+1≤i∧i≤j+1∧j<b∧(∀ x,a<x→x<i→(g) x≤(g) a)∧∀ y,j<y→y<b→(g) a<(g) y)∧Ctx w0 [q] w' [(q,Bl 24 (CB (g) m))]) (fun i=>j+1 - i) i U ?_ ?_ ?_)))
  ·exact ⟨by rfl,trivial⟩
  ·exact ⟨hi1,H⟩
  ·rintro i jx w ⟨hiv,H⟩;refine Aq (DC 17591649173504 (α:=Unit) (fun _=>[(43,.bool (decide (i≤j∧¬ g a<g i)))]) (fun _ w'=>Ctx w0 [q] w' [(q,Bl 24 (CB (g) m))]) U ?_ ?_)
   ·skip
    refine F8 12 B0 (by kernel_rfl) U U ?_;refine AN U U (AN U U (NX U U U (DB U U (Dz 32 U ?_ ?_))))
    ·intro h1;replace h1:=AG h1;refine BV U U (AN U U (AR U Bf Be U U (by omega) (by omega) ?_));refine Ch U BR U (by rintro _ rfl; exact ((C2 (H.drew.get at0) (by omega)))) ?_;refine BV U U (AN U U (AR U Bf Be U U (by omega) (by omega) ?_));refine Ch U BR U (by rintro _ rfl; exact ((C2 (H.drew.get at0) (by omega)))) ?_;refine Ca ?_;replace H:=H.drew;refine Al U FH (EE _ _ _) U ?_;rintro v w ⟨rfl,rfl⟩;simp only [Int.toNat_natCast];refine Bv U U (An U U (.bool _) U (Ab (Aa ?_)));exact ⟨(),rfl,⟨congrArg Value.bool (by clear hiv; rw [Bool.eq_iff_iff]; simp_all; try omega),trivial⟩,H⟩
    ·intro h2;replace h2:=AH h2;refine A0 U (A0 U (A0 U (A0 U (A0 U (A0 U (A0 U (A0 U (Ca ?_))))))));replace H:=H.drew;refine Af U (Af U (A1 U U (.bool _) U (Ab (Aa ?_))));exact ⟨(),rfl,⟨congrArg Value.bool (by clear hiv; rw [Bool.eq_iff_iff]; simp_all; try omega),trivial⟩,H⟩
   ·rintro - jy w H;refine Ay _ U ?_ ?_
    ·intro hc;have hc:=of_decide_eq_true hc;refine Ax (Aa (Av (Aw (Ae U U (Ao U U U (by omega) (by omega) ?_)))));refine Ad U U (Ab (A3 (Aa ?_)));exact ⟨i+1,rfl,⟨congrArg (Value.int .i64) (by omega),trivial⟩,⟨⟨by omega,by omega,by omega,by omega,fun x h1 h2=>(if e:x=i then by rw [e]; omega else hiv.2.2.2.2.1 x h1 (by omega)),hiv.2.2.2.2.2⟩,H⟩,by omega⟩
    ·intro hc;have hc:=of_decide_eq_false hc;have hci:=hc;have hi2:j≤j1∧a+1≤i∧i≤j+1∧j<b∧(∀ x,a<x→x<i→(g) x≤(g) a)∧∀ y,j<y→y<b→(g) a<(g) y:=⟨by omega,hiv.2⟩;have hi3:=hiv.1;refine Bc (Aj (Aj (AD (Aa (Aq (Av (Bd 4611615649683211264 (α:=Nat) (fun j=>[(10,.int .i64 (j:Int))]) (fun j w'=>(j≤j1∧a+1≤i∧i≤j+1∧j<b∧(∀ x,a<x→x<i→(g) x≤(g) a)∧∀ y,j<y→y<b→(g) a<(g) y)∧Ctx w0 [q] w' [(q,Bl 24 (CB (g) m))]) (fun j=>j) j U ?_ ?_ ?_)))))))
     ·exact ⟨by rfl,trivial⟩
     ·exact ⟨hi2,H⟩
     ·rintro j jx w ⟨hiv,H⟩;refine Aq (DC 1152851135862669312 (α:=Unit) (fun _=>[(59,.bool (decide (i≤j∧g a<g j)))]) (fun _ w'=>Ctx w0 [q] w' [(q,Bl 24 (CB (g) m))]) U ?_ ?_)
      ·skip
       refine F8 12 B0 (by kernel_rfl) U U ?_;refine AN U U (AN U U (NX U U U (DB U U (Dz 49 U ?_ ?_))))
       ·intro h3;replace h3:=AG h3;refine BV U U (AN U U (AR U Bf Be U U (by omega) (by omega) ?_));refine Ch U BR U (by rintro _ rfl; exact ((C2 (H.drew.get at0) (by omega)))) ?_;refine BV U U (AN U U (AR U Bf Be U U (by omega) (by omega) ?_));refine Ch U BR U (by rintro _ rfl; exact ((C2 (H.drew.get at0) (by omega)))) ?_;refine Ca ?_;replace H:=H.drew;refine Al U FH (EE _ _ _) U ?_;rintro v w ⟨rfl,rfl⟩;simp only [Int.toNat_natCast];refine An U U (.bool _) U (Ab (Aa ?_));exact ⟨(),rfl,⟨congrArg Value.bool (by clear hiv; rw [Bool.eq_iff_iff]; simp_all; try omega),trivial⟩,H⟩
       ·intro h4;replace h4:=AH h4;refine A0 U (A0 U (A0 U (A0 U (A0 U (A0 U (A0 U (A0 U (Ca ?_))))))));replace H:=H.drew;refine Af U (A1 U U (.bool _) U (Ab (Aa ?_)));exact ⟨(),rfl,⟨congrArg Value.bool (by clear hiv; rw [Bool.eq_iff_iff]; simp_all; try omega),trivial⟩,H⟩
      ·rintro - jy w H;refine Ay _ U ?_ ?_
       ·intro hc;have hc:=of_decide_eq_true hc;refine Ax (Aa (Av (Aw (Ae U U (Bg U U U (by omega) (by omega) ?_)))));refine Ad U U (Ab (A3 (Aa ?_)));exact ⟨j - 1,rfl,⟨congrArg (Value.int .i64) (by omega),trivial⟩,⟨⟨by omega,by omega,by omega,by omega,hiv.2.2.2.2.1,fun y h1 h2=>(if e:y=j then by rw [e]; exact hc.2 else hiv.2.2.2.2.2 y (by omega) h2)⟩,H⟩,by omega⟩
       ·intro hc;have hc:=of_decide_eq_false hc;have hci:¬ (i≤j∧¬ g a<g i):=fun h=>hci ⟨by omega,h.2⟩;replace hiv:=hiv.2;refine Bc (Aj (Aj (AD (Aa (Aq (Ag (Ae U U (Ae U U (Ct U U U (Ab (Aa (Ay _ U ?_ ?_))))))))))))
        ·intro h5;replace h5:=AG h5;have hji:j+1=i:=by omega
         refine Bc (Aj (ER U (Aj (AD (Aa (Ag (Ae U U (Ad U U (Ab (Aa (A9 (AF (v:=(.int _ _)) U U U ?_))))))))))));exact ⟨i,g,rfl,hS0,by omega,by omega,hga,fun x h1 h2=>(if e:x=a then by rw [e]; exact Int.le_refl _ else hiv.2.2.2.1 x (by omega) h2),fun y h1 h2=>hiv.2.2.2.2 y (by omega) h2,H⟩
        ·intro h5;replace h5:=AH h5
         have hgi:g a<g i:=by rcases Int.lt_or_le (g a) (g i) with h7 | h7; exact h7; exact absurd ⟨by omega,by omega⟩ hci
         have hgj:g j≤g a:=by rcases Int.lt_or_le (g a) (g j) with h7 | h7; exact absurd ⟨by omega,h7⟩ hc; exact h7
         have hne:i<j:=by
          rcases Nat.lt_or_ge i j with h | h
          ·exact h
          ·obtain rfl:i=j:=by omega
           omega
         refine Ax (Aa (CI [([0,1,2,3,4,5,6,7,8,9,10,11,12],13),([14],15)] (fun z=>z.heap[q]? = some (Bl 24 (CB (g) m))) [13,15] B0 (by kernel_rfl) (H.drew.get at0) ?_));refine AL U U ?_;refine Bq U U (AP U U (Bq U U (AP U U (Bq U U (AP U U (AK U Bf Be U U (by omega) (by omega) ?_))))));refine BM U BR U (fun _ hx=>(C2 hx (by omega))) ?_;refine Bq U U (AP U U (AK U Bf Be U U (by omega) (by omega) ?_));refine BM U BR U (fun _ hx=>(C2 hx (by omega))) ?_;refine AK U Bf Be U U (by omega) (by omega) ?_;refine Bu ?_;replace H:=H.drew;refine Cc (i) (fun z => .int .u64 (if z=i then (g) (j) else (g) z)) (.int _ _) U Be U U U H at0 (by omega) (by omega) (by rw [if_pos rfl]; exact congrArg (fun z=>Value.int .u64 ((g) z)) (by omega)) (fun z _ hz=>by rw [if_neg hz]) ?_;rintro w H;refine Ab (Cg U (AL U U ?_));refine AK U Bf Be U U (by omega) (by omega) ?_
         refine Bu (Cc (j) (fun z => .int .u64 (sw (g) (i) (j) z)) (.int _ _) U Be U U U H at0 (by omega) (by omega) (by rw [DO]; exact congrArg (fun z=>Value.int .u64 ((g) z)) (by omega)) (fun z _ hz=>by rw [DI hz]) ?_);rintro w H;refine Ab (Cg U (BS (Ag (Ae U U (Ao U U U (by omega) (by omega) ?_)))));refine Ad U U (Ab (Aa (Aw (Ae U U (Bg U U U (by omega) (by omega) ?_)))));refine Ad U U (Ab (A3 (Aa ?_)));exact ⟨(i+1,j - 1,sw g i j),rfl,⟨rfl,congrArg (Value.int .i64) (by dsimp only; omega),trivial⟩,⟨Z9 hiv hne hgi hgj,(Ez (by omega) (by omega)).trans hga,hS0.step i j ⟨by omega,by omega⟩ ⟨by omega,by omega⟩,H⟩,by dsimp only; omega⟩

set_option maxRecDepth 20000 in
set_option maxHeartbeats 4000000 in
theorem Te {a b:Nat} (hd:w.heap[q]? = some (Bl 24 (CB f m))) (hab:a<b) (hb:b≤n) (hn:n≤m) (hm:n≤1000000000) (hLB:0<a→∀ x,a≤x→x<b→f (a - 1)≤f x) :
  Ret Tryz.prog 205 #[.slice (some ⟨q,0,none⟩) n c,.int .i64 (a:Int),.int .i64 (b:Int)] w fun v w'=>∃ (t:Bool) (g:Nat→Int),v = .bool t∧Sw a b f g∧(t=true→IF g a b)∧Ctx w [q] w' [(q,Bl 24 (CB g m))]:=by
 obtain ⟨w0,rfl⟩:∃ w0,w0=w:=⟨_,rfl⟩;have H:=Ctx.start1 hd;refine A2 (fn:=Tryz.f205) Tryz.func205 U [.slice (some ⟨q,0,none⟩) n c,.int .i64 (a:Int),.int .i64 (b:Int)] U (by kernel_rfl) ?_;refine Ag (Ai U U (Ab (Aa (Ag (Ae U U (Ao U U U (by omega) (by omega) ?_))))));rw [show (a:Int)+1=((a+1:Nat):Int) by omega];refine Ad U U (Ab (Aa (Aq (Ag (Ad U U (Ab (Aa (Av (Bd 10889035741470030830827987437816582760384 (α:=Nat × Nat × (Nat→Int)) (fun t=>[(8,.int .i64 (t.1:Int)),(7,.int .i64 (t.2.1:Int))]) (fun t w'=>t.1≤5∧(a+1≤t.2.1∧t.2.1≤b∧IF t.2.2 a t.2.1)∧Sw a b f t.2.2∧Ctx w0 [q] w' [(q,Bl 24 (CB t.2.2 m))]) (fun t=>5 - t.1) (0,a+1,f) U ?_ ?_ ?_)))))))))
 ·exact ⟨rfl,rfl,trivial⟩
 ·exact ⟨by dsimp only; omega,⟨Nat.le_refl _,by dsimp only; omega,fun x y h1 h2 h3=>by dsimp only at h3; omega⟩,.refl _,H⟩
 ·rintro ⟨st,i,g⟩ j0 w ⟨hst,hi0,hS0,H⟩; dsimp only at hst hi0 hS0 H; dsimp only;refine Aq (Ag (Ae U U (AO U U U (Ab (Aa (Ay _ U ?_ ?_))))))
  ·intro h1;replace h1:=AG h1
   have hLBg:0<a→∀ g',Sw a b f g'→∀ x,a≤x→x<b→g' (a - 1)≤g' x:=fun h0 g' h x hx hxb=>by
    obtain ⟨z,hz1,hz2,hz3⟩:=h.mem x hx hxb;rw [h.out (a - 1) (.inl (by omega)),hz3];exact hLB h0 z hz1 hz2
   refine Ax (Aa (Aq (Av (Aq (Av (Bd 34359607424 (α:=Nat) (fun i=>[(7,.int .i64 (i:Int))]) (fun i w'=>(a+1≤i∧i≤b∧IF g a i)∧Ctx w0 [q] w' [(q,Bl 24 (CB (g) m))]) (fun i=>b - i) i U ?_ ?_ ?_))))))
   ·exact ⟨by rfl,trivial⟩
   ·exact ⟨hi0,H⟩
   ·rintro i jx w ⟨hiv,H⟩;refine Aq (DC 8589803520 (α:=Unit) (fun _=>[(32,.bool (decide (i<b∧¬ g i<g (i - 1))))]) (fun _ w'=>Ctx w0 [q] w' [(q,Bl 24 (CB (g) m))]) U ?_ ?_)
    ·skip
     refine F8 13 B0 (by kernel_rfl) U U ?_;refine AN U U (AN U U (Lx U U U (DB U U (Dz 20 U ?_ ?_))))
     ·intro h1;replace h1:=AG h1;refine BV U U (AN U U (AR U Bf Be U U (by omega) (by omega) ?_));refine Ch U BR U (by rintro _ rfl; exact ((C2 (H.drew.get at0) (by omega)))) ?_;refine BV U U (AN U U (Dg U U U (by omega) (by omega) ?_));refine AR U Bf Be U U (by omega) (by omega) ?_;refine Ch U BR U (by rintro _ rfl; exact ((C2 (H.drew.get at0) (by omega)))) ?_;refine Ca ?_;replace H:=H.drew;refine Al U FH (EE _ _ _) U ?_;rintro v w ⟨rfl,rfl⟩;rw [show ((i:Int) - 1).toNat=i - 1 by omega,Int.toNat_natCast];refine Bv U U (An U U (.bool _) U (Ab (Aa ?_)));exact ⟨(),rfl,⟨congrArg Value.bool (by clear hiv; rw [Bool.eq_iff_iff]; simp_all; try omega),trivial⟩,H⟩
     ·intro h2;replace h2:=AH h2;refine A0 U (A0 U (A0 U (A0 U (A0 U (A0 U (A0 U (A0 U (A0 U (Ca ?_)))))))));replace H:=H.drew;refine Af U (Af U (A1 U U (.bool _) U (Ab (Aa ?_))));exact ⟨(),rfl,⟨congrArg Value.bool (by clear hiv; rw [Bool.eq_iff_iff]; simp_all; try omega),trivial⟩,H⟩
    ·rintro - jy w H;refine Ay _ U ?_ ?_
     ·intro hc;have hc:=of_decide_eq_true hc;refine Ax (Aa (Av (Aw (Ae U U (Ao U U U (by omega) (by omega) ?_)))));refine Ad U U (Ab (A3 (Aa ?_)));exact ⟨i+1,rfl,⟨congrArg (Value.int .i64) (by omega),trivial⟩,⟨⟨by omega,by omega,fun x y hx hxy hy=>(if e:y=i then (by rw [e]; exact (if e2:x=i - 1 then by rw [e2]; omega else Int.le_trans (hiv.2.2 x (i - 1) hx (by omega) (by omega)) (by omega))) else hiv.2.2 x y hx hxy (by omega))⟩,H⟩,by omega⟩
     ·intro hc;have hc:=of_decide_eq_false hc;refine Bc (Aj (Aj (AD (Aa (Aq (Ag (Ae U U (Ae U U (BQ U U U (Ab (Aa (Ay _ U ?_ ?_))))))))))))
      ·intro h2;replace h2:=AG h2;refine Ag (Ai U U (Ab (Aa (A9 (Am (AB (Am (Am (AB (Am (AF (v:=(.bool _)) U U U ?_)))))))))));obtain rfl:i=b:=by omega
       exact ⟨true,g,rfl,hS0,fun _=>hiv.2.2,H⟩
      ·intro h2;replace h2:=AH h2;have hib:i<b:=by omega
       have hlt:g i<g (i - 1):=by rcases Int.lt_or_le (g i) (g (i - 1)) with h7 | h7; exact h7; exact absurd ⟨hib,by omega⟩ hc
       refine Ax (Aa (Aq (Ag (Ae U U (Ae U U (Bg U U U (by omega) (by omega) ?_))))));refine AO U U U (Ab (Aa (Ay _ U ?_ ?_)))
       ·intro h3;replace h3:=AG h3;refine Ag (Ai U U (Ab (Aa (A9 (Am (AB (Am (Am (AB (Am (AF (v:=(.bool _)) U U U ?_)))))))))));exact ⟨false,g,rfl,hS0,(fun h=>by cases h),H⟩
       ·intro h3;replace h3:=AH h3;refine Ax (Aa (CI [([0,1,2,3,4,5,6,7,8,9,10,11,12,13,14],15),([16],17)] (fun z=>z.heap[q]? = some (Bl 24 (CB (g) m))) [15,17] B0 (by kernel_rfl) (H.drew.get at0) ?_));refine AL U U ?_;refine Bq U U (AP U U (Bq U U (AP U U (ET U U U (by omega) (by omega) ?_))));refine Bq U U (AP U U (ET U U U (by omega) (by omega) ?_));refine AK U Bf Be U U (by omega) (by omega) ?_;refine BM U BR U (fun _ hx=>(C2 hx (by omega))) ?_;refine Bq U U (AP U U (AK U Bf Be U U (by omega) (by omega) ?_));refine BM U BR U (fun _ hx=>(C2 hx (by omega))) ?_;refine AK U Bf Be U U (by omega) (by omega) ?_;refine Bu ?_;replace H:=H.drew;refine Cc (i) (fun z => .int .u64 (if z=i then (g) (i - 1) else (g) z)) (.int _ _) U Be U U U H at0 (by omega) (by omega) (by rw [if_pos rfl]; exact congrArg (fun z=>Value.int .u64 ((g) z)) (by omega)) (fun z _ hz=>by rw [if_neg hz]) ?_;rintro w H
        refine Ab (Cg U (AL U U ?_));refine AK U Bf Be U U (by omega) (by omega) ?_;refine Bu (Cc (i - 1) (fun z => .int .u64 (sw (g) (i) (i - 1) z)) (.int _ _) U Be U U U H at0 (by omega) (by omega) (by rw [DO]; exact congrArg (fun z=>Value.int .u64 ((g) z)) (by omega)) (fun z _ hz=>by rw [DI hz]) ?_);rintro w H;refine Ab (Cg U (BS (Aq ?_)));have hS1:=hS0.step i (i - 1) ⟨by omega,by omega⟩ ⟨by omega,by omega⟩;have hI1:InsU (sw g i (i - 1)) a (i - 1) (i - 1):=fun x y hx hxy hy hne=>by rw [Ez (by omega) (by omega),Ez (by omega) (by omega)]; exact hiv.2.2 x y hx hxy (by omega)
        obtain ⟨g1,hg1⟩:∃ g1,g1=sw g i (i - 1):=⟨_,rfl⟩;rw [← hg1] at hS1 hI1 H;refine Ag (Ae U U (Ae U U (Bg U U U (by omega) (by omega) ?_)));refine CQ U U U (Ab (Aa (Eo 39614081252520482778344587776 (α:=Nat→Int) (fun _=>[]) (fun g w'=>IF g a i∧Sw a b f g∧Ctx w0 [q] w' [(q,Bl 24 (CB g m))]) U ?_ ?_)))
        ·skip
         refine Ay _ U ?_ ?_
         ·intro h4;replace h4:=AG h4;refine Ag (Ae U U (Bg U U U (by omega) (by omega) ?_));rw [show (i:Int) - 1=((i - 1:Nat):Int) by omega];refine Ad U U (Ab (Aa (Av (Bd 39614081238685424723062424064 (α:=Nat × (Nat→Int)) (fun t=>[(9,.int .i64 (t.1:Int))]) (fun t w'=>(a≤t.1∧t.1≤i - 1∧InsU t.2 a t.1 (i - 1))∧Sw a b f t.2∧Ctx w0 [q] w' [(q,Bl 24 (CB t.2 m))]) (fun t=>t.1) (i - 1,g1) U ?_ ?_ ?_))))
          ·exact ⟨rfl,trivial⟩
          ·exact ⟨⟨by dsimp only; omega,Nat.le_refl _,hI1⟩,hS1,H⟩
          ·rintro ⟨j,g⟩ j3 w ⟨hj,hS,H⟩; dsimp only at hj hS H; dsimp only;have hex:(a<j→g (j - 1)≤g j)→IF g a i:=fun h7=>by have h8:=hj.2.2.done hj.1 h7; rw [show i - 1+1=i by omega] at h8; exact h8
           refine Aq (Ag (Ae U U (CQ U U U (Ab (Aa (Ay _ U ?_ ?_))))))
           ·intro h5;replace h5:=AG h5;refine Ax (Aa (Aq (Av (Aq (E2 9 B0 (by kernel_rfl) U U ?_)))));refine BV U U (AN U U (AR U Bf Be U U (by omega) (by omega) ?_));refine Ch U BR U (by rintro _ rfl; exact ((C2 (H.drew.get at0) (by omega)))) ?_;refine BV U U (AN U U (Dg U U U (by omega) (by omega) ?_));refine AR U Bf Be U U (by omega) (by omega) ?_;refine Ch U BR U (by rintro _ rfl; exact ((C2 (H.drew.get at0) (by omega)))) ?_;refine Ca ?_;replace H:=H.drew;refine Al U FH (EE _ _ _) U ?_;rintro v w ⟨rfl,rfl⟩;rw [show ((j:Int) - 1).toNat=j - 1 by omega,Int.toNat_natCast];refine Bv U U (Ab (Aa (Ay _ U ?_ ?_)))
            ·intro h6;replace h6:=Bo h6;have h6:¬ g j<g (j - 1):=by simpa using h6
             refine Bc (Aj (ER U (Aj (Aj (AD (Aa ?_))))));exact ⟨g,rfl,trivial,hex fun _=>by omega,hS,H⟩
            ·intro h6;replace h6:=Bp h6;have h6:g j<g (j - 1):=by simpa using h6
             have haj:a<j:=by
              rcases Nat.lt_or_ge a j with h | h
              ·exact h
              ·obtain rfl:a=j:=by omega
               have:=hLBg (by omega) g hS a (Nat.le_refl _) hab;omega
             refine Ax (Aa (EG [([0,1,2,3,4,5,6,7,8,9,10,11,12,13,14],15),([16],17)] (fun z=>z.heap[q]? = some (Bl 24 (CB (g) m))) [15,17] B0 (by kernel_rfl) (H.drew.get at0) ?_));refine AL U U ?_;refine Bq U U (AP U U (Bq U U (AP U U (ET U U U (by omega) (by omega) ?_))));refine Bq U U (AP U U (ET U U U (by omega) (by omega) ?_));refine AK U Bf Be U U (by omega) (by omega) ?_;refine BM U BR U (fun _ hx=>(C2 hx (by omega))) ?_;refine Bq U U (AP U U (AK U Bf Be U U (by omega) (by omega) ?_));refine BM U BR U (fun _ hx=>(C2 hx (by omega))) ?_;refine AK U Bf Be U U (by omega) (by omega) ?_;refine Bu ?_;replace H:=H.drew;refine Cc (j) (fun z => .int .u64 (if z=j then (g) (j - 1) else (g) z)) (.int _ _) U Be U U U H at0 (by omega) (by omega) (by rw [if_pos rfl]; exact congrArg (fun z=>Value.int .u64 ((g) z)) (by omega)) (fun z _ hz=>by rw [if_neg hz]) ?_;rintro w H
             refine Ab (Cg U (AL U U ?_));refine AK U Bf Be U U (by omega) (by omega) ?_;refine Bu (Cc (j - 1) (fun z => .int .u64 (sw (g) (j) (j - 1) z)) (.int _ _) U Be U U U H at0 (by omega) (by omega) (by rw [DO]; exact congrArg (fun z=>Value.int .u64 ((g) z)) (by omega)) (fun z _ hz=>by rw [DI hz]) ?_);rintro w H;refine Ab (Cg U (BS (A3 (Aa (Aw (Ae U U (Bg U U U (by omega) (by omega) ?_)))))));refine Ad U U (Ab (Aa ?_));exact ⟨(j - 1,sw g j (j - 1)),rfl,⟨congrArg (Value.int .i64) (by dsimp only; omega),trivial⟩,⟨⟨by dsimp only; omega,by dsimp only; omega,hj.2.2.step haj hj.2.1 h6⟩,hS.step j (j - 1) ⟨by omega,by omega⟩ ⟨by omega,by omega⟩,H⟩,by dsimp only; omega⟩
           ·intro h5;replace h5:=AH h5;refine Bc (Aj (Aj (AD (Aa ?_))));exact ⟨g,rfl,trivial,hex fun _=>by omega,hS,H⟩
         ·intro h4;replace h4:=AH h4;refine Ax (Aa ?_);exact ⟨g1,rfl,trivial,fun x y hx hxy hy=>by omega,hS1,H⟩
        ·rintro g2 j4 w ⟨hO2,hS2,H⟩;refine Ag (Ae U U (Ae U U (Bg U U U (by omega) (by omega) ?_)));refine CQ U U U (Ab (Aa (Ay _ U ?_ ?_)))
         ·intro h4;replace h4:=AG h4;refine Ag (Ae U U (Ao U U U (by omega) (by omega) ?_));rw [show (i:Int)+1=((i+1:Nat):Int) by omega];refine Ad U U (Ab (Aa (Av (Bd 10889035738934729630371528634823176356864 (α:=Nat × (Nat→Int)) (fun t=>[(10,.int .i64 (t.1:Int))]) (fun t w'=>(i+1≤t.1∧t.1≤b∧IF t.2 a i)∧Sw a b f t.2∧Ctx w0 [q] w' [(q,Bl 24 (CB t.2 m))]) (fun t=>b - t.1) (i+1,g2) U ?_ ?_ ?_))))
          ·exact ⟨rfl,trivial⟩
          ·exact ⟨⟨Nat.le_refl _,by dsimp only; omega,hO2⟩,hS2,H⟩
          ·rintro ⟨j,g⟩ j5 w ⟨hj,hS,H⟩; dsimp only at hj hS H; dsimp only;refine Aq (Ag (Ae U U (Ae U U (AO U U U (Ab (Aa (Ay _ U ?_ ?_)))))))
           ·intro h5;replace h5:=AG h5;refine Ax (Aa (Aq (Av (Aq (E2 9 B0 (by kernel_rfl) U U ?_)))));refine BV U U (AN U U (AR U Bf Be U U (by omega) (by omega) ?_));refine Ch U BR U (by rintro _ rfl; exact ((C2 (H.drew.get at0) (by omega)))) ?_;refine BV U U (AN U U (Dg U U U (by omega) (by omega) ?_));refine AR U Bf Be U U (by omega) (by omega) ?_;refine Ch U BR U (by rintro _ rfl; exact ((C2 (H.drew.get at0) (by omega)))) ?_;refine Ca ?_;replace H:=H.drew;refine Al U FH (EE _ _ _) U ?_;rintro v w ⟨rfl,rfl⟩;rw [show ((j:Int) - 1).toNat=j - 1 by omega,Int.toNat_natCast];refine Bv U U (Ab (Aa (Ay _ U ?_ ?_)))
            ·intro h6;replace h6:=Bo h6;refine Bc (Aj (ER U (Aj (Aj (AD (A3 (Aa (Aw (Ae U U (Ao U U U (by omega) (by omega) ?_))))))))));refine Ad U U (Ab (Aa ?_));exact ⟨(st+1,i,g),rfl,⟨rfl,rfl,trivial⟩,⟨by dsimp only; omega,⟨by dsimp only; omega,by dsimp only; omega,hj.2.2⟩,hS,H⟩,by dsimp only; omega⟩
            ·intro h6;replace h6:=Bp h6;refine Ax (Aa (EG [([0,1,2,3,4,5,6,7,8,9,10,11,12,13,14],15),([16],17)] (fun z=>z.heap[q]? = some (Bl 24 (CB (g) m))) [15,17] B0 (by kernel_rfl) (H.drew.get at0) ?_));refine AL U U ?_;refine Bq U U (AP U U (Bq U U (AP U U (ET U U U (by omega) (by omega) ?_))));refine Bq U U (AP U U (ET U U U (by omega) (by omega) ?_));refine AK U Bf Be U U (by omega) (by omega) ?_;refine BM U BR U (fun _ hx=>(C2 hx (by omega))) ?_;refine Bq U U (AP U U (AK U Bf Be U U (by omega) (by omega) ?_));refine BM U BR U (fun _ hx=>(C2 hx (by omega))) ?_;refine AK U Bf Be U U (by omega) (by omega) ?_;refine Bu ?_;replace H:=H.drew;refine Cc (j) (fun z => .int .u64 (if z=j then (g) (j - 1) else (g) z)) (.int _ _) U Be U U U H at0 (by omega) (by omega) (by rw [if_pos rfl]; exact congrArg (fun z=>Value.int .u64 ((g) z)) (by omega)) (fun z _ hz=>by rw [if_neg hz]) ?_;rintro w H
             refine Ab (Cg U (AL U U ?_));refine AK U Bf Be U U (by omega) (by omega) ?_;refine Bu (Cc (j - 1) (fun z => .int .u64 (sw (g) (j) (j - 1) z)) (.int _ _) U Be U U U H at0 (by omega) (by omega) (by rw [DO]; exact congrArg (fun z=>Value.int .u64 ((g) z)) (by omega)) (fun z _ hz=>by rw [DI hz]) ?_);rintro w H;refine Ab (Cg U (BS (A3 (Aa (Aw (Ae U U (Ao U U U (by omega) (by omega) ?_)))))));refine Ad U U (Ab (Aa ?_));exact ⟨(j+1,sw g j (j - 1)),rfl,⟨rfl,trivial⟩,⟨⟨by dsimp only; omega,by dsimp only; omega,fun x y hx hxy hy=>by dsimp only; rw [Ez (by omega) (by omega),Ez (by omega) (by omega)]; exact hj.2.2 x y hx hxy hy⟩,hS.step j (j - 1) ⟨by omega,by omega⟩ ⟨by omega,by omega⟩,H⟩,by dsimp only; omega⟩
           ·intro h5;replace h5:=AH h5;refine Bc (Aj (Aj (AD (A3 (Aa (Aw (Ae U U (Ao U U U (by omega) (by omega) ?_))))))));refine Ad U U (Ab (Aa ?_));exact ⟨(st+1,i,g),rfl,⟨rfl,rfl,trivial⟩,⟨by dsimp only; omega,⟨by dsimp only; omega,by dsimp only; omega,hj.2.2⟩,hS,H⟩,by dsimp only; omega⟩
         ·intro h4;replace h4:=AH h4;refine Ax (A3 (Aa (Aw (Ae U U (Ao U U U (by omega) (by omega) ?_)))));refine Ad U U (Ab (Aa ?_));exact ⟨(st+1,i,g2),rfl,⟨rfl,rfl,trivial⟩,⟨by dsimp only; omega,⟨by dsimp only; omega,by dsimp only; omega,hO2⟩,hS2,H⟩,by dsimp only; omega⟩
  ·intro h1;replace h1:=AH h1;refine Bc (Aj (Aj (AD (Aa (Ag (Ai U U (Ab (Aa (A9 (AF (v:=(.bool _)) U U U ?_))))))))));exact ⟨false,g,rfl,hS0,(fun h=>by cases h),H⟩
end

end Go.Proofs.YtapphbmlkdhnmaaGreat

/- Sorting numbers of 64 bits: the whole. -/
namespace Go.Proofs.YtapphbmlkdhnmaaGreat
open Go.GV
attribute [local irreducible] AC W Wq Wt

theorem Tf (x:Nat) (hx:x≤4503599627370496) (w:World):Ret Tryz.prog 175 #[.int .u64 (x:Int)] w fun v w'=>∃ r:Nat,v = .int .i64 (r:Int)∧x<2 ^ r∧r≤64∧(0<x→2 ^ r≤2*x)∧w=w':=by
 refine A2 (fn:=Tryz.f175) Tryz.func175 U [.int .u64 (x:Int)] U (by kernel_rfl) ?_;refine Ag (Ad U U (Ab (Aa (Aq (Ay _ U ?_ ?_)))))
 ·intro h;cases h
 ·intro h;refine Ax (Aa (Ag (Ae U U (Al U W0 (Rh x hx w) U ?_))));rintro v w ⟨r,rfl,h1,h2,h3,rfl⟩;refine Ad U U (Ab (Aa (A9 (AF (v:=(.int _ _)) U U U ?_))));exact ⟨r,rfl,h1,h2,h3,rfl⟩
theorem ZA (l:Nat) (h0:0<l) (hl:l≤1000000000) (w:World):Ret Tryz.prog 219 #[.int .i64 (l:Int)] w fun v w'=>∃ r:Nat,v = .int .u64 (r:Int)∧0<r∧r≤2*l∧w=w':=by
 refine A2 (fn:=Tryz.f219) Tryz.func219 U [.int .i64 (l:Int)] U (by kernel_rfl) ?_;refine Ag (Ad U U (Ab (Aa (Ag (Ae U U (Dh U U Fy QO (by omega) (by omega) ?_))))));refine Al U SG (Tf l (by omega) w) U ?_;rintro v w ⟨r,rfl,h1,h2,h3,rfl⟩;refine M6 (a:=1) (n:=r) U U U h2 ?_;refine Ad U U (Ab (Aa (A9 (AF (v:=(.int _ _)) U U U ?_))));have h4:=h3 h0;have h5:=Nat.two_pow_pos r;exact ⟨2 ^ r,congrArg (Value.int .u64) (by rw [Nat.one_mul,Nat.mod_eq_of_lt (by omega)]),h5,h4,rfl⟩
theorem X5 {x y:Nat} (hx:x<18446744073709551616) (hy:y<18446744073709551616):x ^^^ y<18446744073709551616:=Nat.xor_lt_two_pow (n:=64) hx hy
section
variable {w:World} {q n c m s:Nat} {f:Nat→Int}
set_option maxRecDepth 20000 in
theorem ZB {z:Nat} (hs:w.heap[s]? = some (Bl 260 [.int .u64 (z:Int)])) (hz:z<18446744073709551616) :
  Ret Tryz.prog 220 #[ptr s] w fun v w'=>∃ z':Nat,v = .int .u64 (z':Int)∧z'<18446744073709551616∧Ctx w [s] w' [(s,Bl 260 [.int .u64 (z':Int)])]:=by
 obtain ⟨w0,rfl⟩:∃ w0,w0=w:=⟨_,rfl⟩;have H:=Ctx.start1 hs;refine A2 (fn:=Tryz.f220) Tryz.func220 U [.pointer (some ⟨s,0,none⟩)] U (by kernel_rfl) ?_;have b1:=Nat.mod_lt (z*2 ^ 13) (show 0<18446744073709551616 by decide);obtain ⟨y1,hy1⟩:∃ y1,y1=z*2 ^ 13 % 18446744073709551616:=⟨_,rfl⟩;rw [← hy1] at b1;refine Ag (Ad U U (Ab (Aa (E2 9 B0 (by kernel_rfl) U U ?_))));refine Cl U U (Bm U U (Ce U Kc U (by rintro _ rfl; exact H.drew) at0 U ?_));refine Cl U U (Bm U U (Ce U Kc U (by rintro _ rfl; exact H.drew) at0 U ?_));refine Ob (a:=z) (n:=13) U U U (by decide) ?_;rw [← hy1];refine Le (a:=z) (b:=y1) U U U hz b1 ?_;refine Bm U U (Ca ?_);replace H:=H.drew;refine BX (.int _ _) U PA U U U H at0 (by (simp; done)) ?_;rintro w H;refine Ab (Aa ?_);obtain ⟨z1,hz1⟩:∃ z1,z1=z ^^^ y1:=⟨_,rfl⟩;have c1:=X5 hz b1;rw [← hz1] at c1;replace H:Ctx w0 [s] w [(s,Bl 260 [.int .u64 (z1:Int)])]:=by rw [hz1]; exact H
 have b2:z1 / 2 ^ 7<18446744073709551616:=Nat.lt_of_le_of_lt (Nat.div_le_self _ _) c1;obtain ⟨y2,hy2⟩:∃ y2,y2=z1 / 2 ^ 7:=⟨_,rfl⟩;rw [← hy2] at b2;refine E2 9 B0 (by kernel_rfl) U U ?_;refine Cl U U (Bm U U (Ce U Kc U (by rintro _ rfl; exact H.drew) at0 U ?_));refine Cl U U (Bm U U (Ce U Kc U (by rintro _ rfl; exact H.drew) at0 U ?_));refine UO (a:=z1) (n:=7) U U U (by decide) ?_;rw [← hy2];refine Le (a:=z1) (b:=y2) U U U c1 b2 ?_;refine Bm U U (Ca ?_);replace H:=H.drew;refine BX (.int _ _) U PA U U U H at0 (by (simp; done)) ?_;rintro w H;refine Ab (Aa ?_);obtain ⟨z2,hz2⟩:∃ z2,z2=z1 ^^^ y2:=⟨_,rfl⟩;have c2:=X5 c1 b2;rw [← hz2] at c2;replace H:Ctx w0 [s] w [(s,Bl 260 [.int .u64 (z2:Int)])]:=by rw [hz2]; exact H
 have b3:=Nat.mod_lt (z2*2 ^ 17) (show 0<18446744073709551616 by decide);obtain ⟨y3,hy3⟩:∃ y3,y3=z2*2 ^ 17 % 18446744073709551616:=⟨_,rfl⟩;rw [← hy3] at b3;refine E2 9 B0 (by kernel_rfl) U U ?_;refine Cl U U (Bm U U (Ce U Kc U (by rintro _ rfl; exact H.drew) at0 U ?_));refine Cl U U (Bm U U (Ce U Kc U (by rintro _ rfl; exact H.drew) at0 U ?_));refine Ob (a:=z2) (n:=17) U U U (by decide) ?_;rw [← hy3];refine Le (a:=z2) (b:=y3) U U U c2 b3 ?_;refine Bm U U (Ca ?_);replace H:=H.drew;refine BX (.int _ _) U PA U U U H at0 (by (simp; done)) ?_;rintro w H;refine Ab (Aa (Ag (Ba U U (AZ U U (AA U Kc U H at0 U (Ad U U (Ab (Aa (A9 (AF (v:=(.int _ _)) U U U ?_))))))))));exact ⟨z2 ^^^ y3,rfl,X5 c2 b3,H⟩

set_option maxRecDepth 20000 in
set_option maxHeartbeats 2000000 in
theorem X6 {a b:Nat} (hd:w.heap[q]? = some (Bl 24 (CB f m))) (hab:a<b) (hb:b≤n) (hn:n≤m) (hm:n≤1000000000) :
  Ret Tryz.prog 202 #[.slice (some ⟨q,0,none⟩) n c,.int .i64 (a:Int),.int .i64 (b:Int)] w fun v w'=>v = .tuple #[]∧∃ g,Sw a b f g∧Ctx w [q] w' [(q,Bl 24 (CB g m))]:=by
 obtain ⟨w0,rfl⟩:∃ w0,w0=w:=⟨_,rfl⟩;have H:=Ctx.start1 hd;obtain ⟨l,rfl⟩:∃ l,b=a+l:=⟨b - a,by omega⟩;have hl:((a+l:Nat):Int) - (a:Int)=(l:Int):=by omega
 refine A2 (fn:=Tryz.f202) Tryz.func202 U [.slice (some ⟨q,0,none⟩) n c,.int .i64 (a:Int),.int .i64 ((a+l:Nat):Int)] U (by kernel_rfl) ?_;refine Ag (Ae U U (Ae U U (Bg U U U (by omega) (by omega) ?_)));rw [hl];refine Ad U U (Ab (Aa (Ag (Ae U U (CQ U U U (Ab (Aa (Ay _ U ?_ ?_))))))))
 ·intro h1;replace h1:=AG h1;refine Ag (Ae U U (Dh U U Fy Adv (by omega) (by omega) ?_));refine Bs U Ad6 H ?_;rintro b7 w - H;refine BX (.int _ _) U PA U U U H at0 (by decide) ?_;rintro w H;refine Ab (Aa (Ag (Ae U U (Al U Adh (ZA l (by omega) (by omega) _) U ?_))));rintro v w ⟨M,rfl,hM0,hM,rfl⟩;refine Ad U U (Ab (Aa (Ag (Ae U U (Ae U U (GF U U U (by omega) (by omega) (show _≤(9223372036854775807:Int) by omega) ?_))))));refine Cn U U U (by omega) (by omega) ?_;refine Ao U U U (by omega) (by omega) ?_;refine Bg U U U (by omega) (by omega) ?_;rw [show (a:Int)+(l:Int) / 4*2 - 1=((a+l / 4*2 - 1:Nat):Int) by omega]
  refine Ad U U (Ab (Aa (Av (Bd 36893488147351995904 (α:=Nat × (Nat→Int) × Nat) (fun t=>[(9,.int .i64 (t.1:Int))]) (fun t w'=>a≤t.1∧t.1≤a+l / 4*2+2∧t.2.2<18446744073709551616∧Sw a (a+l) f t.2.1∧Ctx w0 [q] w' [(b7,Bl 260 [.int .u64 (t.2.2:Int)]),(q,Bl 24 (CB t.2.1 m))]) (fun t=>a+l / 4*2+2 - t.1) (a+l / 4*2 - 1,f,l) U ?_ ?_ ?_))))
  ·exact ⟨rfl,trivial⟩
  ·exact ⟨by dsimp only; omega,by dsimp only; omega,by dsimp only; omega,.refl _,H⟩
  ·rintro ⟨i,g,z⟩ j0 w ⟨hi1,hi2,hz,hS,H⟩; dsimp only at hi1 hi2 hz hS H; dsimp only;refine Aq (Ag (Ae U U (Ae U U (Ae U U (GF U U U (by omega) (by omega) (show _≤(9223372036854775807:Int) by omega) ?_)))));refine Cn U U U (by omega) (by omega) ?_;refine Ao U U U (by omega) (by omega) ?_;refine Ao U U U (by omega) (by omega) ?_;refine IL U U U (Ab (Aa (Ay _ U ?_ ?_)))
   ·intro h2;replace h2:=AG h2;refine Ax (Aa (Aq (Av (Ag (Al U Adi (ZB (H.get at0) hz) U ?_)))));rintro v w ⟨z2,rfl,hz2,H2⟩;replace H:=Ctx.back (L1:=[_]) (L2:=[_]) H H2;refine Ae U U (My U U U (by omega) (by omega) ?_);rw [show (M:Int) - 1=((M - 1:Nat):Int) by omega];refine Iq (a:=z2) (b:=M - 1) U U U hz2 (by omega) ?_;have hand:z2 &&& (M - 1)≤M - 1:=Nat.and_le_right;refine Dv U U QO Fy (by omega) (by omega) ?_;refine Ad U U (Ab (Aa (Aq (Ag (Ae U U (Ae U U (CQ U U U (Ab (Aa ?_)))))))));obtain ⟨r,hr⟩:∃ r,r=z2 &&& (M - 1):=⟨_,rfl⟩;have hr2:r≤M - 1:=by rw [hr]; exact Nat.and_le_right
    rw [← hr];refine Eo 123145302311936 (α:=Nat) (fun r=>[(10,.int .i64 (r:Int))]) (fun r w'=>r<l∧Ctx w0 [q] w' [(b7,Bl 260 [.int .u64 (z2:Int)]),(q,Bl 24 (CB g m))]) U ?_ ?_
    ·skip
     refine Ay _ U ?_ ?_
     ·intro h3;replace h3:=AG h3;refine Aw (Ae U U (Ae U U (Bg U U U (by omega) (by omega) ?_)));refine Ad U U (Ab (Aa ?_));exact ⟨r - l,rfl,⟨congrArg (Value.int .i64) (by omega),trivial⟩,by omega,H⟩
     ·intro h3;replace h3:=AH h3;refine Ax (Aa ?_);exact ⟨r,rfl,⟨rfl,trivial⟩,by omega,H⟩
    ·rintro r2 j1 w ⟨hr3,H⟩;refine EG [([0,1,2,3,4,5,6,7,8,9,10,11,12,13,14,15,16],17),([18],19)] (fun z=>z.heap[q]? = some (Bl 24 (CB (g) m))) [17,19] B0 (by kernel_rfl) (H.drew.get at1) ?_;refine AL U U ?_;refine Bq U U (AP U U (Bq U U (AP U U (AP U U (Ee U U U (by omega) (by omega) ?_)))));refine Bq U U (AP U U (AP U U (Ee U U U (by omega) (by omega) ?_)));refine AK U Bf Be U U (by omega) (by omega) ?_;refine BM U BR U (fun _ hx=>(C2 hx (by omega))) ?_;refine Bq U U (AP U U (AK U Bf Be U U (by omega) (by omega) ?_));refine BM U BR U (fun _ hx=>(C2 hx (by omega))) ?_;refine AK U Bf Be U U (by omega) (by omega) ?_;refine Bu ?_;replace H:=H.drew;refine Cc (i) (fun z => .int .u64 (if z=i then (g) (a+r2) else (g) z)) (.int _ _) U Be U U U H at1 (by omega) (by omega) (by rw [if_pos rfl]; exact congrArg (fun z=>Value.int .u64 ((g) z)) (by omega)) (fun z _ hz=>by rw [if_neg hz]) ?_;rintro w H
     refine Ab (Cg U (AL U U ?_));refine AK U Bf Be U U (by omega) (by omega) ?_;refine Bu (Cc (a+r2) (fun z => .int .u64 (sw (g) (i) (a+r2) z)) (.int _ _) U Be U U U H at1 (by omega) (by omega) (by rw [DO]; exact congrArg (fun z=>Value.int .u64 ((g) z)) (by omega)) (fun z _ hz=>by rw [DI hz]) ?_);rintro w H;refine Ab (Cg U (BS (A3 (Aa (Aw (Ae U U (Ao U U U (by omega) (by omega) ?_)))))));refine Ad U U (Ab (Aa ?_));exact ⟨(i+1,sw g i (a+r2),z2),rfl,⟨rfl,trivial⟩,⟨by dsimp only; omega,by dsimp only; omega,hz2,hS.step i (a+r2) ⟨by omega,by omega⟩ ⟨by omega,by omega⟩,H⟩,by dsimp only; omega⟩
   ·intro h2;replace h2:=AH h2;refine Bc (Aj (Aj (AD (Db U U ?_))));exact ⟨rfl,g,hS,H.tail⟩
 ·intro h1;replace h1:=AH h1;refine Ax (Db U U ?_);exact ⟨rfl,f,.refl _,H⟩
end

end Go.Proofs.YtapphbmlkdhnmaaGreat

/- Sorting numbers of 64 bits: slices.Sort. -/
namespace Go.Proofs.YtapphbmlkdhnmaaGreat
open Go.GV
attribute [local irreducible] AC W Wq Wt

/-- Sorted, once what lies between a' and b' is. -/
structure PQ (f g:Nat→Int) (a b a' b':Nat):Prop where
 ha:a≤a'
 hab:a'≤b'
 hb:b'≤b
 sw:Sw a b f g
 out:∀ x y,a≤x→x<y→y<b→¬ (a'≤x∧y<b')→g x≤g y
 lb:0<a'→∀ x,a'≤x→x<b'→g (a' - 1)≤g x
section
variable {f g g':Nat→Int} {a b a' b':Nat}
theorem PQ.swap (h:PQ f g a b a' b') (s:Sw a' b' g g'):PQ f g' a b a' b':=by
 refine ⟨h.ha,h.hab,h.hb,h.sw.trans (s.mono h.ha h.hb),fun x y hx hxy hy hn=>?_,fun h0 x hx hxb=>?_⟩
 ·by_cases ix:a'≤x∧x<b'
  ·obtain ⟨x2,h1,h2,h3⟩:=s.mem x ix.1 ix.2;rw [h3,s.out y (.inr (by omega))];exact h.out x2 y (Nat.le_trans h.ha h1) (by omega) hy (by omega)
  ·rw [s.out x (by omega)]
   by_cases iy:a'≤y∧y<b'
   ·obtain ⟨y2,h1,h2,h3⟩:=s.mem y iy.1 iy.2;rw [h3];exact h.out x y2 hx (by omega) (Nat.lt_of_lt_of_le h2 h.hb) (by omega)
   ·rw [s.out y (by omega)];exact h.out x y hx hxy hy hn
 ·obtain ⟨x2,h1,h2,h3⟩:=s.mem x hx hxb;rw [h3,s.out (a' - 1) (.inl (by omega))];exact h.lb h0 x2 h1 h2
theorem PQ.done (h:PQ f g a b a' b') (s:IF g a' b'):IF g a b:=fun x y hx hxy hy=>by
 by_cases hn:a'≤x∧y<b'
 ·exact s x y hn.1 hxy hn.2
 ·exact h.out x y hx hxy hy hn
theorem PQ.eq {i:Nat} (h:PQ f g a b a' b') (h0:0<a') (hle:g a'≤g (a' - 1)) (hi:a'<i) (hi2:i≤b') (h1:∀ x,a'≤x→x<i→g x≤g a') (h2:∀ y,i≤y→y<b'→g a'<g y):PQ f g a b i b':=by
 refine ⟨by have:=h.ha; omega,hi2,h.hb,h.sw,fun x y hx hxy hy hn=>?_,fun _ x hx hxb=>?_⟩
 ·by_cases hin:a'≤x∧y<b'
  ·have hxi:x<i:=by omega
   have hx1:=h1 x hin.1 hxi
   rcases Nat.lt_or_ge y i with h3 | h3
   ·have:=h.lb h0 y (by omega) hin.2;omega
   ·have:=h2 y h3 hin.2;omega
  ·exact h.out x y hx hxy hy hin
 ·have e1:=h1 (i - 1) (by omega) (by omega);have e2:=h2 x hx hxb;omega
theorem PartU.sw {mid lo hi:Nat} (p:PartU g a' mid b') (s:Sw lo hi g g') (h:(a'≤lo∧hi≤mid)∨(mid<lo∧hi≤b')):PartU g' a' mid b':=by
 have hm:g' mid=g mid:=s.out mid (by omega);refine ⟨fun x hx hxm=>?_,fun y hy hyb=>?_⟩
 ·rw [hm]
  by_cases ix:lo≤x∧x<hi
  ·obtain ⟨x2,h1,h2,h3⟩:=s.mem x ix.1 ix.2;rw [h3]; exact p.le x2 (by omega) (by omega)
  ·rw [s.out x (by omega)]; exact p.le x hx hxm
 ·rw [hm]
  by_cases iy:lo≤y∧y<hi
  ·obtain ⟨y2,h1,h2,h3⟩:=s.mem y iy.1 iy.2;rw [h3]; exact p.ge y2 (by omega) (by omega)
  ·rw [s.out y (by omega)]; exact p.ge y hy hyb
theorem PQ.right {mid:Nat} (h:PQ f g a b a' b') (hm1:a'≤mid) (hm2:mid<b') (p:PartU g a' mid b') (s:IF g a' mid):PQ f g a b (mid+1) b':=by
 refine ⟨by have:=h.ha; omega,by omega,h.hb,h.sw,fun x y hx hxy hy hn=>?_,fun _ x hx hxb=>p.ge x (by omega) hxb⟩
 by_cases hin:a'≤x∧y<b'
 ·rcases Nat.lt_or_ge y mid with h1 | h1
  ·exact s x y hin.1 hxy h1
  ·have hxm:x≤mid:=by omega
   have e1:g x≤g mid:=by
    rcases Nat.lt_or_ge x mid with h2 | h2
    ·exact p.le x hin.1 h2
    ·rw [show x=mid by omega]; exact Int.le_refl _
   rcases Nat.lt_or_ge mid y with h2 | h2
   ·exact Int.le_trans e1 (p.ge y h2 hin.2)
   ·rw [show y=mid by omega]; exact e1
 ·exact h.out x y hx hxy hy hin
theorem PQ.left {mid:Nat} (h:PQ f g a b a' b') (hm1:a'≤mid) (hm2:mid<b') (p:PartU g a' mid b') (s:IF g (mid+1) b'):PQ f g a b a' mid:=by
 refine ⟨h.ha,hm1,by have:=h.hb; omega,h.sw,fun x y hx hxy hy hn=>?_,fun h0 x hx hxb=>h.lb h0 x hx (by omega)⟩
 by_cases hin:a'≤x∧y<b'
 ·rcases Nat.lt_or_ge mid x with h1 | h1
  ·exact s x y h1 hxy hin.2
  ·have hym:mid≤y:=by omega
   have e1:g x≤g mid:=by
    rcases Nat.lt_or_ge x mid with h2 | h2
    ·exact p.le x hin.1 h2
    ·rw [show x=mid by omega]; exact Int.le_refl _
   rcases Nat.lt_or_ge mid y with h2 | h2
   ·exact Int.le_trans e1 (p.ge y h2 hin.2)
   ·rw [show y=mid by omega]; exact e1
 ·exact h.out x y hx hxy hy hin
end
structure QSt where
 a:Nat
 b:Nat
 lim:Nat
 t8:Bool
 t9:Bool
 g:Nat→Int

set_option maxRecDepth 20000 in
set_option maxHeartbeats 8000000 in
theorem Aee {q n c m:Nat} (hn:n≤m) (hm:n≤1000000000):∀ (Z:Nat) {w:World} {f:Nat→Int} {a b lim:Nat},b - a<Z→w.heap[q]? = some (Bl 24 (CB f m))→a≤b→b≤n→lim≤1000→(0<a→∀ x,a≤x→x<b→f (a - 1)≤f x) →
  Ret Tryz.prog 174 #[.slice (some ⟨q,0,none⟩) n c,.int .i64 (a:Int),.int .i64 (b:Int),.int .i64 (lim:Int)] w fun v w'=>v = .tuple #[]∧∃ g,Sw a b f g∧IF g a b∧Ctx w [q] w' [(q,Bl 24 (CB g m))]:=by
 intro Z
 induction Z with
 | zero=>intro w f a b lim h; omega
 | succ Z ih =>
 intro w f a b lim hZ hd hab hb hlim hLB;obtain ⟨w0,rfl⟩:∃ w0,w0=w:=⟨_,rfl⟩;have H:=Ctx.start1 hd;refine A2 (fn:=Tryz.f174) Tryz.func174 U [.slice (some ⟨q,0,none⟩) n c,.int .i64 (a:Int),.int .i64 (b:Int),.int .i64 (lim:Int)] U (by kernel_rfl) ?_;refine Ag (Ai U U (Ab (Aa (Ag (Ai U U (Ab (Aa (Av (Bd 21778071482940061661655974875633165532942 (α:=QSt) (fun t=>[(1,.int .i64 (t.a:Int)),(2,.int .i64 (t.b:Int)),(3,.int .i64 (t.lim:Int)),(8,.bool t.t8),(9,.bool t.t9)]) (fun t w'=>t.lim≤1000∧PQ f t.g a b t.a t.b∧Ctx w0 [q] w' [(q,Bl 24 (CB t.g m))]) (fun t=>t.b - t.a) ⟨a,b,lim,true,true,f⟩ U ?_ ?_ ?_)))))))))
 ·exact ⟨rfl,rfl,rfl,rfl,rfl,trivial⟩
 ·exact ⟨hlim,⟨Nat.le_refl _,hab,Nat.le_refl _,.refl _,fun x y h1 h2 h3 h4=>absurd ⟨h1,h3⟩ h4,hLB⟩,H⟩
 ·rintro ⟨a',b',lim,t8,t9,g⟩ j0 w ⟨hlim,P,H⟩; dsimp only at hlim P H; dsimp only;have hP1:=P.ha;have hP2:=P.hab;have hP3:=P.hb;refine Av (Ag (Ae U U (Ae U U (Bg U U U (by omega) (by omega) ?_))));refine Ad U U (Ab (Aa (Aq (Ag (Ae U U (IL U U U (Ab (Aa (Ay _ U ?_ ?_)))))))))
  ·intro h1;replace h1:=AG h1;refine Ag (Ap U U (Ae U U (Ae U U (Al U WD (PN (a:=a') (b:=b') (H.get at0) hP2 (by omega) hn hm) U ?_))));rintro rv w ⟨rfl,g2,s2,o2,H2⟩;replace H:=Ctx.back (L1:=[_]) (L2:=[]) H H2;refine Ab (Aa (A9 (Am (AB (Am (AB (Fg U U ?_)))))));exact ⟨rfl,g2,(P.swap s2).sw,(P.swap s2).done o2,H⟩
  ·intro h1;replace h1:=AH h1;refine Ax (Aa (Aq (Ag (Ae U U (BQ U U U (Ab (Aa (Ay _ U ?_ ?_))))))))
   ·intro h2;replace h2:=AG h2;refine Ag (Ap U U (Ae U U (Ae U U (Al U Ac5 (Rl (a:=a') (b:=b') (H.get at0) (by omega) (by omega) hn hm) U ?_))));rintro rv w ⟨rfl,g2,s2,o2,H2⟩;replace H:=Ctx.back (L1:=[_]) (L2:=[]) H H2;refine Ab (Aa (A9 (Am (AB (Am (AB (Fg U U ?_)))))));exact ⟨rfl,g2,(P.swap s2).sw,(P.swap s2).done o2,H⟩
   ·intro h2;replace h2:=AH h2;refine Ax (Aa (Aq (Ag (Ak U U (Bv U U (Ab (Aa (Eo 4329327034376 (α:=Nat × (Nat→Int)) (fun t=>[(3,.int .i64 (t.1:Int))]) (fun t w'=>t.1≤1000∧PQ f t.2 a b a' b'∧Ctx w0 [q] w' [(q,Bl 24 (CB t.2 m))]) U ?_ ?_))))))))
    ·skip
     refine Ay _ U ?_ ?_
     ·intro h3;replace h3:=Bo h3;refine Ag (Ap U U (Ae U U (Ae U U (Al U Ac6 (X6 (a:=a') (b:=b') (H.get at0) (by omega) (by omega) hn hm) U ?_))));rintro rv w ⟨rfl,g2,s2,H2⟩;replace H:=Ctx.back (L1:=[_]) (L2:=[]) H H2;refine Ab (Aa (Aw (Ae U U (Bg U U U (by omega) (by omega) ?_))));refine Ad U U (Ab (Aa ?_));exact ⟨(lim - 1,g2),rfl,⟨congrArg (Value.int .i64) (by dsimp only; omega),trivial⟩,by dsimp only; omega,P.swap s2,H⟩
     ·intro h3;replace h3:=Bp h3;refine Ax (Aa ?_);exact ⟨(lim,g),rfl,⟨rfl,trivial⟩,hlim,P,H⟩
    ·rintro ⟨lim,g⟩ j1 w ⟨hlim,P,H⟩; dsimp only at hlim P H; dsimp only;refine Ag (Ap U U (Ae U U (Ae U U (Al U Ac7 (X4 (a:=a') (b:=b') (H.get at0) (by omega) (by omega) hn hm) U ?_))));rintro rv w ⟨p,hint,hp1,hp2,rfl,hx46⟩;replace H:=H.call hx46;refine BK U U (A6 U U U (A6 U U U (Ad U U (Ad U U (Ab (Aa (Aq (Ag (Ae U U (BQ U U U ?_))))))))));refine Ab (Aa (Eo 2303591209400014848 (α:=Nat × Int × (Nat→Int)) (fun t=>[(11,.int .i64 (t.1:Int)),(12,.int .i64 t.2.1)]) (fun t w'=>a'≤t.1∧t.1<b'∧PQ f t.2.2 a b a' b'∧Ctx w0 [q] w' [(q,Bl 24 (CB t.2.2 m))]) U ?_ ?_))
     ·skip
      refine Ay _ U ?_ ?_
      ·intro h4;replace h4:=AG h4;refine Ag (Ap U U (Ae U U (Ae U U (Al U Ac8 (Td (a:=a') (b:=b') (H.get at0) (by omega) (by omega) hn hm) U ?_))));rintro rv w ⟨rfl,g2,s2,H2⟩;replace H:=Ctx.back (L1:=[_]) (L2:=[]) H H2;refine Ab (Aa (Ag (Ae U U (Bg U U U (by omega) (by omega) ?_))));refine Ae U U (Ae U U (Bg U U U (by omega) (by omega) ?_));refine Bg U U U (by omega) (by omega) ?_;refine Ad U U (Ab (Aa (Aw (Ad U U (Ab (Aa ?_))))));exact ⟨(b' - 1 - (p - a'),1,g2),rfl,⟨congrArg (Value.int .i64) (by dsimp only; omega),rfl,trivial⟩,by dsimp only; omega,by dsimp only; omega,P.swap s2,H⟩
      ·intro h4;replace h4:=AH h4;refine Ax (Aa ?_);exact ⟨(p,hint,g),rfl,⟨rfl,rfl,trivial⟩,hp1,hp2,P,H⟩
     ·rintro ⟨p,hint,g⟩ j2 w ⟨hp1,hp2,P,H⟩; dsimp only at hp1 hp2 P H; dsimp only;refine Aq (DC 587989967349491957760 (α:=Bool) (fun t=>[(68,.bool t)]) (fun _ w'=>Ctx w0 [q] w' [(q,Bl 24 (CB g m))]) U ?_ ?_)
      ·skip
       refine Aw (Ak U U (Ak U U (A4 62 U ?_ ?_)))
       ·intro h1;refine Ak U U (An U U (.bool _) U (Ak U U (A4 65 U ?_ ?_)))
        ·intro h2;refine Ae U U (BQ U U U (An U U (.bool _) U (Ab (Aa ?_))));exact ⟨_,rfl,⟨rfl,trivial⟩,H⟩
        ·intro h3;refine Af U (Af U (A1 U U (.bool _) U (Ab (Aa ?_))));exact ⟨_,rfl,⟨rfl,trivial⟩,H⟩
       ·intro h4;refine Af U (A1 U U (.bool _) U (Ak U U (Af U (Af U (A1 U U (.bool _) U (Ab (Aa ?_)))))));exact ⟨_,rfl,⟨rfl,trivial⟩,H⟩
      ·rintro t68 j3 w H;refine Eo 8854437155380584775680 (α:=Nat→Int) (fun _=>[]) (fun g w'=>PQ f g a b a' b'∧Ctx w0 [q] w' [(q,Bl 24 (CB g m))]) U ?_ ?_
       ·skip
        refine Ay _ U ?_ ?_
        ·intro h5;refine Ag (Ap U U (Ae U U (Ae U U (Al U Ac9 (Te (a:=a') (b:=b') (H.get at0) (by omega) (by omega) hn hm P.lb) U ?_))));rintro rv w ⟨t72,g2,rfl,s2,o2,H2⟩;replace H:=Ctx.back (L1:=[_]) (L2:=[]) H H2;refine Ab (Aa (Ay _ U ?_ ?_))
         ·intro h6;refine A9 (Am (AB (Am (AB (Fg U U ?_)))));exact ⟨rfl,g2,(P.swap s2).sw,(P.swap s2).done (o2 h6),H⟩
         ·intro h6;refine Ax (Aa ?_);exact ⟨g2,rfl,trivial,P.swap s2,H⟩
        ·intro h5;refine Ax (Aa ?_);exact ⟨g,rfl,trivial,P,H⟩
       ·rintro g j4 w ⟨P,H⟩;have hP1:=P.ha;have hP3:=P.hb;have e1:((a':Int) - 1).toNat=a' - 1:=by omega
        refine Aq (DC 309475565088379329434353664 (α:=Unit) (fun _=>[(87,.bool (decide (0<a'∧¬ g (a' - 1)<g p)))]) (fun _ w'=>Ctx w0 [q] w' [(q,Bl 24 (CB g m))]) U ?_ ?_)
        ·skip
         refine F8 12 B0 (by kernel_rfl) U U ?_;refine AN U U (Aaf U U U (DB U U (Dz 75 U ?_ ?_)))
         ·intro h5;replace h5:=AG h5;refine BV U U (AN U U (Dg U U U (by omega) (by omega) ?_));refine AR U Bf Be U U (by omega) (by omega) ?_;refine Ch U BR U (by rintro _ rfl; exact ((C2 (H.drew.get at0) (by omega)))) ?_;refine BV U U (AN U U (AR U Bf Be U U (by omega) (by omega) ?_));refine Ch U BR U (by rintro _ rfl; exact ((C2 (H.drew.get at0) (by omega)))) ?_;refine Ca ?_;replace H:=H.drew;refine Al U FH (EE _ _ _) U ?_;rintro v w ⟨rfl,rfl⟩;rw [e1,Int.toNat_natCast];refine Bv U U (An U U (.bool _) U (Ab (Aa ?_)));exact ⟨(),rfl,⟨congrArg Value.bool (by clear P ih hLB; rw [Bool.eq_iff_iff]; simp_all; try omega),trivial⟩,H⟩
         ·intro h6;replace h6:=AH h6;refine A0 U (A0 U (A0 U (A0 U (A0 U (A0 U (A0 U (A0 U (A0 U (Ca ?_)))))))));replace H:=H.drew;refine Af U (Af U (A1 U U (.bool _) U (Ab (Aa ?_))));exact ⟨(),rfl,⟨congrArg Value.bool (by clear P ih hLB; rw [Bool.eq_iff_iff]; simp_all; try omega),trivial⟩,H⟩
        ·rintro - j5 w H;refine Ay _ U ?_ ?_
         ·intro h7;have h7:=of_decide_eq_true h7;refine Ag (Ap U U (Ae U U (Ae U U (Ae U U (Al U Ada (Vr (a:=a') (b:=b') (p:=p) (H.get at0) (by omega) (by omega) hn hm ⟨hp1,hp2⟩) U ?_)))));rintro rv w ⟨i,g2,rfl,s2,hi1,hi2,hga,o1,o2,H2⟩;replace H:=Ctx.back (L1:=[_]) (L2:=[]) H H2;refine Ad U U (Ab (Aa (Ag (Ae U U (Ad U U (Ab (Aa (Bc (Aj (AD (Aa ?_)))))))))));have P2:=P.swap s2;have hout:=s2.out (a' - 1) (.inl (by omega));exact ⟨⟨i,b',lim,t8,t9,g2⟩,rfl,⟨rfl,rfl,rfl,rfl,rfl,trivial⟩,⟨hlim,P2.eq h7.1 (by rw [hga,hout]; omega) hi1 hi2 o1 o2,H⟩,by dsimp only; omega⟩
         ·intro h7;refine Ax (Aa (Ag (Ap U U (Ae U U (Ae U U (Ae U U (Al U Adb (PO (a:=a') (b:=b') (p:=p) (H.get at0) (by omega) (by omega) hn hm ⟨hp1,hp2⟩) U ?_)))))));rintro rv w ⟨mid,t,g2,rfl,s2,hm1,hm2,PP,H2⟩;replace H:=Ctx.back (L1:=[_]) (L2:=[]) H H2;refine BK U U (A6 U U U (A6 U U U (Ad U U (Ai U U (Ab (Aa ?_))))));have P2:=P.swap s2;refine Ag (Ak U U (Ai U U (Ab (Aa (Ag (Ae U U (Ae U U (Bg U U U (by omega) (by omega) ?_))))))));refine Ae U U (Ae U U (Bg U U U (by omega) (by omega) ?_));refine Ad U U (Ad U U (Ab (Aa (Ag (Ae U U (GF U U U (by omega) (by omega) (show _≤(9223372036854775807:Int) by omega) ?_))))));refine Ad U U (Ab (Aa (Ag (Ae U U (Ae U U (AO U U U (Ab (Aa (Ay _ U ?_ ?_)))))))))
          ·intro h8;replace h8:=AG h8;refine Ag (Ae U U (Ae U U (CQ U U U (Ai U U (Ab (Aa (Ag (Ap U U (Ae U U (Ae U U ?_))))))))));refine Ae U U (Al U P7 (ih (a:=a') (b:=mid) (lim:=lim) (f:=g2) (by omega) (H.get at0) hm1 (by omega) hlim (fun h0 x hx hxb=>P2.lb h0 x hx (by omega))) U ?_);rintro rv w ⟨rfl,g3,s3,o3,H2⟩;replace H:=Ctx.back (L1:=[_]) (L2:=[]) H H2;refine Ab (Aa (Aw (Ae U U (Ao U U U (by omega) (by omega) ?_))));refine Ad U U (Ab (A3 (Aa ?_)));have P3:=P2.swap (s3.mono (Nat.le_refl _) (by omega));exact ⟨⟨mid+1,b',lim,_,t,g3⟩,rfl,⟨rfl,rfl,rfl,rfl,rfl,trivial⟩,⟨hlim,P3.right hm1 hm2 (PartU.sw PP s3 (.inl ⟨Nat.le_refl _,Nat.le_refl _⟩)) o3,H⟩,by dsimp only; omega⟩
          ·intro h8;replace h8:=AH h8;refine Ag (Ae U U (Ae U U (CQ U U U (Ai U U (Ab (Aa (Ag (Ap U U (Ae U U (Ao U U U (by omega) (by omega) ?_))))))))));rw [show (mid:Int)+1=((mid+1:Nat):Int) by omega];refine Ae U U (Ae U U (Al U P7 (ih (a:=mid+1) (b:=b') (lim:=lim) (f:=g2) (by omega) (H.get at0) (by omega) (by omega) hlim (fun _ x hx hxb=>PP.ge x (by omega) hxb)) U ?_));rintro rv w ⟨rfl,g3,s3,o3,H2⟩;replace H:=Ctx.back (L1:=[_]) (L2:=[]) H H2;refine Ab (Aa (Aw (Ae U U (Ad U U (Ab (A3 (Aa ?_)))))));have P3:=P2.swap (s3.mono (by omega) (Nat.le_refl _));have P4:=P3.left hm1 hm2 (PartU.sw PP s3 (.inr ⟨by omega,Nat.le_refl _⟩)) o3;exact ⟨⟨a',mid,lim,_,t,g3⟩,rfl,⟨rfl,rfl,rfl,rfl,rfl,trivial⟩,⟨hlim,P4,H⟩,by show mid - a'<b' - a'; omega⟩

set_option maxRecDepth 20000 in
theorem X7 {q n c m:Nat} {w:World} {f:Nat→Int} (hd:w.heap[q]? = some (Bl 24 (CB f m))) (hn:n≤m) (hm:n≤1000000000) :
  Ret Tryz.prog 122 #[.slice (some ⟨q,0,none⟩) n c] w fun v w'=>v = .tuple #[]∧∃ g,(tab g n).Perm (tab f n)∧IF g 0 n∧Ctx w [q] w' [(q,Bl 24 (CB g m))]:=by
 obtain ⟨w0,rfl⟩:∃ w0,w0=w:=⟨_,rfl⟩;refine A2 (fn:=Tryz.f122) Tryz.func122 U [.slice (some ⟨q,0,none⟩) n c] U (by kernel_rfl) ?_;refine Ag (Ap U U (AV U Bf U (Ad U U (Ab (Aa (Aw (Ap U U (Ae U U (Ae U U (Dh U U Fy QO (by omega) (by omega) ?_))))))))));refine Al U SG (Tf n (by omega) _) U ?_;rintro v w ⟨r,rfl,h1,h2,h3,rfl⟩;refine Al U P7 (Aee hn hm (n+1) (a:=0) (b:=n) (lim:=r) (by omega) hd (Nat.zero_le _) (Nat.le_refl _) (by omega) (fun h=>absurd h (Nat.lt_irrefl _))) U ?_;rintro rv w ⟨rfl,g,s,o,H⟩;refine Ab (Db U U ?_);exact ⟨rfl,g,s.perm (Nat.le_refl _),o,H⟩
theorem Th (c:Nat) (w:World):Ret Tryz.prog 122 #[.slice none 0 c] w fun v w'=>v = .tuple #[]∧w=w':=by
 have ins:∀ w,Ret Tryz.prog 200 #[.slice none 0 c,.int .i64 0,.int .i64 0] w fun v w'=>v = .tuple #[]∧w=w':=fun w=>by
  refine A2 (fn:=Tryz.f200) Tryz.func200 U [.slice none 0 c,.int .i64 0,.int .i64 0] U (by kernel_rfl) ?_;refine Ag (Ae U U (Ao U U U (by omega) (by omega) ?_));refine Ad U U (Ab (Aa (Av (Bd 562949953420480 (α:=Unit) (fun _=>[(6,.int .i64 1)]) (fun _ w'=>w=w') (fun _=>0) () U ?_ ?_ ?_))))
  ·exact ⟨rfl,trivial⟩
  ·rfl
  ·rintro - j0 w rfl;refine Aq (Ag (Ae U U (Ae U U (AO U U U (Ab (Aa (Ay _ U ?_ ?_)))))))
   ·intro h1;replace h1:=AG h1;omega
   ·intro h1;replace h1:=AH h1;refine Bc (Aj (Aj (AD (Db U U ?_))));exact ⟨rfl,rfl⟩
 have pdq:∀ (r:Nat) (w:World),Ret Tryz.prog 174 #[.slice none 0 c,.int .i64 0,.int .i64 0,.int .i64 (r:Int)] w fun v w'=>v = .tuple #[]∧w=w':=fun r w=>by
  refine A2 (fn:=Tryz.f174) Tryz.func174 U [.slice none 0 c,.int .i64 0,.int .i64 0,.int .i64 (r:Int)] U (by kernel_rfl) ?_;refine Ag (Ai U U (Ab (Aa (Ag (Ai U U (Ab (Aa (Av (Bd 21778071482940061661655974875633165532942 (α:=Unit) (fun _=>[(1,.int .i64 0),(2,.int .i64 0),(3,.int .i64 (r:Int)),(8,.bool true),(9,.bool true)]) (fun _ w'=>w=w') (fun _=>0) () U ?_ ?_ ?_)))))))))
  ·exact ⟨rfl,rfl,rfl,rfl,rfl,trivial⟩
  ·rfl
  ·rintro - j0 w rfl;refine Av (Ag (Ae U U (Ae U U (Bg U U U (by omega) (by omega) ?_))));refine Ad U U (Ab (Aa (Aq (Ag (Ae U U (IL U U U (Ab (Aa (Ay _ U ?_ ?_)))))))))
   ·intro h1;replace h1:=AG h1;refine Ag (Ap U U (Ae U U (Ae U U (Al U WD (ins _) U ?_))));rintro v w ⟨rfl,rfl⟩;refine Ab (Aa (A9 (Am (AB (Am (AB (Fg U U ?_)))))));exact ⟨rfl,rfl⟩
   ·intro h1;replace h1:=AH h1;omega
 refine A2 (fn:=Tryz.f122) Tryz.func122 U [.slice none 0 c] U (by kernel_rfl) ?_;refine Ag (Ap U U (AV U Bf U (Ad U U (Ab (Aa (Aw (Ap U U (Ae U U (Ae U U (Dh U U Fy QO (by omega) (by omega) ?_))))))))));refine Al U SG (Tf 0 (by omega) _) U ?_;rintro v w ⟨r,rfl,h1,h2,h3,rfl⟩;refine Al U P7 (pdq r _) U ?_;rintro v w ⟨rfl,rfl⟩;refine Ab (Db U U ?_);exact ⟨rfl,rfl⟩

end Go.Proofs.YtapphbmlkdhnmaaGreat

/- Money: the walks. -/
namespace Go.Proofs.YtapphbmlkdhnmaaGreat
open Go.GV
attribute [local irreducible] AC W Wq Wt

def Fz (x:Int):Bool:=decide (0≤x) && decide (x≤4503599627370496)
theorem Ti (x:Int) (w:World):Ret Tryz.prog 109 #[.int .i64 x] w fun v w'=>v = .bool (Fz x)∧w=w':=by
 obtain ⟨w0,rfl⟩:∃ w0,w0=w:=⟨_,rfl⟩;refine A2 (fn:=Tryz.f109) Tryz.func109 U [.int .i64 x] U (by kernel_rfl) ?_;refine Ag (Ai U U (Ab (Aa (Ag (Ae U U (CQ U U U (Ak U U (A4 5 U ?_ ?_))))))))
 ·intro h1;replace h1:=AG h1;refine Ae U U (IL U U U (An U U (.bool _) U (Ai U U (Ab (Aa (A9 (AF (v:=(.bool _)) U U U ?_)))))));exact ⟨congrArg Value.bool (by unfold Fz; rw [Bool.eq_iff_iff]; simp_all; try omega),rfl⟩
 ·intro h2;replace h2:=AH h2;refine Af U (Af U (A1 U U (.bool _) U (Ai U U (Ab (Aa (A9 (AF (v:=(.bool _)) U U U ?_)))))));exact ⟨congrArg Value.bool (by unfold Fz; rw [Bool.eq_iff_iff]; simp_all; try omega),rfl⟩
set_option maxRecDepth 20000 in
theorem Vs (a:Option Addr) (n c:Nat) (xs:List Int) (w:World) (R:Rd w a 1 I1 xs) (hn:xs.length=n) (hn2:n≤1000000) :
  Ret Tryz.prog 160 #[.slice a n c] w fun v w'=>v = .bool (xs.all Fz)∧w=w':=by
 subst hn;obtain ⟨w0,rfl⟩:∃ w0,w0=w:=⟨_,rfl⟩;refine A2 (fn:=Tryz.f160) Tryz.func160 U [.slice a xs.length c] U (by kernel_rfl) ?_;refine Ag (Ai U U (Ab (Aa (Aq (Ag (Ap U U (AV U AU U (Ae U U (Ab (Aa (Av ?_)))))))))));refine Bd 32660 (α:=Nat) (fun i=>[(7,.int .i64 (i:Int))]) (fun i w'=>i≤xs.length∧w0=w'∧∀ (k:Nat) (x:Int),k<i→xs[k]? = some x→Fz x=true) (fun i=>xs.length - i) 0 U ?_ ?_ ?_
 ·exact ⟨rfl,trivial⟩
 ·exact ⟨Nat.zero_le _,rfl,fun k x h=>absurd h (Nat.not_lt_zero _)⟩
 ·rintro i j w ⟨hi,rfl,hb⟩;refine Ag (AO U U U (Ab (Aa (Aq (Ay _ U ?_ ?_)))))
  ·intro h1;replace h1:=AG h1;obtain ⟨x,hx⟩:=AE (l:=xs) (i:=i) (by omega);refine Ax (Aa (Aq (Av (Ag (AX R U AU Bz U U (by omega) (by omega) (by rfl) ?_)))));refine AY U Bx U ((R.fld hx U (j:=0) U)) ?_;refine Ad U U (Ab (Aa (Ag (Ae U U (Al U S9 (Ti x _) U ?_)))));rintro v w ⟨rfl,rfl⟩;refine Bv U U (Ab (Aa (Ay _ U ?_ ?_)))
   ·intro h2;replace h2:=Bo h2;refine Ag (Ai U U (Ab (Aa (A9 (AB (Am (Am (AB (Am (AF (v:=(.bool _)) U U U ?_))))))))));refine ⟨congrArg Value.bool ?_,rfl⟩;exact (DP hx (show Fz x=false by simpa using h2)).symm
   ·intro h2;replace h2:=Bp h2;refine Ax (A3 (Aa (Aw (Ao U U U (by omega) (by omega) ?_))));refine Ae U U (Ab (Aa ?_));refine ⟨i+1,rfl,⟨rfl,trivial⟩,⟨by omega,rfl,fun k y hk hy=>?_⟩,by omega⟩
    rcases Nat.lt_or_ge k i with h7 | h7
    ·exact hb k y h7 hy
    ·obtain rfl:k=i:=by omega
     rw [hx] at hy;cases hy
     simpa using h2
  ·intro h1;replace h1:=AH h1;refine Bc (Aj (Aj (AD (Aa (Ag (Ai U U (Ab (Aa (A9 (AF (v:=(.bool _)) U U U ?_))))))))));exact ⟨congrArg Value.bool (EN fun k x hk hx=>hb k x (by omega) hx).symm,rfl⟩
/-! ### The sum -/
def EW (xs:List Int):Int:=xs.foldl (·+·) 0
theorem Vt (xs:List Int):∀ a:Int,xs.foldl (·+·) a=a+EW xs:=by
 induction xs with
 | nil=>intro a; show a=a+0; omega
 | cons x xs ih =>
  intro a;show xs.foldl (·+·) (a+x)=a+xs.foldl (·+·) (0+x);rw [ih,ih (0+x)]; omega
theorem Vu {xs:List Int} {i:Nat} {x:Int} (h:xs[i]? = some x):EW (xs.take (i+1))=EW (xs.take i)+x:=by
 rw [List.take_add_one,h];unfold EW;rw [List.foldl_append]; rfl
theorem Ef (x:Int) (xs:List Int):EW (x::xs)=x+EW xs:=by
 show xs.foldl (·+·) (0+x)=_;rw [Vt]; omega
theorem Rm (xs ys:List Int):EW (xs++ys)=EW xs+EW ys:=by
 induction xs with
 | nil=>show EW ys=0+_; omega
 | cons x xs ih=>rw [List.cons_append,Ef,Ef,ih]; omega
theorem Vv {xs ys:List Int} (h:xs.Perm ys):EW xs=EW ys:=by
 induction h with
 | nil=>rfl
 | cons x _ ih=>rw [Ef,Ef,ih]
 | swap x y l=>rw [Ef,Ef,Ef,Ef]; omega
 | trans _ _ h1 h2=>exact h1.trans h2
theorem LC {xs:List Int} (h:∀ x∈xs,0≤x):0≤EW xs:=by
 induction xs with
 | nil=>exact Int.le_refl _
 | cons x xs ih =>
  rw [Ef];have:=h x (List.mem_cons_self ..);have:=ih fun y hy=>h y (List.mem_cons_of_mem _ hy);omega
/-- What Sum answers: the total, and a code. -/
def HW (xs:List Int):Int × Int:=if xs.all Fz=false then (0,1) else if EW xs≤4503599627370496 then (EW xs,0) else (0,13)
theorem HX {x:Int}:Fz x=true↔0≤x∧x≤4503599627370496:=by unfold Fz; simp
set_option maxRecDepth 20000 in
set_option maxHeartbeats 2000000 in
theorem Us (a:Option Addr) (n c:Nat) (xs:List Int) (w:World) (R:Rd w a 1 I1 xs) (hn:xs.length=n) (hn2:n≤1000000) :
  Ret Tryz.prog 110 #[.slice a n c] w fun v w'=>v = .tuple #[.int .i64 (HW xs).1,.int .i64 (HW xs).2]∧w=w':=by
 subst hn;obtain ⟨w0,rfl⟩:∃ w0,w0=w:=⟨_,rfl⟩;refine A2 (fn:=Tryz.f110) Tryz.func110 U [.slice a xs.length c] U (by kernel_rfl) ?_;refine Ag (Ad U U (Ad U U (Ab (Aa (Aq (Ag (Ap U U (Al U Acf (Vs a xs.length c xs _ R U hn2) U ?_))))))));rintro v w ⟨rfl,rfl⟩;refine Bv U U (Ab (Aa (Ay _ U ?_ ?_)))
 ·intro h1;replace h1:=Bo h1;refine Ag (Ad U U (Ad U U (Ab (Aa (A9 (Am (DG (v1:=(.int _ _)) (v2:=(.int _ _)) U U U U ?_)))))));have h1':xs.all Fz=false:=by simpa using h1
  exact ⟨by unfold HW; rw [if_pos h1'],rfl⟩
 ·intro h1;replace h1:=Bp h1;have h1':xs.all Fz=true:=by simpa using h1
  have hall:∀ (k:Nat) (x:Int),xs[k]? = some x→0≤x∧x≤4503599627370496:=fun k x hx=>HX.1 (List.all_eq_true.1 h1' x (List.mem_of_getElem? hx));have hpos:∀ x∈xs,0≤x:=fun x hx=>(HX.1 (List.all_eq_true.1 h1' x hx)).1;refine Ax (Aa (Ag (Ad U U (Ab (Aa (Aq (Ag (Ap U U (AV U AU U (Ae U U (Ab (Aa ?_))))))))))));refine Av (Bd 8384604 (α:=Nat) (fun i=>[(4,.int .i64 (EW (xs.take i))),(12,.int .i64 (i:Int))]) (fun i w'=>i≤xs.length∧w0=w'∧EW (xs.take i)≤4503599627370496) (fun i=>xs.length - i) 0 U ?_ ?_ ?_)
  ·exact ⟨rfl,rfl,trivial⟩
  ·exact ⟨Nat.zero_le _,rfl,by show (0:Int)≤_; omega⟩
  ·rintro i j w ⟨hi,rfl,hb⟩;have hs0:0≤EW (xs.take i):=LC fun y hy=>hpos y (List.mem_of_mem_take hy);refine Ag (AO U U U (Ab (Aa (Aq (Ay _ U ?_ ?_)))))
   ·intro h2;replace h2:=AG h2;obtain ⟨x,hx⟩:=AE (l:=xs) (i:=i) (by omega);obtain ⟨hx0,hx1⟩:=hall i x hx;have hst:=Vu hx;refine Ax (Aa (Aq (Av (Ag (AX R U AU Bz U U (by omega) (by omega) (by rfl) ?_)))));refine AY U Bx U ((R.fld hx U (j:=0) U)) ?_;refine Ad U U (Ab (Aa (Ag (Ae U U (Ae U U (Ao U U U (by omega) (by omega) ?_))))));rw [← hst];refine Ad U U (Ab (Aa (Ag (Ae U U (Al U S9 (Ti (EW (xs.take (i+1))) _) U ?_)))));rintro v w ⟨rfl,rfl⟩;refine Bv U U (Ab (Aa (Ay _ U ?_ ?_)))
    ·intro h3;replace h3:=Bo h3;refine Ag (Ad U U (Ad U U (Ab (Aa (A9 (AB (Am (Am (AB (Am (DG (v1:=(.int _ _)) (v2:=(.int _ _)) U U U U ?_)))))))))));have h4:Fz (EW (xs.take (i+1)))=false:=by simpa using h3
     have h5:¬ EW (xs.take (i+1))≤4503599627370496:=fun h=>by
      rw [HX.2 ⟨by omega,h⟩] at h4; cases h4
     have h6:EW xs=EW (xs.take (i+1))+EW (xs.drop (i+1)):=by rw [← Rm,List.take_append_drop]
     have h7:=LC (xs:=xs.drop (i+1)) fun y hy=>hpos y (List.mem_of_mem_drop hy);exact ⟨by unfold HW; rw [if_neg (by rw [h1']; decide),if_neg (by omega)],rfl⟩
    ·intro h3;replace h3:=Bp h3;refine Ax (A3 (Aa (Aw (Ao U U U (by omega) (by omega) ?_))));refine Ae U U (Ab (Aa ?_));have h4:Fz (EW (xs.take (i+1)))=true:=by simpa using h3
     exact ⟨i+1,rfl,⟨rfl,rfl,trivial⟩,⟨by omega,rfl,(HX.1 h4).2⟩,by omega⟩
   ·intro h2;replace h2:=AH h2;refine Bc (Aj (Aj (AD (Aa (Ag (Ae U U (Ad U U (Ad U U (Ab (Aa (A9 (DG (v1:=(.int _ _)) (v2:=(.int _ _)) U U U U ?_))))))))))));obtain rfl:i=xs.length:=by omega
    rw [List.take_length] at hb ⊢;exact ⟨by unfold HW; rw [if_neg (by rw [h1']; decide),if_pos hb],rfl⟩
end Go.Proofs.YtapphbmlkdhnmaaGreat

/- Money: sums that come to nothing, shifts. -/
namespace Go.Proofs.YtapphbmlkdhnmaaGreat
open Go.GV
attribute [local irreducible] AC W Wq Wt

section
variable {P:Program} {r:Option Nat} {ops rest:List Oper} {Q:Exit→Env→World→Prop} {e:Env} {w:World} {dst:Option Tmp} {ty:TypeId} {pos:String} {af:Array Edge} {g:Option (Nat × Bool)}
end
def X8 (x:Int):Bool:=decide (-4503599627370496≤x) && decide (x≤4503599627370496)
def evenM (xs:List Int):Bool:=xs.all X8 && decide (EW xs=0)
/-! ### Shift -/
def Tj (xs ys:List Int):List Int:=List.zipWith (·+·) xs ys
/-- Its code. -/
def X9 (xs ys:List Int):Int :=
 if (decide (xs.length=ys.length) && (xs.all Fz && evenM ys))=false then 1 else if (Tj xs ys).all (fun x=>decide (0≤x))=false then 12 else if (Tj xs ys).all Fz=false then 13 else 0
end Go.Proofs.YtapphbmlkdhnmaaGreat

/- Keys of the dues' map, in whatever order. -/
namespace Go.Proofs.YtapphbmlkdhnmaaGreat
open Go.GV
attribute [local irreducible] AC W Wq Wt

structure DueK (b2 b:Nat) (o:Obj) (w:World):Prop where
 h2:w.heap[b2]? = some (Bl 121 [.map (some b)])
 hb:w.heap[b]? = some o
def keySt (m:List (Int × Value)) (vis:List (Int × Value)) (v:List Value) (vis':List (Int × Value)):Prop:=∃ p,vis'=vis++[p]∧v=[.int .u64 p.1]∧p∈m∧vis.length<m.length
end Go.Proofs.YtapphbmlkdhnmaaGreat

/- The keys of the dues' map: gathered, sorted. -/
namespace Go.Proofs.YtapphbmlkdhnmaaGreat
open Go.GV
attribute [local irreducible] AC W Wq Wt

def F1 (x:Int):Value := .int .u64 x
/-- A slice of numbers of 64 bits that the call has made. -/
structure FreshU (w w':World) (v:Value) (l:List Int):Prop where
 ex:∃ a n c full,v = .slice a n c∧OS a n c 1 full (l.map F1)∧(∀ x∈full,∃ z,x=F1 z)∧∀ x∈ent a 24 full,w'.heap[x.1]? = some x.2∧w.heap.size≤x.1
 ext:Ext [] w w'
def keysF (bk:Nat):Value := .func (.func 123) #[] #[ptr bk]
/-- What the rounds leave. -/
def appJ (w0:World) (bk b bb k:Nat) (o:Obj) (vis:List (Int × Value)) (M:Mt) (w:World):Prop :=
 ∃ a c full,(M=fun y=>y∈((bb,Bl 25 [.slice a vis.length c])::ent a 24 full).map (·.1))∧Ctx w0 [] w ((bb,Bl 25 [.slice a vis.length c])::ent a 24 full) ∧
  OS a vis.length c 1 full (vis.map fun p=>F1 p.1)∧(∀ x∈full,∃ z,x=F1 z)∧DueK bk b o w∧∀ y∈((bb,Bl 25 [.slice a vis.length c])::ent a 24 full).map (·.1),y≠k∧y≠k+1
end Go.Proofs.YtapphbmlkdhnmaaGreat

/- The keys of the dues' map, sorted; the dues' amounts. -/
namespace Go.Proofs.YtapphbmlkdhnmaaGreat
open Go.GV
attribute [local irreducible] AC W Wq Wt

theorem XA {x y:Int} (h:F1 x=F1 y):x=y:=by unfold F1 at h; injection h
theorem PR:∀ (l:List Value),(∀ x∈l,∃ z,x=F1 z)→∃ zs:List Int,l=zs.map F1
 | [],_=>⟨[],rfl⟩
 | x::l,h=>by
  obtain ⟨z,rfl⟩:=h x (List.mem_cons_self ..);obtain ⟨zs,rfl⟩:=PR l fun y hy=>h y (List.mem_cons_of_mem _ hy);exact ⟨z::zs,rfl⟩
theorem Ln:∀ {l m:List Int},l.map F1=m.map F1→l=m
 | [],[],_=>rfl
 | [],_::_,h=>by cases h
 | _::_,[],h=>by cases h
 | x::l,y::m,h=>by
  simp only [List.map_cons,List.cons.injEq] at h;rw [XA h.1,Ln h.2]
theorem KF (f:Nat→Int) (n:Nat):CB f n=(tab f n).map F1:=by unfold tab; rw [List.map_map]; rfl
theorem Rn (f:Nat→Int) {n m:Nat} (h:n≤m):(tab f m).take n=tab f n:=by
 unfold tab;rw [← List.map_take,List.take_range,Nat.min_eq_left h]
theorem Aef {g:Nat→Int} {n:Nat} (h:IF g 0 n):(tab g n).Pairwise (·≤·):=by
 rw [List.pairwise_iff_getElem];intro i j hi hj hij;rw [CV] at hi hj;have h1:=BZ (f:=g) hi;have h2:=BZ (f:=g) hj;rw [List.getElem?_eq_getElem (by rw [CV]; exact hi)] at h1;rw [List.getElem?_eq_getElem (by rw [CV]; exact hj)] at h2
 injection h1 with h1
 injection h2 with h2
 rw [h1,h2];exact h i j (Nat.zero_le _) hij hj
theorem sortF {a:Option Addr} {n c:Nat} {full:List Value} {l:List Int} (w:World) (O:OS a n c 1 full (l.map F1)) (Z:∀ x∈full,∃ z,x=F1 z) (hb:∀ x∈ent a 24 full,w.heap[x.1]? = some x.2) (hn:n≤1000000000) :
  Ret Tryz.prog 122 #[.slice a n c] w fun v w'=>v = .tuple #[]∧∃ (full':List Value) (l':List Int),l'.Perm l∧l'.Pairwise (·≤·)∧OS a n c 1 full' (l'.map F1)∧(∀ x∈full',∃ z,x=F1 z)∧(∀ x∈ent a 24 full',w'.heap[x.1]? = some x.2)∧Ext ((ent a 24 full).map (·.1)) w w':=by
 cases a with
 | none =>
  obtain rfl:n=0:=by have:=O.none' rfl; have:=O.le; omega
  have hl:l=[]:=by have:=O.llen; rw [List.length_map] at this; exact List.eq_nil_of_length_eq_zero (by omega)
  subst hl;refine Ret.mono (Th c w) ?_;rintro v w' ⟨rfl,rfl⟩;exact ⟨rfl,full,[],List.Perm.refl _,.nil,O,Z,hb,Ext.refl _ _⟩
 | some p =>
  have hp:=O.zero p rfl;obtain ⟨q,o,sp⟩:=p;simp only [Addr.mk.injEq,true_and] at hp;obtain ⟨rfl,rfl⟩:=hp;obtain ⟨zs,rfl⟩:=PR full Z;have hlen:=O.len;rw [List.length_map,Nat.mul_one] at hlen;have hpre:=O.pre;rw [Nat.mul_one,← List.map_take] at hpre;have hpre:=Ln hpre;have hzs:tab (fun i=>zs.getD i 0) c=zs:=by rw [← hlen]; exact Xj zs
  have hb0:w.heap[q]? = some (Bl 24 (CB (fun i=>zs.getD i 0) c)):=by
   rw [KF,hzs];exact hb (q,Bl 24 (zs.map F1)) (List.mem_singleton.2 U)
  refine Ret.mono (X7 (c:=c) hb0 O.le hn) ?_;rintro v w' ⟨rfl,g,hP,hS,H⟩;have hS0:((ent (some ⟨q,0,none⟩) 24 (zs.map F1)).map (·.1))=[q]:=by simp [ent]
  refine ⟨rfl,CB g c,tab g n,?_,Aef hS,⟨O.zero,O.none',by simp,O.le,?_⟩,fun x hx=>?_,fun x hx=>?_,by rw [hS0]; exact H.ext⟩
  ·rw [← Rn (fun i=>zs.getD i 0) O.le,hzs,hpre] at hP;exact hP
  ·rw [Nat.mul_one,KF,← List.map_take,Rn g O.le]
  ·rw [KF,List.mem_map] at hx;obtain ⟨z,_,rfl⟩:=hx;exact ⟨z,rfl⟩
  ·simp only [ent,List.mem_singleton] at hx;subst hx;exact H.get at0
end Go.Proofs.YtapphbmlkdhnmaaGreat

/- The dues: amounts. -/
namespace Go.Proofs.YtapphbmlkdhnmaaGreat
open Go.GV
attribute [local irreducible] AC W Wq Wt

structure Du where
 id:Int
 fr:Int
 to:Int
 am:Int
 we:Int
 un:Int
 held:Bool
instance:DecidableEq Du:=fun x y=>if h:x.id=y.id∧x.fr=y.fr∧x.to=y.to∧x.am=y.am∧x.we=y.we∧x.un=y.un∧x.held=y.held then isTrue (by cases x; cases y; simp_all) else isFalse fun e=>h (by subst e; exact ⟨rfl,rfl,rfl,rfl,rfl,rfl,rfl⟩)
abbrev DW (d:Du):List Value:=[.int .u64 d.id,.int .i64 d.fr,.int .i64 d.to,.int .i64 d.am,.int .i64 d.we,.int .i64 d.un,.bool d.held]
abbrev NI (d:Du):Value := .agg #[.int .u64 d.id,.int .i64 d.fr,.int .i64 d.to,.int .i64 d.am,.int .i64 d.we,.int .i64 d.un,.bool d.held]
theorem Ff (d:Du):∀ v∈DW d,B4 v=true:=by simp [DW,B4]
def dm (ds:List Du):List (Int × Value):=ds.map fun d=>(d.id,NI d)
theorem Aeg {ds:List Du} {p:Int × Value} (h:p∈dm ds):∃ d∈ds,p=(d.id,NI d):=by
 obtain ⟨d,hd,rfl⟩:=List.mem_map.1 h;exact ⟨d,hd,rfl⟩
def amV (p:Int × Value):Int:=match p.2 with
 | .agg vs=>match vs.toList with | [_,_,_,.int _ x,_,_,_]=>x | _=>0
 | _=>0
theorem Aeh (ds:List Du):(dm ds).map amV=ds.map (·.am):=by unfold dm; rw [List.map_map]; rfl
abbrev DU (b:Nat) (nx:Int):List Value:=[.map (some b),.int .u64 nx]
structure VSt where
 vis:List (Int × Value)
 it:Obj
 a:Option Addr
 c:Nat
 full:List Value
set_option maxRecDepth 20000 in
set_option maxHeartbeats 2000000 in
theorem Tk {bd b:Nat} {nx:Int} {o:Obj} {ds:List Du} (w:World) (hd:w.heap[bd]? = some (Bl 123 (DU b nx))) (hb:w.heap[b]? = some o) (hM:Ka .u64 (dm ds) o) (hn:ds.length≤1000000) :
  Ret Tryz.prog 113 #[ptr bd] w fun v w'=>∃ l:List Int,l.Perm (ds.map (·.am))∧Fresh w w' 2 1 v (l.map QU):=by
 obtain ⟨w0,rfl⟩:∃ w0,w0=w:=⟨_,rfl⟩;have H:=Ctx.start w0 [];have hdl:(dm ds).length=ds.length:=by unfold dm; rw [List.length_map]
 refine A2 (fn:=Tryz.f113) Tryz.func113 U [.pointer (some ⟨bd,0,none⟩)] U (by kernel_rfl) ?_;refine Ag (A5 U U (Ab (Aa (Ag (A5 U U (Ab (Aa (Aq (Ag (Ba U U (AZ U U ?_)))))))))));refine Ah U QM U (AY U Ww U ((by rw [Au hd]; rfl)) ?_);refine Wo U WO U H hb hM ?_;rintro bi it w hV H;refine Ab (Aa (Av (Bd 1046568 (α:=VSt) (fun t=>[(3,.slice t.a t.vis.length t.c)]) (fun t w'=>VisO .u64 b (dm ds) t.vis o t.it∧OS t.a t.vis.length t.c 1 t.full ((t.vis.map amV).map QU)∧Ctx w0 [] w' ((bi,t.it)::ent t.a 2 t.full)) (fun t=>(dm ds).length - t.vis.length) ⟨[],it,none,0,[]⟩ U ?_ ?_ ?_)))
 ·exact ⟨rfl,trivial⟩
 ·exact ⟨hV,OS.nil,H⟩
 ·rintro ⟨vis,it,a,c,full⟩ j w ⟨hV,O,H⟩; dsimp only at hV O H; dsimp only;refine Ag (YV U (fun _=>rfl) U H (H.ext.to hb (by simp)) at0 hV ?_);rintro vs more it' w hc H1;clear H;have H:Ctx w0 [] w ((bi,it')::ent a 2 full):=H1;clear H1
  skip
  refine Ab (Aa (Aq (Ay _ U ?_ ?_)))
  ·intro h1;obtain ⟨p,hV'⟩:∃ p,VisO .u64 b (dm ds) (vis++[p]) o it':=hc.elim (fun h=>by rw [h.1] at h1; cases h1) fun h=>h.2;obtain ⟨d,hd2,rfl⟩:=Aeg (hV'.mem p (by simp));have hle:=hV'.le;rw [hdl] at hle;have hl1:(vis++[(d.id,NI d)]).length=vis.length+1:=by rw [List.length_append]; rfl
   rw [hl1] at hle;refine Ax (Aa (Av (Ag (UW U U H (H.ext.to hb (by simp)) at0 hV' ?_))));refine A6 U U U (Bs U FQ H ?_);rintro b5 w - H;refine BL U Dm U U U (by exact Ff _) H at0 U ?_;rintro w H;refine Ab (Aa (Aw (Ap U U (Ah U LZ U (AA U Bx U H at0 U (D4 _ (.int _ _) U AU Bz FJ U (by decide) (by decide) U U U H ?_))))));rintro b18 w - H;refine Dr (L:=[_,_]) U AU AU Bz Kz FJ U (by decide) U U H O U (by simp [B4]) (by omega) ?_;rintro a' c' full' w H O;refine A5 U U (Ab (A3 (Aa ?_)));exact ⟨⟨vis++[(d.id,NI d)],it',a',c',full'⟩,rfl,⟨by dsimp only; rw [hl1]; rfl,trivial⟩,⟨hV',by dsimp only; rw [hl1,List.map_append,List.map_append]; exact O,H.tail⟩,by dsimp only; rw [hl1,hdl]; omega⟩
  ·intro h1;obtain ⟨hp,rfl⟩:vis.Perm (dm ds)∧it'=it:=hc.elim (fun h=>h.2) fun h=>by rw [h.1] at h1; cases h1
   refine Bc (Aj (Aj (AD (Aa (Ag (Ap U U (A5 U U (Ab (Aa (A9 (AF (v:=(.slice _ _ _)) U U U ?_)))))))))));refine ⟨vis.map amV,?_,Ctx.fresh (L:=[_]) H O⟩;rw [← Aeh];exact hp.map _
end Go.Proofs.YtapphbmlkdhnmaaGreat

/- The dues, listed. -/
namespace Go.Proofs.YtapphbmlkdhnmaaGreat
open Go.GV
attribute [local irreducible] AC W Wq Wt

def d00:Du:=⟨0,0,0,0,0,0,false⟩
def lookD (ds:List Du) (k:Int):Du:=(ds.find? fun d=>d.id == k).getD d00
/-- The dues, by their numbers. -/
def SortD (ds' ds:List Du):Prop:=ds'.Perm ds∧(ds'.map (·.id)).Pairwise (·<·)
end Go.Proofs.YtapphbmlkdhnmaaGreat

/- The dues: which may be. -/
namespace Go.Proofs.YtapphbmlkdhnmaaGreat
open Go.GV
attribute [local irreducible] AC W Wq Wt

def OH (x:Int):Bool:=decide (0≤x) && decide (x<16)
theorem Ro (x:Int) (w:World):Ret Tryz.prog 161 #[.int .i64 x] w fun v w'=>v = .bool (OH x)∧w=w':=by
 obtain ⟨w0,rfl⟩:∃ w0,w0=w:=⟨_,rfl⟩;refine A2 (fn:=Tryz.f161) Tryz.func161 U [.int .i64 x] U (by kernel_rfl) ?_;refine Ag (Ai U U (Ab (Aa (Ag (Ae U U (CQ U U U (Ak U U (A4 5 U ?_ ?_))))))))
 ·intro h1;replace h1:=AG h1;refine Ae U U (AO U U U (An U U (.bool _) U (Ai U U (Ab (Aa (A9 (AF (v:=(.bool _)) U U U ?_)))))));exact ⟨congrArg Value.bool (by unfold OH; rw [Bool.eq_iff_iff]; simp_all; try omega),rfl⟩
 ·intro h2;replace h2:=AH h2;refine Af U (Af U (A1 U U (.bool _) U (Ai U U (Ab (Aa (A9 (AF (v:=(.bool _)) U U U ?_)))))));exact ⟨congrArg Value.bool (by unfold OH; rw [Bool.eq_iff_iff]; simp_all; try omega),rfl⟩
def FM (d:Du):Bool:=(OH d.fr && (OH d.to && !decide (d.fr=d.to))) && (decide (1≤d.am) && (Fz d.am && (decide (1≤d.we) && (decide (d.we≤1000) && decide (0≤d.un)))))
set_option maxRecDepth 20000 in
set_option maxHeartbeats 2000000 in
theorem ZC (d:Du) (w:World):Ret Tryz.prog 112 #[NI d] w fun v w'=>v = .bool (FM d)∧Ext [] w w':=by
 obtain ⟨w0,rfl⟩:∃ w0,w0=w:=⟨_,rfl⟩;have H:=Ctx.start w0 [];refine A2 (fn:=Tryz.f112) Tryz.func112 U [NI d] U (by kernel_rfl) ?_;refine Ag (Bt U (DW d) (.agg _) U U H ?_);rintro b1 w - H;refine Ai U U (Ab (Aa (Aq (Av (Aq (Ag (Ah U LW U (AA U BG U H at0 U (Al U W5 (Ro d.fr _) U ?_)))))))));rintro v w ⟨rfl,rfl⟩;refine Bv U U (Ai U U (Ab (Aa (Ds 3 U ?_ ?_))))
 ·intro h1;replace h1:=Bo h1;refine Ax (Aa (Dc U (Ag (Ai U U (Ab (Aa (A9 (AB (Am (AF (v:=(.bool _)) U U U ?_))))))))));exact ⟨congrArg Value.bool (by unfold FM; rw [Bool.eq_iff_iff]; simp_all; try omega),H.ext⟩
 ·intro h2;replace h2:=Bp h2;refine Ag (Ah U LY U (AA U BG U H at0 U (Al U W5 (Ro d.to _) U ?_)));rintro v w ⟨rfl,rfl⟩;refine Bv U U (Ai U U (Ab (Aa (Ds 3 U ?_ ?_))))
  ·intro h3;replace h3:=Bo h3;refine Ax (Aa (Dc U (Ag (Ai U U (Ab (Aa (A9 (AB (Am (AF (v:=(.bool _)) U U U ?_))))))))));exact ⟨congrArg Value.bool (by unfold FM; rw [Bool.eq_iff_iff]; simp_all; try omega),H.ext⟩
  ·intro h4;replace h4:=Bp h4;refine Aw (Ah U LW U (AA U BG U H at0 U (Ah U LY U (AA U BG U H at0 U (BQ U U U (Ai U U (Ab (Aa (Ds 3 U ?_ ?_)))))))))
   ·intro h5;replace h5:=AG h5;refine Ag (Ai U U (Ab (Aa (A9 (AB (Am (AF (v:=(.bool _)) U U U ?_)))))));exact ⟨congrArg Value.bool (by unfold FM; rw [Bool.eq_iff_iff]; simp_all; try omega),H.ext⟩
   ·intro h6;replace h6:=AH h6;refine Aq (Ag (Ah U LZ U (AA U Bx U H at0 U (AO U U U (Ai U U (Ab (Aa (Ds 17 U ?_ ?_))))))))
    ·intro h7;replace h7:=AG h7;refine Ax (Aa (Dc U (Ag (Ai U U (Ab (Aa (A9 (AB (Am (AF (v:=(.bool _)) U U U ?_))))))))));exact ⟨congrArg Value.bool (by unfold FM; rw [Bool.eq_iff_iff]; simp_all; try omega),H.ext⟩
    ·intro h8;replace h8:=AH h8;refine Ag (Ah U LZ U (AA U Bx U H at0 U (Al U S9 (Ti d.am _) U ?_)));rintro v w ⟨rfl,rfl⟩;refine Bv U U (Ai U U (Ab (Aa (Ds 17 U ?_ ?_))))
     ·intro h9;replace h9:=Bo h9;refine Ax (Aa (Dc U (Ag (Ai U U (Ab (Aa (A9 (AB (Am (AF (v:=(.bool _)) U U U ?_))))))))));exact ⟨congrArg Value.bool (by unfold FM; rw [Bool.eq_iff_iff]; simp_all; try omega),H.ext⟩
     ·intro h10;replace h10:=Bp h10;refine Ag (Ah U P9 U (AA U Bx U H at0 U (AO U U U (Ai U U (Ab (Aa (Ds 17 U ?_ ?_)))))))
      ·intro h11;replace h11:=AG h11;refine Ax (Aa (Dc U (Ag (Ai U U (Ab (Aa (A9 (AB (Am (AF (v:=(.bool _)) U U U ?_))))))))));exact ⟨congrArg Value.bool (by unfold FM; rw [Bool.eq_iff_iff]; simp_all; try omega),H.ext⟩
      ·intro h12;replace h12:=AH h12;refine Ag (Ah U P9 U (AA U Bx U H at0 U (Ct U U U (Ai U U (Ab (Aa (Ds 17 U ?_ ?_)))))))
       ·intro h13;replace h13:=AG h13;refine Ax (Aa (Dc U (Ag (Ai U U (Ab (Aa (A9 (AB (Am (AF (v:=(.bool _)) U U U ?_))))))))));exact ⟨congrArg Value.bool (by unfold FM; rw [Bool.eq_iff_iff]; simp_all; try omega),H.ext⟩
       ·intro h14;replace h14:=AH h14;refine Aw (Ah U YZ U (AA U Bx U H at0 U (AO U U U (Ai U U (Ab (Aa (Ds 17 U ?_ ?_)))))))
        ·intro h15;replace h15:=AG h15;refine Ag (Ai U U (Ab (Aa (A9 (AB (Am (AF (v:=(.bool _)) U U U ?_)))))));exact ⟨congrArg Value.bool (by unfold FM; rw [Bool.eq_iff_iff]; simp_all; try omega),H.ext⟩
        ·intro h16;replace h16:=AH h16;refine Ax (A3 (Aa (Ag (Ai U U (Ab (Aa (A9 (AF (v:=(.bool _)) U U U ?_))))))));exact ⟨congrArg Value.bool (by unfold FM; rw [Bool.eq_iff_iff]; simp_all; try omega),H.ext⟩
end Go.Proofs.YtapphbmlkdhnmaaGreat

/- The dues: Of. -/
namespace Go.Proofs.YtapphbmlkdhnmaaGreat
open Go.GV
attribute [local irreducible] AC W Wq Wt

/-- Dues by their numbers, each of which may be. -/
def JJ (nx:Int):Int→List Du→Bool
 | _,[]=>true
 | ah,d::ds=>(FM d && (decide (ah<d.id) && decide (d.id<nx))) && JJ nx d.id ds
def Ji (ah:Int):List Du→Int
 | []=>ah
 | d::ds=>Ji d.id ds
theorem Jj (nx:Int):∀ (ah:Int) (ds es:List Du),JJ nx ah (ds++es)=(JJ nx ah ds && JJ nx (Ji ah ds) es)
 | _,[],_=>rfl
 | ah,d::ds,es=>by simp only [List.cons_append,JJ,Ji,Jj nx d.id ds es,Bool.and_assoc]
theorem NJ (ah:Int) (ds:List Du) (d:Du):Ji ah (ds++[d])=d.id:=by
 induction ds generalizing ah with
 | nil=>rfl
 | cons x ds ih=>exact ih x.id
theorem XB {nx:Int}:∀ {ah:Int} {ds:List Du},JJ nx ah ds=true→(∀ d∈ds,ah<d.id∧d.id≤Ji ah ds∧d.id<nx∧FM d=true)∧(ds.map (·.id)).Pairwise (·<·)∧ah≤Ji ah ds
 | _,[],_=>⟨fun _ h=>(by cases h),List.Pairwise.nil,Int.le_refl _⟩
 | ah,x::ds,h=>by
  simp only [JJ,Bool.and_eq_true,decide_eq_true_eq] at h;obtain ⟨⟨hm,h1,h2⟩,h3⟩:=h;obtain ⟨i1,i2,i3⟩:=XB h3;refine ⟨fun d hd=>?_,?_,?_⟩
  ·rcases List.mem_cons.1 hd with rfl | hd
   ·exact ⟨h1,i3,h2,hm⟩
   ·obtain ⟨a,b,c,e⟩:=i1 d hd;exact ⟨by omega,b,c,e⟩
  ·rw [List.map_cons,List.pairwise_cons];refine ⟨fun k hk=>?_,i2⟩;obtain ⟨d,hd,rfl⟩:=List.mem_map.1 hk;exact (i1 d hd).1
  ·show ah≤Ji x.id ds;omega
/-- Of's code. -/
def ofC (ds:List Du) (nx:Int):Int :=
 if 64<ds.length then 6 else if (decide (1≤nx) && decide (nx≤4611686018427387904))=false then 1 else if JJ nx 0 ds=false then 1 else (HW (ds.map (·.am))).2
theorem Vw {xs ys:List Int} (h:xs.Perm ys):HW xs=HW ys:=by
 have h1:xs.all Fz=ys.all Fz:=by
  rw [Bool.eq_iff_iff,List.all_eq_true,List.all_eq_true];exact ⟨fun g x hx=>g x (h.mem_iff.2 hx),fun g x hx=>g x (h.mem_iff.1 hx)⟩
 unfold HW;rw [h1,Vv h]
theorem Vx {ds:List Du} {k:Int} (h:∀ d∈ds,d.id≠k):GG (dm ds) k=none:=by
 induction ds with
 | nil=>rfl
 | cons x ds ih =>
  unfold dm GG at ih ⊢;rw [List.map_cons,List.find?_cons,show (x.id == k)=false by simpa using h x (List.mem_cons_self ..)];exact ih fun d hd=>h d (List.mem_cons_of_mem _ hd)
theorem Aei (ds:List Du) (d:Du):dm ds++[(d.id,NI d)]=dm (ds++[d]):=by unfold dm; rw [List.map_append]; rfl
theorem XC {w:World} {b:Nat} {t:TypeId} {l:List Value} (h:w.heap[b]? = some (Bl t l)):∀ j v,l[j]? = some v→w.cell? ⟨b,0+j,none⟩=some v:=fun j v hv=>by rw [Au h,Nat.zero_add]; exact hv
structure OSt where
 i:Nat
 ah:Int
 o:Obj
set_option maxRecDepth 20000 in
set_option maxHeartbeats 4000000 in
theorem Aej (a:Option Addr) (n c:Nat) (ds:List Du) (nx:Int) (w:World) (R:Rd w a 7 DW ds) (hn:ds.length=n) (hn2:n≤1000000000) (hnx:0≤nx∧nx<18446744073709551616) (hid:∀ d∈ds,0≤d.id∧d.id<18446744073709551616) :
  Ret Tryz.prog 57 #[.slice a n c,.int .u64 nx] w fun v w'=>∃ p,v = .tuple #[p,.int .i64 (ofC ds nx)]∧(ofC ds nx≠0→p = .pointer none)∧(ofC ds nx=0→∃ bd b o,p=ptr bd∧w'.heap[bd]? = some (Bl 123 (DU b nx))∧w'.heap[b]? = some o∧Ka .u64 (dm ds) o∧w.heap.size≤bd∧w.heap.size≤b∧bd≠b)∧Ext [] w w':=by
 subst hn;obtain ⟨w0,rfl⟩:∃ w0,w0=w:=⟨_,rfl⟩;have H:=Ctx.start w0 [];refine A2 (fn:=Tryz.f57) Tryz.func57 U [.slice a ds.length c,.int .u64 nx] U (by kernel_rfl) ?_;refine Ag (D7 U U (Ad U U (Ab (Aa (Aq (Ag (Ap U U (AV U D0 U (Ct U U U (Ab (Aa ?_)))))))))));refine Ay _ U ?_ ?_
 ·intro h1;replace h1:=AG h1;refine Ag (D7 U U (Ad U U (Ab (Aa (A9 (Am (DG (v1:=(.pointer _)) (v2:=(.int _ _)) U U U U ?_)))))));have h1':ofC ds nx=6:=by unfold ofC; rw [if_pos (by omega)]
  exact ⟨_,by rw [h1'],fun _=>rfl,(fun h=>by omega),H.ext⟩
 ·intro h1;replace h1:=AH h1;have h1':¬ 64<ds.length:=by omega
  refine Ax (Aa (Aq (Ag (B5 (α:=Unit) 2064384 (fun _=>[(20,.bool (!(decide (1≤nx) && decide (nx≤4611686018427387904))))]) (fun _ w'=>w'=w0) U ?_ ?_))))
  ·refine Ae U U (AO U U U (Ak U U (A4 17 U ?_ ?_)))
   ·intro h1;replace h1:=AG h1;refine Af U (Af U (An U U (.bool _) U (Ab ?_)));exact ⟨rfl,(),rfl,⟨congrArg Value.bool (by rw [Bool.eq_iff_iff]; simp_all; try omega),trivial⟩,rfl⟩
   ·intro h2;replace h2:=AH h2;refine Ae U U (Ct U U U (A1 U U (.bool _) U (Ab ?_)));exact ⟨rfl,(),rfl,⟨congrArg Value.bool (by rw [Bool.eq_iff_iff]; simp_all; try omega),trivial⟩,rfl⟩
  rintro - j20 w hw;subst w;refine Ay _ U ?_ ?_
  ·intro h2;replace h2:=Bo h2;refine Ag (D7 U U (Ad U U (Ab (Aa (A9 (Am (DG (v1:=(.pointer _)) (v2:=(.int _ _)) U U U U ?_)))))));have h2':ofC ds nx=1:=by unfold ofC; rw [if_neg h1',if_pos (by simpa using h2)]
   exact ⟨_,by rw [h2'],fun _=>rfl,(fun h=>by omega),H.ext⟩
  ·intro h2;replace h2:=Bp h2;have h2':(decide (1≤nx) && decide (nx≤4611686018427387904))=true:=by simpa using h2
   have h2n:¬ (decide (1≤nx) && decide (nx≤4611686018427387904))=false:=by rw [h2']; decide
   refine Ax (Aa (Ag (M1 .u64 U H ?_)));rintro b o w hM H;refine Ae U U (Cp (DU b nx) U Adl Adw (by kernel_rfl) ?_);refine Bt U (DU b nx) (.agg _) U U H ?_;rintro b24 w - H;refine D7 U U (Ab (Aa (Ag (Ad U U (Ab (Aa (Aq (Ag (Ap U U (AV U D0 U (Ae U U ?_)))))))))));refine Ab (Aa (Av (Bd 288230376017494704 (α:=OSt) (fun t=>[(7,.int .u64 t.ah),(27,.int .i64 (t.i:Int))]) (fun t w'=>t.i≤ds.length∧t.ah=Ji 0 (ds.take t.i)∧JJ nx 0 (ds.take t.i)=true∧Ka .u64 (dm (ds.take t.i)) t.o∧Ctx w0 [] w' [(b24,Bl 123 (DU b nx)),(b,t.o)]) (fun t=>ds.length - t.i) ⟨0,0,o⟩ U ?_ ?_ ?_)))
   ·exact ⟨rfl,rfl,trivial⟩
   ·exact ⟨Nat.zero_le _,rfl,rfl,hM,H⟩
   ·rintro ⟨i,ah,o⟩ j w ⟨hi,hah,has,hM,H⟩; dsimp only at hi hah has hM H; dsimp only;refine Ag (AO U U U (Ab (Aa (Aq (Ay _ U ?_ ?_)))))
    ·intro h3;replace h3:=AG h3;obtain ⟨d,hd⟩:=AE (l:=ds) (i:=i) (by omega);have hdi:=hid d (List.mem_of_getElem? hd);have htk:ds.take (i+1)=ds.take i++[d]:=by rw [List.take_add_one,hd]; rfl
     have hasc:JJ nx 0 (ds.take (i+1))=(FM d && (decide (ah<d.id) && decide (d.id<nx))):=by
      rw [htk,Jj,has,Bool.true_and,← hah];show (_ && JJ nx d.id [])=_;show (_ && true)=_;rw [Bool.and_true]
     refine Ax (Aa (Aq (Av (Ag (AX R U D0 Dm U U (by omega) (by omega) (by rfl) ?_)))));refine Cd _ U HK Dm U U ((R.ext0 H.ext).row hd U) ?_;refine Bs U FQ H ?_;rintro b9 w - H;refine BL U Dm U U U (by exact Ff _) H at0 U ?_;rintro w H;refine Ab (Aa (Aq (Ag (B5 (α:=Unit) 70366596694016 (fun _=>[(45,.bool (!(FM d && (decide (ah<d.id) && decide (d.id<nx)))))]) (fun _ w'=>Ctx w0 [] w' [(b9,Bl 62 (DW d)),(b24,Bl 123 (DU b nx)),(b,o)]) U ?_ ?_))))
     ·refine Bh U HK Dm U H at0 U (Al U Abp (ZC d _) U ?_);rintro v w ⟨rfl,hx32⟩;replace H:=H.call hx32;refine Bv U U (Ak U U (A4 34 U ?_ ?_))
      ·intro h3;replace h3:=Bo h3;refine Af U (Af U (Af U (Af U (An U U (.bool _) U (Ak U U (Af U (Af U (Af U (Af U ?_)))))))));refine An U U (.bool _) U (Ab ?_);exact ⟨rfl,(),rfl,⟨congrArg Value.bool (by clear hasc; rw [Bool.eq_iff_iff]; simp_all; try omega),trivial⟩,H⟩
      ·intro h4;replace h4:=Bp h4;refine Ah U J4 U (AA U BR U H at0 U (Ae U U (IL U U U (A1 U U (.bool _) U (Ak U U (A4 40 U ?_ ?_))))))
       ·intro h5;replace h5:=AG h5;refine Af U (Af U (Af U (Af U (An U U (.bool _) U (Ab ?_)))));exact ⟨rfl,(),rfl,⟨congrArg Value.bool (by clear hasc; rw [Bool.eq_iff_iff]; simp_all; try omega),trivial⟩,H⟩
       ·intro h6;replace h6:=AH h6;refine Ah U J4 U (AA U BR U H at0 U (Ae U U (CQ U U U (A1 U U (.bool _) U (Ab ?_)))));exact ⟨rfl,(),rfl,⟨congrArg Value.bool (by clear hasc; rw [Bool.eq_iff_iff]; simp_all; try omega),trivial⟩,H⟩
     rintro - j45 w H;refine Ay _ U ?_ ?_
     ·intro h4;replace h4:=Bo h4;refine Ag (D7 U U (Ad U U (Ab (Aa (A9 (Am (AB (Am (Am (AB (Am (DG (v1:=(.pointer _)) (v2:=(.int _ _)) U U U U ?_))))))))))))
      have h4':ofC ds nx=1:=by
       unfold ofC;rw [if_neg h1',if_neg h2n,if_pos];have h5:JJ nx 0 ds=JJ nx 0 (ds.take (i+1)++ds.drop (i+1)):=by rw [List.take_append_drop]
       rw [h5,Jj,hasc,show (FM d && (decide (ah<d.id) && decide (d.id<nx)))=false by simpa using h4]; rfl
      exact ⟨_,by rw [h4'],fun _=>rfl,(fun h=>by omega),H.ext⟩
     ·intro h4;replace h4:=Bp h4;have h4':(FM d && (decide (ah<d.id) && decide (d.id<nx)))=true:=by simpa using h4
      have hgt:ah<d.id:=by simp only [Bool.and_eq_true,decide_eq_true_eq] at h4'; exact h4'.2.1
      have hno:GG (dm (ds.take i)) d.id=none:=Vx fun x hx=>by
       have:=((XB has).1 x hx).2.1;omega
      refine Ax (Aa (EG [([0,1,2,3,4,5,6,7,8],9),([10],11),([],12)] (fun z=>z.heap[b9]? = some (Bl 62 (DW d))∧z.heap[b24]? = some (Bl 123 (DU b nx))) [] B0 (by kernel_rfl) (⟨H.drew.get at0,H.drew.get at1⟩) ?_));refine AL U U ?_;refine Dd U U (B6 U U (AJ U QM U (BM U Ww U (fun _ hx=>(by rw [Au hx.2]; rfl)) ?_)));refine AJ U J4 U (BM U BR U (fun _ hx=>(by rw [Au hx.1]; rfl)) ?_);refine Fb _ U HK Dm U U (fun _ hx=>(XC hx.1)) ?_;refine AJ U J4 U (BM U BR U (fun _ hx=>(by rw [Au hx.1]; rfl)) ?_);refine Bu ?_;replace H:=H.drew;refine QC U WO Da zv_62 U U H at2 hM hno ?_;rintro st o1 w hE H;refine Ab (BH (⟨H.get at0,H.get at1⟩) (AL U U ?_));refine D6 U U U (Bu (NF (NI d) U U U U H at2 hE ?_));rintro o2 w hM2 H;refine Ab (BH (⟨H.get at0,H.get at1⟩) (AL U U ?_));refine Bu (Ad U U (Ab (BH (⟨H.get at0,H.get at1⟩) (BS (A3 (Aa (Aw (Ao U U U (by omega) (by omega) ?_))))))));refine Ae U U (Ab (Aa ?_))
      exact ⟨⟨i+1,d.id,o2⟩,rfl,⟨rfl,rfl,trivial⟩,⟨by dsimp only; omega,by dsimp only; rw [htk,NJ],by dsimp only; rw [hasc]; exact h4',by dsimp only; rw [htk,← Aei]; exact hM2,H.tail⟩,by dsimp only; omega⟩
    ·intro h3;replace h3:=AH h3;obtain rfl:i=ds.length:=by omega
     rw [List.take_length] at hM has
     have hC:ofC ds nx=(HW (ds.map (·.am))).2:=by
      unfold ofC; rw [if_neg h1',if_neg h2n,if_neg (by rw [has]; decide)]
     rw [hC];obtain ⟨tt,htt⟩:∃ tt,tt=HW (ds.map (·.am)):=⟨_,rfl⟩;rw [← htt];refine Bc (Aj (Aj (AD (Aa (Aq (Ag (Ba U U (Al U Abq (Tk _ (H.get at0) (H.get at1) hM (by omega)) U ?_))))))));rintro v w ⟨l,hlp,F⟩;obtain ⟨a3,n3,c3,f3,rfl,O3,hb3⟩:=F.ex;replace H:=H.call F.ext;have hl3:=O3.llen;rw [List.length_map] at hl3;have hlq:=hlp.length_eq;rw [List.length_map] at hlq;refine Al U Wz (Us a3 n3 c3 l _ (O3.rd1 fun x hx=>(hb3 x hx).1) (by omega) (by omega)) U ?_;rintro v w ⟨rfl,rfl⟩;rw [Vw hlp];rw [← htt];refine BK U U (A6 U U U (A6 U U U (Ad U U (Ad U U (Ab (Aa (Ag (Ae U U (CC U U U (Ab (Aa ?_)))))))))));refine Ay _ U ?_ ?_
     ·intro h5;replace h5:=CK h5;refine Ag (Ae U U (D7 U U (Ad U U (Ab (Aa (A9 (Am (DG (v1:=(.pointer _)) (v2:=(.int _ _)) U U U U ?_))))))));exact ⟨_,rfl,fun _=>rfl,(fun h=>absurd h h5),H.ext⟩
     ·intro h5;replace h5:=CL h5;refine Ax (Aa (Ag (Ba U U (D7 U U (Ad U U (Ab (Aa (A9 (DG (v1:=(.pointer _)) (v2:=(.int _ _)) U U U U ?_)))))))));have h5':tt.2=0:=by omega
      refine ⟨_,by rw [h5'],(fun h=>absurd h5' h),(fun _=>⟨b24,b,o,rfl,H.get at0,H.get at1,hM,?_,?_,H.ne at0 at1 (by decide)⟩),H.ext⟩
      ·exact (H.own (b24,_) (List.mem_of_getElem? (i:=0) U)).elim (fun h=>by cases h) id
      ·exact (H.own (b,_) (List.mem_of_getElem? (i:=1) U)).elim (fun h=>by cases h) id
end Go.Proofs.YtapphbmlkdhnmaaGreat

/- The accounts: Of, their balances, their rooms. -/
namespace Go.Proofs.YtapphbmlkdhnmaaGreat
open Go.GV
attribute [local irreducible] AC W Wq Wt

structure Ac where
 ba:Int
 re:Int
instance:DecidableEq Ac:=fun x y=>if h:x.ba=y.ba∧x.re=y.re then isTrue (by cases x; cases y; simp_all) else isFalse fun e=>h (by subst e; exact ⟨rfl,rfl⟩)
abbrev encA (a:Ac):List Value:=[.int .i64 a.ba,.int .i64 a.re]
theorem XD {α β:Type} {f:α→β} {l:List α} {i:Nat} {x:α} (h:l[i]? = some x):(l.take (i+1)).map f=(l.take i).map f++[f x]:=by
 rw [List.take_add_one,h,List.map_append]; rfl
def Hn (a:Ac):Int:=max 0 (a.ba - a.re)
def acMay (a:Ac):Bool:=Fz a.ba && Fz a.re
end Go.Proofs.YtapphbmlkdhnmaaGreat

/- The accounts: Of, Shift. -/
namespace Go.Proofs.YtapphbmlkdhnmaaGreat
open Go.GV
attribute [local irreducible] AC W Wq Wt

/-- Of's code. -/
def aofC (acs:List Ac):Int:=if 16<acs.length then 6 else if acs.all acMay=false then 1 else (HW (acs.map Ac.ba)).2
end Go.Proofs.YtapphbmlkdhnmaaGreat

/- The accounts: Shift. -/
namespace Go.Proofs.YtapphbmlkdhnmaaGreat
open Go.GV
attribute [local irreducible] AC W Wq Wt

def a00:Ac:=⟨0,0⟩
/-- The accounts, of which the first have new balances. -/
def acZ (acs:List Ac) (z:Nat→Int) (k i:Nat):Ac:=if i<k then ⟨z i,(acs.getD i a00).re⟩ else acs.getD i a00
def acsZ (acs:List Ac) (z:Nat→Int) (k:Nat):List Ac:=(List.range acs.length).map (acZ acs z k)
def shA (acs:List Ac) (ys:List Int):List Ac:=if X9 (acs.map Ac.ba) ys=0 then List.zipWith (fun a y=>⟨a.ba+y,a.re⟩) acs ys else acs
/-- What comes back of money's Shift. -/
def shZ (acs:List Ac) (ys:List Int):List Int:=if X9 (acs.map Ac.ba) ys=0 then Tj (acs.map Ac.ba) ys else []
structure HSt where
 i:Nat
 full:List Value
end Go.Proofs.YtapphbmlkdhnmaaGreat

/- Money, as the reference has it. -/
namespace Go.Proofs.YtapphbmlkdhnmaaGreat
open Go.GV
attribute [local irreducible] AC W Wq Wt

theorem XE {xs:List Int} {f:Int→Bool} {i:Nat} {x:Int} (hx:xs[i]? = some x) (h:∀ (k:Nat) (y:Int),k<i→xs[k]? = some y→f y=true) (hf:f x=true):∀ (k:Nat) (y:Int),k<i+1→xs[k]? = some y→f y=true:=fun k y hk hy=>by
 rcases Nat.lt_or_ge k i with h7 | h7
 ·exact h k y h7 hy
 ·obtain rfl:k=i:=by omega
  rw [hx] at hy;cases hy;exact hf
end Go.Proofs.YtapphbmlkdhnmaaGreat

/- Shifts, as the reference has them. -/
namespace Go.Proofs.YtapphbmlkdhnmaaGreat
open Go.GV
attribute [local irreducible] AC W Wq Wt

def inM (x y:Int):Bool:=Fz x && X8 y
end Go.Proofs.YtapphbmlkdhnmaaGreat

/- The accounts, as the reference has them. -/
namespace Go.Proofs.YtapphbmlkdhnmaaGreat
open Go.GV
attribute [local irreducible] AC W Wq Wt

end Go.Proofs.YtapphbmlkdhnmaaGreat

/- The accounts of the reference: Of; the laws' comparisons. -/
namespace Go.Proofs.YtapphbmlkdhnmaaGreat
open Go.GV
attribute [local irreducible] AC W Wq Wt

theorem ZD {α:Type} {xs ys:List α} (hl:xs.length=ys.length) (h:∀ (k:Nat) (x y:α),k<xs.length→xs[k]? = some x→ys[k]? = some y→x=y):xs=ys:=by
 refine List.ext_getElem? fun i=>?_
 rcases Nat.lt_or_ge i xs.length with h7 | h7
 ·obtain ⟨x,hx⟩:=AE (l:=xs) (i:=i) h7;obtain ⟨y,hy⟩:=AE (l:=ys) (i:=i) (by omega);rw [hx,hy,h i x y h7 hx hy]
 ·rw [List.getElem?_eq_none (by omega),List.getElem?_eq_none (by omega)]
end Go.Proofs.YtapphbmlkdhnmaaGreat

/- The accounts of the reference: Of; the dues, compared. -/
namespace Go.Proofs.YtapphbmlkdhnmaaGreat
open Go.GV
attribute [local irreducible] AC W Wq Wt

end Go.Proofs.YtapphbmlkdhnmaaGreat

/- The dues of the reference: Of. -/
namespace Go.Proofs.YtapphbmlkdhnmaaGreat
open Go.GV
attribute [local irreducible] AC W Wq Wt

end Go.Proofs.YtapphbmlkdhnmaaGreat

/- The dues of the reference: Of, whole. -/
namespace Go.Proofs.YtapphbmlkdhnmaaGreat
open Go.GV
attribute [local irreducible] AC W Wq Wt

theorem Vy (ds:List Du):∀ v∈ds.flatMap DW,B4 v=true:=fun v hv=>by
 obtain ⟨a,_,h⟩:=List.mem_flatMap.1 hv;exact Ff a v h
theorem Np (ds:List Du):(ds.flatMap DW).length=ds.length*7:=by
 induction ds with
 | nil=>rfl
 | cons a ds ih =>
  rw [List.flatMap_cons,List.length_append,ih];show 7+ds.length*7=(ds.length+1)*7;omega
end Go.Proofs.YtapphbmlkdhnmaaGreat

/- The dues: Pay. -/
namespace Go.Proofs.YtapphbmlkdhnmaaGreat
open Go.GV
attribute [local irreducible] AC W Wq Wt

/-- What paying x at a due answers. -/
def pC (d:Du) (x:Int):Int:=if x<0 then 1 else if d.held=true then 14 else if d.am<x then 12 else 0
def pD (d:Du) (x:Int):Du:=if pC d x=0 then { d with am:=d.am - x } else d
def XF (ds:List Du) (k:Int):Option Du:=ds.find? fun d=>d.id == k
/-- The dues once x has been paid at one. -/
def Vz:List Du→Int→Int→List Du
 | [],_,_=>[]
 | d::ds,k,x=>if d.id=k then (if d.am=x then ds else { d with am:=d.am - x }::ds) else d::Vz ds k x
def payC (ds:List Du) (k x:Int):Int:=match XF ds k with
 | none=>11
 | some d=>pC d x
def payS (ds:List Du) (k x:Int):List Du:=if payC ds k x=0 then Vz ds k x else ds
def payF (bx:Nat):Value := .func (.func 139) #[] #[ptr bx]
end Go.Proofs.YtapphbmlkdhnmaaGreat

/- The dues: Pay, whole. -/
namespace Go.Proofs.YtapphbmlkdhnmaaGreat
open Go.GV
attribute [local irreducible] AC W Wq Wt

end Go.Proofs.YtapphbmlkdhnmaaGreat

/- The dues of the reference: place. -/
namespace Go.Proofs.YtapphbmlkdhnmaaGreat
open Go.GV
attribute [local irreducible] AC W Wq Wt

/-- Where a due stands. -/
structure PlD (ds:List Du) (k:Int) (i:Nat) (d:Du):Prop where
 at':ds[i]? = some d
 id:d.id=k
 fst:∀ (j:Nat) (e:Du),j<i→ds[j]? = some e→e.id≠k
theorem PlD.pay {ds:List Du} {k x:Int} {i:Nat} {d:Du} (h:PlD ds k i d):Vz ds k x=if d.am=x then ds.eraseIdx i else ds.set i { d with am:=d.am - x }:=by
 induction ds generalizing i with
 | nil=>have:=h.at'; cases this
 | cons y ds ih =>
  unfold Vz
  cases i with
  | zero =>
   have h1:=h.at'
   injection h1 with h1
   rw [h1,if_pos h.id]; rfl
  | succ i =>
   have h1:=h.fst 0 y (Nat.succ_pos _) rfl;rw [if_neg h1,ih ⟨h.at',h.id,fun j e hj he=>h.fst (j+1) e (Nat.succ_lt_succ hj) he⟩]
   split <;> rfl
end Go.Proofs.YtapphbmlkdhnmaaGreat

/- The dues of the reference: remove. -/
namespace Go.Proofs.YtapphbmlkdhnmaaGreat
open Go.GV
attribute [local irreducible] AC W Wq Wt

end Go.Proofs.YtapphbmlkdhnmaaGreat

/- The dues of the reference: Pay. -/
namespace Go.Proofs.YtapphbmlkdhnmaaGreat
open Go.GV
attribute [local irreducible] AC W Wq Wt

end Go.Proofs.YtapphbmlkdhnmaaGreat

/- Dues that are open: Clone, IndexFunc. -/
namespace Go.Proofs.YtapphbmlkdhnmaaGreat
open Go.GV
attribute [local irreducible] AC W Wq Wt

theorem V0 (a:Option Addr) (n c:Nat) (ds:List Du) (w:World) (R:Rd w a 7 DW ds) (hn:ds.length=n) (hm:n≤1000000000) :
  Ret Tryz.prog 157 #[.slice a n c] w fun v w'=>Fresh w w' 62 7 v (ds.flatMap DW):=by
 subst hn;obtain ⟨w0,rfl⟩:∃ w0,w0=w:=⟨_,rfl⟩;have H:=Ctx.start w0 [];refine A2 (fn:=Tryz.f157) Tryz.func157 U [.slice a ds.length c] U (by kernel_rfl) ?_;refine Ag (A5 U U (Ab (Aa (Aq (Ag (Ap U U (NW U D0 U (Ab (Aa (Ay _ U ?_ ?_))))))))))
 ·intro h1;have ha:a=none:=by simpa using h1
  subst ha
  have hxs:ds=[]:=by
   cases ds with
   | nil=>rfl
   | cons x xs=>obtain ⟨b,o,h⟩:=R.some' (by simp); cases h
  subst hxs;refine Ag (A5 U U (Ab (Aa (A9 (Am (AF (v:=(.slice _ _ _)) U U U ?_))))));exact Fresh.nil H _ _
 ·intro h1;refine Ax (Aa (Ag (HC U D0 Dm H ?_)));rintro b5 w H O;refine Ap U U (Dt U D0 D0 Dm TU FQ U (by decide) (ds.flatMap DW) U U H O (Np ds) (Vy ds) ((R.ext0 H.ext).app (fun _ _=>rfl) (by omega)) (by omega) ?_);rintro a7 c7 full7 w H O;refine A5 U U (Ab (Aa (A9 (AF (v:=(.slice _ _ _)) U U U ?_))));exact H.fresh O
theorem Rr (d:Du) (w:World):Ret Tryz.prog 158 #[NI d] w fun v w'=>v = .bool d.held∧Ext [] w w':=by
 obtain ⟨w0,rfl⟩:∃ w0,w0=w:=⟨_,rfl⟩;have H:=Ctx.start w0 [];refine A2 (fn:=Tryz.f158) Tryz.func158 U [NI d] U (by kernel_rfl) ?_;refine Ag (Bt U (DW d) (.agg _) U U H ?_);rintro b1 w - H;refine Ai U U (Ab (Aa (Ag (Ah U Za U (AA U Fx U H at0 U (Ai U U (Ab (Aa (A9 (AF (v:=(.bool _)) U U U ?_))))))))));exact ⟨rfl,H.ext⟩
abbrev Aay:Value := .func (.func 158) #[] #[]
/-- The first that is held. -/
structure FstH (ds:List Du) (i:Nat):Prop where
 at':∃ d,ds[i]? = some d∧d.held=true
 fst:∀ (j:Nat) (e:Du),j<i→ds[j]? = some e→e.held=false
set_option maxRecDepth 20000 in
theorem ZE (a:Option Addr) (n c:Nat) (ds:List Du) (w:World) (R:Rd w a 7 DW ds) (hn:ds.length=n) (hn2:n≤1000000) :
  Ret Tryz.prog 186 #[.slice a n c,Aay] w fun v w'=>Ext [] w w'∧((v = .int .i64 (-1)∧∀ d∈ds,d.held=false)∨∃ i:Nat,v = .int .i64 (i:Int)∧FstH ds i):=by
 subst hn;obtain ⟨w0,rfl⟩:∃ w0,w0=w:=⟨_,rfl⟩;have H:=Ctx.start w0 [];refine A2 (fn:=Tryz.f186) Tryz.func186 U [.slice a ds.length c,.func (.func 158) #[] #[]] U (by kernel_rfl) ?_;refine Ag (Ad U U (Ab (Aa (Aq (Ag (Ap U U (AV U D0 U (Ae U U (Ab (Aa (Av ?_)))))))))));refine Bd 524080 (α:=Nat) (fun i=>[(8,.int .i64 (i:Int))]) (fun i w'=>i≤ds.length∧Ctx w0 [] w' []∧∀ (j:Nat) (e:Du),j<i→ds[j]? = some e→e.held=false) (fun i=>ds.length - i) 0 U ?_ ?_ ?_
 ·exact ⟨rfl,trivial⟩
 ·exact ⟨Nat.zero_le _,H,fun j e h=>absurd h (Nat.not_lt_zero _)⟩
 ·clear H;rintro i j w ⟨hi,H,hb⟩;refine Ag (AO U U U (Ab (Aa (Aq (Ay _ U ?_ ?_)))))
  ·intro h1;replace h1:=AG h1;obtain ⟨d,hd2⟩:=AE (l:=ds) (i:=i) (by omega);refine Ax (Aa (Aq (Av (Ag (Ae U U (Ad U U (Ab (Aa (Ag (BP U (.func _ _ _) U ?_))))))))));refine Ap U U (Ae U U (AX R U D0 Dm U U (by omega) (by omega) (by rfl) ?_));refine Cd _ U HK Dm U U ((R.ext0 H.ext).row hd2 U) ?_;refine C0 U U W4 (Rr d _) U ?_;rintro v w ⟨rfl,hx16⟩;replace H:=H.call hx16;refine Ab (Aa (Ay _ U ?_ ?_))
   ·intro h2;refine Ag (Ae U U (Ad U U (Ab (Aa (A9 (AB (Am (Am (AB (Am (AF (v:=(.int _ _)) U U U ?_)))))))))));exact ⟨H.ext,.inr ⟨i,rfl,⟨d,hd2,h2⟩,hb⟩⟩
   ·intro h2;refine Ax (A3 (Aa (Aw (Ao U U U (by omega) (by omega) ?_))));refine Ae U U (Ab (Aa ?_));refine ⟨i+1,rfl,⟨rfl,trivial⟩,⟨by omega,H,fun j e hj he=>?_⟩,by omega⟩
    rcases Nat.lt_or_ge j i with h7 | h7
    ·exact hb j e h7 he
    ·obtain rfl:j=i:=by omega
     rw [hd2] at he;cases he;exact h2
  ·intro h1;replace h1:=AH h1;refine Bc (Aj (Aj (AD (Aa (Ag (Ad U U (Ab (Aa (A9 (AF (v:=(.int _ _)) U U U ?_))))))))));refine ⟨H.ext,.inl ⟨rfl,fun d hd=>?_⟩⟩;obtain ⟨j,hj⟩:=List.mem_iff_getElem?.1 hd;exact hb j d (by have:=CO hj; omega) hj
end Go.Proofs.YtapphbmlkdhnmaaGreat
