/- Part 9 of the proof. -/
import Derived.Test.YtapphbmlkdhnmaaGreatPart2
import Derived.Test.YtapphbmlkdhnmaaGreatPart8
import Derived.Test.YtapphbmlkdhnmaaGreatPart4
import Derived.Test.YtapphbmlkdhnmaaGreatPart5
import Derived.Test.YtapphbmlkdhnmaaGreatPart6
import Derived.Test.YtapphbmlkdhnmaaGreatPart3
import Derived.Test.YtapphbmlkdhnmaaGreatPart7
/- Sorting numbers of 64 bits: slices.Sort. -/
namespace Go.Proofs.YtapphbmlkdhnmaaGreat
open Go.GV
attribute [local irreducible] A1 W Wq Wt

/-- Sorted, once what lies between a' and b' is. -/
structure PQ (f g:Nat→Int) (a b a' b':Nat):Prop where
 ha:a≤a'
 hab:a'≤b'
 hb:b'≤b
 sw:Sw a b f g
 out:∀ x y,a≤x→x<y→y<b→¬ (a'≤x∧y<b')→g x≤g y
 lb:0<a'→∀ x,a'≤x→x<b'→g (a' - 1)≤g x
section
variable {f g g':Nat→Int} {a b a' b':Nat}
theorem PQ.swap (h:PQ f g a b a' b') (s:Sw a' b' g g'):PQ f g' a b a' b':=by
 refine ⟨h.ha,h.hab,h.hb,h.sw.trans (s.mono h.ha h.hb),fun x y hx hxy hy hn=>?_,fun h0 x hx hxb=>?_⟩
 ·by_cases ix:a'≤x∧x<b'
  ·obtain ⟨x2,h1,h2,h3⟩:=s.mem x ix.1 ix.2
   rw [h3,s.out y (.inr (by omega))]
   exact h.out x2 y (Nat.le_trans h.ha h1) (by omega) hy (by omega)
  ·rw [s.out x (by omega)]
   by_cases iy:a'≤y∧y<b'
   ·obtain ⟨y2,h1,h2,h3⟩:=s.mem y iy.1 iy.2
    rw [h3]
    exact h.out x y2 hx (by omega) (Nat.lt_of_lt_of_le h2 h.hb) (by omega)
   ·rw [s.out y (by omega)]
    exact h.out x y hx hxy hy hn
 ·obtain ⟨x2,h1,h2,h3⟩:=s.mem x hx hxb
  rw [h3,s.out (a' - 1) (.inl (by omega))]
  exact h.lb h0 x2 h1 h2
theorem PQ.done (h:PQ f g a b a' b') (s:Ih g a' b'):Ih g a b:=fun x y hx hxy hy=>by
 by_cases hn:a'≤x∧y<b'
 ·exact s x y hn.1 hxy hn.2
 ·exact h.out x y hx hxy hy hn
theorem PQ.eq {i:Nat} (h:PQ f g a b a' b') (h0:0<a') (hle:g a'≤g (a' - 1)) (hi:a'<i) (hi2:i≤b') (h1:∀ x,a'≤x→x<i→g x≤g a') (h2:∀ y,i≤y→y<b'→g a'<g y):PQ f g a b i b':=by
 refine ⟨by have:=h.ha; omega,hi2,h.hb,h.sw,fun x y hx hxy hy hn=>?_,fun _ x hx hxb=>?_⟩
 ·by_cases hin:a'≤x∧y<b'
  ·have hxi:x<i:=by omega
   have hx1:=h1 x hin.1 hxi
   rcases Nat.lt_or_ge y i with h3 | h3
   ·have:=h.lb h0 y (by omega) hin.2
    omega
   ·have:=h2 y h3 hin.2
    omega
  ·exact h.out x y hx hxy hy hin
 ·have e1:=h1 (i - 1) (by omega) (by omega)
  have e2:=h2 x hx hxb
  omega
theorem PartU.sw {mid lo hi:Nat} (p:PartU g a' mid b') (s:Sw lo hi g g') (h:(a'≤lo∧hi≤mid)∨(mid<lo∧hi≤b')):PartU g' a' mid b':=by
 have hm:g' mid=g mid:=s.out mid (by omega)
 refine ⟨fun x hx hxm=>?_,fun y hy hyb=>?_⟩
 ·rw [hm]
  by_cases ix:lo≤x∧x<hi
  ·obtain ⟨x2,h1,h2,h3⟩:=s.mem x ix.1 ix.2
   rw [h3]; exact p.le x2 (by omega) (by omega)
  ·rw [s.out x (by omega)]; exact p.le x hx hxm
 ·rw [hm]
  by_cases iy:lo≤y∧y<hi
  ·obtain ⟨y2,h1,h2,h3⟩:=s.mem y iy.1 iy.2
   rw [h3]; exact p.ge y2 (by omega) (by omega)
  ·rw [s.out y (by omega)]; exact p.ge y hy hyb
theorem PQ.right {mid:Nat} (h:PQ f g a b a' b') (hm1:a'≤mid) (hm2:mid<b') (p:PartU g a' mid b') (s:Ih g a' mid):PQ f g a b (mid+1) b':=by
 refine ⟨by have:=h.ha; omega,by omega,h.hb,h.sw,fun x y hx hxy hy hn=>?_,fun _ x hx hxb=>p.ge x (by omega) hxb⟩
 by_cases hin:a'≤x∧y<b'
 ·rcases Nat.lt_or_ge y mid with h1 | h1
  ·exact s x y hin.1 hxy h1
  ·have hxm:x≤mid:=by omega
   have e1:g x≤g mid:=by
    rcases Nat.lt_or_ge x mid with h2 | h2
    ·exact p.le x hin.1 h2
    ·rw [show x=mid by omega]; exact Int.le_refl _
   rcases Nat.lt_or_ge mid y with h2 | h2
   ·exact Int.le_trans e1 (p.ge y h2 hin.2)
   ·rw [show y=mid by omega]; exact e1
 ·exact h.out x y hx hxy hy hin
theorem PQ.left {mid:Nat} (h:PQ f g a b a' b') (hm1:a'≤mid) (hm2:mid<b') (p:PartU g a' mid b') (s:Ih g (mid+1) b'):PQ f g a b a' mid:=by
 refine ⟨h.ha,hm1,by have:=h.hb; omega,h.sw,fun x y hx hxy hy hn=>?_,fun h0 x hx hxb=>h.lb h0 x hx (by omega)⟩
 by_cases hin:a'≤x∧y<b'
 ·rcases Nat.lt_or_ge mid x with h1 | h1
  ·exact s x y h1 hxy hin.2
  ·have hym:mid≤y:=by omega
   have e1:g x≤g mid:=by
    rcases Nat.lt_or_ge x mid with h2 | h2
    ·exact p.le x hin.1 h2
    ·rw [show x=mid by omega]; exact Int.le_refl _
   rcases Nat.lt_or_ge mid y with h2 | h2
   ·exact Int.le_trans e1 (p.ge y h2 hin.2)
   ·rw [show y=mid by omega]; exact e1
 ·exact h.out x y hx hxy hy hin
end
structure QSt where
 a:Nat
 b:Nat
 lim:Nat
 t8:Bool
 t9:Bool
 g:Nat→Int

set_option maxRecDepth 20000 in
set_option maxHeartbeats 8000000 in
theorem Adi {q n c m:Nat} (hn:n≤m) (hm:n≤1000000000):∀ (Z:Nat) {w:World} {f:Nat→Int} {a b lim:Nat},b - a<Z→w.heap[q]? = some (Bl 24 (Cw f m))→a≤b→b≤n→lim≤1000→(0<a→∀ x,a≤x→x<b→f (a - 1)≤f x) →
  Ret Tryz.prog 174 #[.slice (some ⟨q,0,none⟩) n c,.int .i64 (a:Int),.int .i64 (b:Int),.int .i64 (lim:Int)] w fun v w'=>v = .tuple #[]∧∃ g,Sw a b f g∧Ih g a b∧Ctx w [q] w' [(q,Bl 24 (Cw g m))]:=by
 intro Z
 induction Z with
 | zero=>intro w f a b lim h; omega
 | succ Z ih =>
 intro w f a b lim hZ hd hab hb hlim hLB
 obtain ⟨w0,rfl⟩:∃ w0,w0=w:=⟨_,rfl⟩
 have H:=Ctx.start1 hd
 refine A0 (fn:=Tryz.f174) Tryz.func174 rfl [.slice (some ⟨q,0,none⟩) n c,.int .i64 (a:Int),.int .i64 (b:Int),.int .i64 (lim:Int)] rfl (by kernel_rfl) ?_
 refine Af (Ai rfl rfl (Ab (Aa (Af (Ai rfl rfl (Ab (Aa (Av (Bm 21778071482940061661655974875633165532942 (α:=QSt) (fun t=>[(1,.int .i64 (t.a:Int)),(2,.int .i64 (t.b:Int)),(3,.int .i64 (t.lim:Int)),(8,.bool t.t8),(9,.bool t.t9)]) (fun t w'=>t.lim≤1000∧PQ f t.g a b t.a t.b∧Ctx w0 [q] w' [(q,Bl 24 (Cw t.g m))]) (fun t=>t.b - t.a) ⟨a,b,lim,true,true,f⟩ rfl ?_ ?_ ?_)))))))))
 ·exact ⟨rfl,rfl,rfl,rfl,rfl,trivial⟩
 ·exact ⟨hlim,⟨Nat.le_refl _,hab,Nat.le_refl _,.refl _,fun x y h1 h2 h3 h4=>absurd ⟨h1,h3⟩ h4,hLB⟩,H⟩
 ·rintro ⟨a',b',lim,t8,t9,g⟩ j0 w ⟨hlim,P,H⟩; dsimp only at hlim P H; dsimp only
  have hP1:=P.ha
  have hP2:=P.hab
  have hP3:=P.hb
  refine Av (Af (Ad rfl rfl (Ad rfl rfl (Bc rfl rfl rfl (by omega) (by omega) ?_))))
  refine Ae rfl rfl (Ab (Aa (Aq (Af (Ad rfl rfl (Jz rfl rfl rfl (Ab (Aa (Ax _ rfl ?_ ?_)))))))))
  ·intro h1
   replace h1:=AE h1
   refine Af (Ak rfl rfl (Ad rfl rfl (Ad rfl rfl (Al rfl Wo (Pq (a:=a') (b:=b') (H.get at0) hP2 (by omega) hn hm) rfl ?_))))
   rintro rv w ⟨rfl,g2,s2,o2,H2⟩
   replace H:=Ctx.back (L1:=[_]) (L2:=[]) H H2
   refine Ab (Aa (A9 (Am (A7 (Am (A7 (EN rfl rfl ?_)))))))
   exact ⟨rfl,g2,(P.swap s2).sw,(P.swap s2).done o2,H⟩
  ·intro h1
   replace h1:=AF h1
   refine Aw (Aa (Aq (Af (Ad rfl rfl (Cg rfl rfl rfl (Ab (Aa (Ax _ rfl ?_ ?_))))))))
   ·intro h2
    replace h2:=AE h2
    refine Af (Ak rfl rfl (Ad rfl rfl (Ad rfl rfl (Al rfl Aca (QE (a:=a') (b:=b') (H.get at0) (by omega) (by omega) hn hm) rfl ?_))))
    rintro rv w ⟨rfl,g2,s2,o2,H2⟩
    replace H:=Ctx.back (L1:=[_]) (L2:=[]) H H2
    refine Ab (Aa (A9 (Am (A7 (Am (A7 (EN rfl rfl ?_)))))))
    exact ⟨rfl,g2,(P.swap s2).sw,(P.swap s2).done o2,H⟩
   ·intro h2
    replace h2:=AF h2
    refine Aw (Aa (Aq (Af (Ay rfl rfl (Bv rfl rfl (Ab (Aa (Ea 4329327034376 (α:=Nat × (Nat→Int)) (fun t=>[(3,.int .i64 (t.1:Int))]) (fun t w'=>t.1≤1000∧PQ f t.2 a b a' b'∧Ctx w0 [q] w' [(q,Bl 24 (Cw t.2 m))]) rfl ?_ ?_))))))))
    ·skip
     refine Ax _ rfl ?_ ?_
     ·intro h3
      replace h3:=B0 h3
      refine Af (Ak rfl rfl (Ad rfl rfl (Ad rfl rfl (Al rfl Acb (Xl (a:=a') (b:=b') (H.get at0) (by omega) (by omega) hn hm) rfl ?_))))
      rintro rv w ⟨rfl,g2,s2,H2⟩
      replace H:=Ctx.back (L1:=[_]) (L2:=[]) H H2
      refine Ab (Aa (Ap (Ad rfl rfl (Bc rfl rfl rfl (by omega) (by omega) ?_))))
      refine Ae rfl rfl (Ab (Aa ?_))
      exact ⟨(lim - 1,g2),rfl,⟨congrArg (Value.int .i64) (by dsimp only; omega),trivial⟩,by dsimp only; omega,P.swap s2,H⟩
     ·intro h3
      replace h3:=B1 h3
      refine Aw (Aa ?_)
      exact ⟨(lim,g),rfl,⟨rfl,trivial⟩,hlim,P,H⟩
    ·rintro ⟨lim,g⟩ j1 w ⟨hlim,P,H⟩; dsimp only at hlim P H; dsimp only
     refine Af (Ak rfl rfl (Ad rfl rfl (Ad rfl rfl (Al rfl Acc (Xj (a:=a') (b:=b') (H.get at0) (by omega) (by omega) hn hm) rfl ?_))))
     rintro rv w ⟨p,hint,hp1,hp2,rfl,hx46⟩
     replace H:=H.call hx46
     refine BK rfl rfl (A5 rfl rfl rfl (A5 rfl rfl rfl (Ae rfl rfl (Ae rfl rfl (Ab (Aa (Aq (Af (Ad rfl rfl (Cg rfl rfl rfl ?_))))))))))
     refine Ab (Aa (Ea 2303591209400014848 (α:=Nat × Int × (Nat→Int)) (fun t=>[(11,.int .i64 (t.1:Int)),(12,.int .i64 t.2.1)]) (fun t w'=>a'≤t.1∧t.1<b'∧PQ f t.2.2 a b a' b'∧Ctx w0 [q] w' [(q,Bl 24 (Cw t.2.2 m))]) rfl ?_ ?_))
     ·skip
      refine Ax _ rfl ?_ ?_
      ·intro h4
       replace h4:=AE h4
       refine Af (Ak rfl rfl (Ad rfl rfl (Ad rfl rfl (Al rfl Acd (S5 (a:=a') (b:=b') (H.get at0) (by omega) (by omega) hn hm) rfl ?_))))
       rintro rv w ⟨rfl,g2,s2,H2⟩
       replace H:=Ctx.back (L1:=[_]) (L2:=[]) H H2
       refine Ab (Aa (Af (Ad rfl rfl (Bc rfl rfl rfl (by omega) (by omega) ?_))))
       refine Ad rfl rfl (Ad rfl rfl (Bc rfl rfl rfl (by omega) (by omega) ?_))
       refine Bc rfl rfl rfl (by omega) (by omega) ?_
       refine Ae rfl rfl (Ab (Aa (Ap (Ae rfl rfl (Ab (Aa ?_))))))
       exact ⟨(b' - 1 - (p - a'),1,g2),rfl,⟨congrArg (Value.int .i64) (by dsimp only; omega),rfl,trivial⟩,by dsimp only; omega,by dsimp only; omega,P.swap s2,H⟩
      ·intro h4
       replace h4:=AF h4
       refine Aw (Aa ?_)
       exact ⟨(p,hint,g),rfl,⟨rfl,rfl,trivial⟩,hp1,hp2,P,H⟩
     ·rintro ⟨p,hint,g⟩ j2 w ⟨hp1,hp2,P,H⟩; dsimp only at hp1 hp2 P H; dsimp only
      refine Aq (Dl 587989967349491957760 (α:=Bool) (fun t=>[(68,.bool t)]) (fun _ w'=>Ctx w0 [q] w' [(q,Bl 24 (Cw g m))]) rfl ?_ ?_)
      ·skip
       refine Ap (Ay rfl rfl (Ay rfl rfl (AH 62 rfl ?_ ?_)))
       ·intro h1
        refine Ay rfl rfl (A3 rfl rfl (.bool _) rfl (Ay rfl rfl (AH 65 rfl ?_ ?_)))
        ·intro h2
         refine Ad rfl rfl (Cg rfl rfl rfl (A3 rfl rfl (.bool _) rfl (Ab (Aa ?_))))
         exact ⟨_,rfl,⟨rfl,trivial⟩,H⟩
        ·intro h3
         refine Ag rfl (Ag rfl (AA rfl rfl (.bool _) rfl (Ab (Aa ?_))))
         exact ⟨_,rfl,⟨rfl,trivial⟩,H⟩
       ·intro h4
        refine Ag rfl (AA rfl rfl (.bool _) rfl (Ay rfl rfl (Ag rfl (Ag rfl (AA rfl rfl (.bool _) rfl (Ab (Aa ?_)))))))
        exact ⟨_,rfl,⟨rfl,trivial⟩,H⟩
      ·rintro t68 j3 w H
       refine Ea 8854437155380584775680 (α:=Nat→Int) (fun _=>[]) (fun g w'=>PQ f g a b a' b'∧Ctx w0 [q] w' [(q,Bl 24 (Cw g m))]) rfl ?_ ?_
       ·skip
        refine Ax _ rfl ?_ ?_
        ·intro h5
         refine Af (Ak rfl rfl (Ad rfl rfl (Ad rfl rfl (Al rfl Ace (S6 (a:=a') (b:=b') (H.get at0) (by omega) (by omega) hn hm P.lb) rfl ?_))))
         rintro rv w ⟨t72,g2,rfl,s2,o2,H2⟩
         replace H:=Ctx.back (L1:=[_]) (L2:=[]) H H2
         refine Ab (Aa (Ax _ rfl ?_ ?_))
         ·intro h6
          refine A9 (Am (A7 (Am (A7 (EN rfl rfl ?_)))))
          exact ⟨rfl,g2,(P.swap s2).sw,(P.swap s2).done (o2 h6),H⟩
         ·intro h6
          refine Aw (Aa ?_)
          exact ⟨g2,rfl,trivial,P.swap s2,H⟩
        ·intro h5
         refine Aw (Aa ?_)
         exact ⟨g,rfl,trivial,P,H⟩
       ·rintro g j4 w ⟨P,H⟩
        have hP1:=P.ha
        have hP3:=P.hb
        have e1:((a':Int) - 1).toNat=a' - 1:=by omega
        refine Aq (Dl 309475565088379329434353664 (α:=Unit) (fun _=>[(87,.bool (decide (0<a'∧¬ g (a' - 1)<g p)))]) (fun _ w'=>Ctx w0 [q] w' [(q,Bl 24 (Cw g m))]) rfl ?_ ?_)
        ·skip
         refine FW 12 Bz (by kernel_rfl) rfl rfl ?_
         refine AR rfl rfl (ZK rfl rfl rfl (Df rfl rfl (Da 75 rfl ?_ ?_)))
         ·intro h5
          replace h5:=AE h5
          refine Cn rfl rfl (AR rfl rfl (Dw rfl rfl rfl (by omega) (by omega) ?_))
          refine AK rfl Bd AZ rfl rfl (by omega) (by omega) ?_
          refine Cd rfl BD rfl (by rintro _ rfl; exact ((Cl (H.drew.get at0) (by omega)))) ?_
          refine Cn rfl rfl (AR rfl rfl (AK rfl Bd AZ rfl rfl (by omega) (by omega) ?_))
          refine Cd rfl BD rfl (by rintro _ rfl; exact ((Cl (H.drew.get at0) (by omega)))) ?_
          refine BW ?_
          replace H:=H.drew
          refine Al rfl Fl (Et _ _ _) rfl ?_
          rintro v w ⟨rfl,rfl⟩
          rw [e1,Int.toNat_natCast]
          refine Bv rfl rfl (A3 rfl rfl (.bool _) rfl (Ab (Aa ?_)))
          exact ⟨(),rfl,⟨congrArg Value.bool (by clear P ih hLB; rw [Bool.eq_iff_iff]; simp_all; try omega),trivial⟩,H⟩
         ·intro h6
          replace h6:=AF h6
          refine Au rfl (Au rfl (Au rfl (Au rfl (Au rfl (Au rfl (Au rfl (Au rfl (Au rfl (BW ?_)))))))))
          replace H:=H.drew
          refine Ag rfl (Ag rfl (AA rfl rfl (.bool _) rfl (Ab (Aa ?_))))
          exact ⟨(),rfl,⟨congrArg Value.bool (by clear P ih hLB; rw [Bool.eq_iff_iff]; simp_all; try omega),trivial⟩,H⟩
        ·rintro - j5 w H
         refine Ax _ rfl ?_ ?_
         ·intro h7
          have h7:=of_decide_eq_true h7
          refine Af (Ak rfl rfl (Ad rfl rfl (Ad rfl rfl (Ad rfl rfl (Al rfl Acf (UU (a:=a') (b:=b') (p:=p) (H.get at0) (by omega) (by omega) hn hm ⟨hp1,hp2⟩) rfl ?_)))))
          rintro rv w ⟨i,g2,rfl,s2,hi1,hi2,hga,o1,o2,H2⟩
          replace H:=Ctx.back (L1:=[_]) (L2:=[]) H H2
          refine Ae rfl rfl (Ab (Aa (Af (Ad rfl rfl (Ae rfl rfl (Ab (Aa (Bh (Aj (AB (Aa ?_)))))))))))
          have P2:=P.swap s2
          have hout:=s2.out (a' - 1) (.inl (by omega))
          exact ⟨⟨i,b',lim,t8,t9,g2⟩,rfl,⟨rfl,rfl,rfl,rfl,rfl,trivial⟩,⟨hlim,P2.eq h7.1 (by rw [hga,hout]; omega) hi1 hi2 o1 o2,H⟩,by dsimp only; omega⟩
         ·intro h7
          refine Aw (Aa (Af (Ak rfl rfl (Ad rfl rfl (Ad rfl rfl (Ad rfl rfl (Al rfl Acg (Pr (a:=a') (b:=b') (p:=p) (H.get at0) (by omega) (by omega) hn hm ⟨hp1,hp2⟩) rfl ?_)))))))
          rintro rv w ⟨mid,t,g2,rfl,s2,hm1,hm2,PP,H2⟩
          replace H:=Ctx.back (L1:=[_]) (L2:=[]) H H2
          refine BK rfl rfl (A5 rfl rfl rfl (A5 rfl rfl rfl (Ae rfl rfl (Ai rfl rfl (Ab (Aa ?_))))))
          have P2:=P.swap s2
          refine Af (Ay rfl rfl (Ai rfl rfl (Ab (Aa (Af (Ad rfl rfl (Ad rfl rfl (Bc rfl rfl rfl (by omega) (by omega) ?_))))))))
          refine Ad rfl rfl (Ad rfl rfl (Bc rfl rfl rfl (by omega) (by omega) ?_))
          refine Ae rfl rfl (Ae rfl rfl (Ab (Aa (Af (Ad rfl rfl (Ip rfl rfl rfl (by omega) (by omega) (show _≤(9223372036854775807:Int) by omega) ?_))))))
          refine Ae rfl rfl (Ab (Aa (Af (Ad rfl rfl (Ad rfl rfl (AV rfl rfl rfl (Ab (Aa (Ax _ rfl ?_ ?_)))))))))
          ·intro h8
           replace h8:=AE h8
           refine Af (Ad rfl rfl (Ad rfl rfl (CK rfl rfl rfl (Ai rfl rfl (Ab (Aa (Af (Ak rfl rfl (Ad rfl rfl (Ad rfl rfl ?_))))))))))
           refine Ad rfl rfl (Al rfl OX (ih (a:=a') (b:=mid) (lim:=lim) (f:=g2) (by omega) (H.get at0) hm1 (by omega) hlim (fun h0 x hx hxb=>P2.lb h0 x hx (by omega))) rfl ?_)
           rintro rv w ⟨rfl,g3,s3,o3,H2⟩
           replace H:=Ctx.back (L1:=[_]) (L2:=[]) H H2
           refine Ab (Aa (Ap (Ad rfl rfl (Ao rfl rfl rfl (by omega) (by omega) ?_))))
           refine Ae rfl rfl (Ab (A2 (Aa ?_)))
           have P3:=P2.swap (s3.mono (Nat.le_refl _) (by omega))
           exact ⟨⟨mid+1,b',lim,_,t,g3⟩,rfl,⟨rfl,rfl,rfl,rfl,rfl,trivial⟩,⟨hlim,P3.right hm1 hm2 (PartU.sw PP s3 (.inl ⟨Nat.le_refl _,Nat.le_refl _⟩)) o3,H⟩,by dsimp only; omega⟩
          ·intro h8
           replace h8:=AF h8
           refine Af (Ad rfl rfl (Ad rfl rfl (CK rfl rfl rfl (Ai rfl rfl (Ab (Aa (Af (Ak rfl rfl (Ad rfl rfl (Ao rfl rfl rfl (by omega) (by omega) ?_))))))))))
           rw [show (mid:Int)+1=((mid+1:Nat):Int) by omega]
           refine Ad rfl rfl (Ad rfl rfl (Al rfl OX (ih (a:=mid+1) (b:=b') (lim:=lim) (f:=g2) (by omega) (H.get at0) (by omega) (by omega) hlim (fun _ x hx hxb=>PP.ge x (by omega) hxb)) rfl ?_))
           rintro rv w ⟨rfl,g3,s3,o3,H2⟩
           replace H:=Ctx.back (L1:=[_]) (L2:=[]) H H2
           refine Ab (Aa (Ap (Ad rfl rfl (Ae rfl rfl (Ab (A2 (Aa ?_)))))))
           have P3:=P2.swap (s3.mono (by omega) (Nat.le_refl _))
           have P4:=P3.left hm1 hm2 (PartU.sw PP s3 (.inr ⟨by omega,Nat.le_refl _⟩)) o3
           exact ⟨⟨a',mid,lim,_,t,g3⟩,rfl,⟨rfl,rfl,rfl,rfl,rfl,trivial⟩,⟨hlim,P4,H⟩,by show mid - a'<b' - a'; omega⟩

set_option maxRecDepth 20000 in
theorem Xm {q n c m:Nat} {w:World} {f:Nat→Int} (hd:w.heap[q]? = some (Bl 24 (Cw f m))) (hn:n≤m) (hm:n≤1000000000) :
  Ret Tryz.prog 122 #[.slice (some ⟨q,0,none⟩) n c] w fun v w'=>v = .tuple #[]∧∃ g,(tab g n).Perm (tab f n)∧Ih g 0 n∧Ctx w [q] w' [(q,Bl 24 (Cw g m))]:=by
 obtain ⟨w0,rfl⟩:∃ w0,w0=w:=⟨_,rfl⟩
 refine A0 (fn:=Tryz.f122) Tryz.func122 rfl [.slice (some ⟨q,0,none⟩) n c] rfl (by kernel_rfl) ?_
 refine Af (Ak rfl rfl (Be rfl Bd rfl (Ae rfl rfl (Ab (Aa (Ap (Ak rfl rfl (Ad rfl rfl (Ad rfl rfl (DB rfl rfl GW T6 (by omega) (by omega) ?_))))))))))
 refine Al rfl Sg (S7 n (by omega) _) rfl ?_
 rintro v w ⟨r,rfl,h1,h2,h3,rfl⟩
 refine Al rfl OX (Adi hn hm (n+1) (a:=0) (b:=n) (lim:=r) (by omega) hd (Nat.zero_le _) (Nat.le_refl _) (by omega) (fun h=>absurd h (Nat.lt_irrefl _))) rfl ?_
 rintro rv w ⟨rfl,g,s,o,H⟩
 refine Ab (CG rfl rfl ?_)
 exact ⟨rfl,g,s.perm (Nat.le_refl _),o,H⟩
theorem S8 (c:Nat) (w:World):Ret Tryz.prog 122 #[.slice none 0 c] w fun v w'=>v = .tuple #[]∧w=w':=by
 have ins:∀ w,Ret Tryz.prog 200 #[.slice none 0 c,.int .i64 0,.int .i64 0] w fun v w'=>v = .tuple #[]∧w=w':=fun w=>by
  refine A0 (fn:=Tryz.f200) Tryz.func200 rfl [.slice none 0 c,.int .i64 0,.int .i64 0] rfl (by kernel_rfl) ?_
  refine Af (Ad rfl rfl (Ao rfl rfl rfl (by omega) (by omega) ?_))
  refine Ae rfl rfl (Ab (Aa (Av (Bm 562949953420480 (α:=Unit) (fun _=>[(6,.int .i64 1)]) (fun _ w'=>w=w') (fun _=>0) () rfl ?_ ?_ ?_))))
  ·exact ⟨rfl,trivial⟩
  ·rfl
  ·rintro - j0 w rfl
   refine Aq (Af (Ad rfl rfl (Ad rfl rfl (AV rfl rfl rfl (Ab (Aa (Ax _ rfl ?_ ?_)))))))
   ·intro h1
    replace h1:=AE h1
    omega
   ·intro h1
    replace h1:=AF h1
    refine Bh (Aj (Aj (AB (CG rfl rfl ?_))))
    exact ⟨rfl,rfl⟩
 have pdq:∀ (r:Nat) (w:World),Ret Tryz.prog 174 #[.slice none 0 c,.int .i64 0,.int .i64 0,.int .i64 (r:Int)] w fun v w'=>v = .tuple #[]∧w=w':=fun r w=>by
  refine A0 (fn:=Tryz.f174) Tryz.func174 rfl [.slice none 0 c,.int .i64 0,.int .i64 0,.int .i64 (r:Int)] rfl (by kernel_rfl) ?_
  refine Af (Ai rfl rfl (Ab (Aa (Af (Ai rfl rfl (Ab (Aa (Av (Bm 21778071482940061661655974875633165532942 (α:=Unit) (fun _=>[(1,.int .i64 0),(2,.int .i64 0),(3,.int .i64 (r:Int)),(8,.bool true),(9,.bool true)]) (fun _ w'=>w=w') (fun _=>0) () rfl ?_ ?_ ?_)))))))))
  ·exact ⟨rfl,rfl,rfl,rfl,rfl,trivial⟩
  ·rfl
  ·rintro - j0 w rfl
   refine Av (Af (Ad rfl rfl (Ad rfl rfl (Bc rfl rfl rfl (by omega) (by omega) ?_))))
   refine Ae rfl rfl (Ab (Aa (Aq (Af (Ad rfl rfl (Jz rfl rfl rfl (Ab (Aa (Ax _ rfl ?_ ?_)))))))))
   ·intro h1
    replace h1:=AE h1
    refine Af (Ak rfl rfl (Ad rfl rfl (Ad rfl rfl (Al rfl Wo (ins _) rfl ?_))))
    rintro v w ⟨rfl,rfl⟩
    refine Ab (Aa (A9 (Am (A7 (Am (A7 (EN rfl rfl ?_)))))))
    exact ⟨rfl,rfl⟩
   ·intro h1
    replace h1:=AF h1
    omega
 refine A0 (fn:=Tryz.f122) Tryz.func122 rfl [.slice none 0 c] rfl (by kernel_rfl) ?_
 refine Af (Ak rfl rfl (Be rfl Bd rfl (Ae rfl rfl (Ab (Aa (Ap (Ak rfl rfl (Ad rfl rfl (Ad rfl rfl (DB rfl rfl GW T6 (by omega) (by omega) ?_))))))))))
 refine Al rfl Sg (S7 0 (by omega) _) rfl ?_
 rintro v w ⟨r,rfl,h1,h2,h3,rfl⟩
 refine Al rfl OX (pdq r _) rfl ?_
 rintro v w ⟨rfl,rfl⟩
 refine Ab (CG rfl rfl ?_)
 exact ⟨rfl,rfl⟩

end Go.Proofs.YtapphbmlkdhnmaaGreat

/- Money: the walks. -/
namespace Go.Proofs.YtapphbmlkdhnmaaGreat
open Go.GV
attribute [local irreducible] A1 W Wq Wt

def EF (x:Int):Bool:=decide (0≤x) && decide (x≤4503599627370496)
theorem S9 (x:Int) (w:World):Ret Tryz.prog 109 #[.int .i64 x] w fun v w'=>v = .bool (EF x)∧w=w':=by
 obtain ⟨w0,rfl⟩:∃ w0,w0=w:=⟨_,rfl⟩
 refine A0 (fn:=Tryz.f109) Tryz.func109 rfl [.int .i64 x] rfl (by kernel_rfl) ?_
 refine Af (Ai rfl rfl (Ab (Aa (Af (Ad rfl rfl (CK rfl rfl rfl (Ay rfl rfl (AH 5 rfl ?_ ?_))))))))
 ·intro h1
  replace h1:=AE h1
  refine Ad rfl rfl (Jz rfl rfl rfl (A3 rfl rfl (.bool _) rfl (Ai rfl rfl (Ab (Aa (A9 (AC (v:=(.bool _)) rfl rfl rfl ?_)))))))
  exact ⟨congrArg Value.bool (by unfold EF; rw [Bool.eq_iff_iff]; simp_all; try omega),rfl⟩
 ·intro h2
  replace h2:=AF h2
  refine Ag rfl (Ag rfl (AA rfl rfl (.bool _) rfl (Ai rfl rfl (Ab (Aa (A9 (AC (v:=(.bool _)) rfl rfl rfl ?_)))))))
  exact ⟨congrArg Value.bool (by unfold EF; rw [Bool.eq_iff_iff]; simp_all; try omega),rfl⟩
set_option maxRecDepth 20000 in
theorem UV (a:Option Addr) (n c:Nat) (xs:List Int) (w:World) (R:Rd w a 1 I1 xs) (hn:xs.length=n) (hn2:n≤1000000) :
  Ret Tryz.prog 160 #[.slice a n c] w fun v w'=>v = .bool (xs.all EF)∧w=w':=by
 subst hn
 obtain ⟨w0,rfl⟩:∃ w0,w0=w:=⟨_,rfl⟩
 refine A0 (fn:=Tryz.f160) Tryz.func160 rfl [.slice a xs.length c] rfl (by kernel_rfl) ?_
 refine Af (Ai rfl rfl (Ab (Aa (Aq (Af (Ak rfl rfl (Be rfl AX rfl (Ad rfl rfl (Ab (Aa (Av ?_)))))))))))
 refine Bm 32660 (α:=Nat) (fun i=>[(7,.int .i64 (i:Int))]) (fun i w'=>i≤xs.length∧w0=w'∧∀ (k:Nat) (x:Int),k<i→xs[k]? = some x→EF x=true) (fun i=>xs.length - i) 0 rfl ?_ ?_ ?_
 ·exact ⟨rfl,trivial⟩
 ·exact ⟨Nat.zero_le _,rfl,fun k x h=>absurd h (Nat.not_lt_zero _)⟩
 ·rintro i j w ⟨hi,rfl,hb⟩
  refine Af (AV rfl rfl rfl (Ab (Aa (Aq (Ax _ rfl ?_ ?_)))))
  ·intro h1
   replace h1:=AE h1
   obtain ⟨x,hx⟩:=A4 (l:=xs) (i:=i) (by omega)
   refine Aw (Aa (Aq (Av (Af (Ba R rfl AX Bw rfl rfl (by omega) (by omega) (by rfl) ?_)))))
   refine AY rfl B9 rfl ((R.fld hx rfl (j:=0) rfl)) ?_
   refine Ae rfl rfl (Ab (Aa (Af (Ad rfl rfl (Al rfl Sd (S9 x _) rfl ?_)))))
   rintro v w ⟨rfl,rfl⟩
   refine Bv rfl rfl (Ab (Aa (Ax _ rfl ?_ ?_)))
   ·intro h2
    replace h2:=B0 h2
    refine Af (Ai rfl rfl (Ab (Aa (A9 (A7 (Am (Am (A7 (Am (AC (v:=(.bool _)) rfl rfl rfl ?_))))))))))
    refine ⟨congrArg Value.bool ?_,rfl⟩
    exact (EY hx (show EF x=false by simpa using h2)).symm
   ·intro h2
    replace h2:=B1 h2
    refine Aw (A2 (Aa (Ap (Ao rfl rfl rfl (by omega) (by omega) ?_))))
    refine Ad rfl rfl (Ab (Aa ?_))
    refine ⟨i+1,rfl,⟨rfl,trivial⟩,⟨by omega,rfl,fun k y hk hy=>?_⟩,by omega⟩
    rcases Nat.lt_or_ge k i with h7 | h7
    ·exact hb k y h7 hy
    ·obtain rfl:k=i:=by omega
     rw [hx] at hy
     cases hy
     simpa using h2
  ·intro h1
   replace h1:=AF h1
   refine Bh (Aj (Aj (AB (Aa (Af (Ai rfl rfl (Ab (Aa (A9 (AC (v:=(.bool _)) rfl rfl rfl ?_))))))))))
   exact ⟨congrArg Value.bool (G2 fun k x hk hx=>hb k x (by omega) hx).symm,rfl⟩
/-! ### The sum -/
def D6 (xs:List Int):Int:=xs.foldl (·+·) 0
theorem UW (xs:List Int):∀ a:Int,xs.foldl (·+·) a=a+D6 xs:=by
 induction xs with
 | nil=>intro a; show a=a+0; omega
 | cons x xs ih =>
  intro a
  show xs.foldl (·+·) (a+x)=a+xs.foldl (·+·) (0+x)
  rw [ih,ih (0+x)]; omega
theorem KN {xs:List Int} {i:Nat} {x:Int} (h:xs[i]? = some x):D6 (xs.take (i+1))=D6 (xs.take i)+x:=by
 rw [List.take_add_one,h]
 unfold D6
 rw [List.foldl_append]; rfl
theorem DA (x:Int) (xs:List Int):D6 (x::xs)=x+D6 xs:=by
 show xs.foldl (·+·) (0+x)=_
 rw [UW]; omega
theorem Ls (xs ys:List Int):D6 (xs++ys)=D6 xs+D6 ys:=by
 induction xs with
 | nil=>show D6 ys=0+_; omega
 | cons x xs ih=>rw [List.cons_append,DA,DA,ih]; omega
theorem UX {xs ys:List Int} (h:xs.Perm ys):D6 xs=D6 ys:=by
 induction h with
 | nil=>rfl
 | cons x _ ih=>rw [DA,DA,ih]
 | swap x y l=>rw [DA,DA,DA,DA]; omega
 | trans _ _ h1 h2=>exact h1.trans h2
theorem I7 {xs:List Int} (h:∀ x∈xs,0≤x):0≤D6 xs:=by
 induction xs with
 | nil=>exact Int.le_refl _
 | cons x xs ih =>
  rw [DA]
  have:=h x (List.mem_cons_self ..)
  have:=ih fun y hy=>h y (List.mem_cons_of_mem _ hy)
  omega
/-- What Sum answers: the total, and a code. -/
def Hs (xs:List Int):Int × Int:=if xs.all EF=false then (0,1) else if D6 xs≤4503599627370496 then (D6 xs,0) else (0,13)
theorem Ey {x:Int}:EF x=true↔0≤x∧x≤4503599627370496:=by unfold EF; simp
set_option maxRecDepth 20000 in
set_option maxHeartbeats 2000000 in
theorem TS (a:Option Addr) (n c:Nat) (xs:List Int) (w:World) (R:Rd w a 1 I1 xs) (hn:xs.length=n) (hn2:n≤1000000) :
  Ret Tryz.prog 110 #[.slice a n c] w fun v w'=>v = .tuple #[.int .i64 (Hs xs).1,.int .i64 (Hs xs).2]∧w=w':=by
 subst hn
 obtain ⟨w0,rfl⟩:∃ w0,w0=w:=⟨_,rfl⟩
 refine A0 (fn:=Tryz.f110) Tryz.func110 rfl [.slice a xs.length c] rfl (by kernel_rfl) ?_
 refine Af (Ae rfl rfl (Ae rfl rfl (Ab (Aa (Aq (Af (Ak rfl rfl (Al rfl Abn (UV a xs.length c xs _ R rfl hn2) rfl ?_))))))))
 rintro v w ⟨rfl,rfl⟩
 refine Bv rfl rfl (Ab (Aa (Ax _ rfl ?_ ?_)))
 ·intro h1
  replace h1:=B0 h1
  refine Af (Ae rfl rfl (Ae rfl rfl (Ab (Aa (A9 (Am (DE (v1:=(.int _ _)) (v2:=(.int _ _)) rfl rfl rfl rfl ?_)))))))
  have h1':xs.all EF=false:=by simpa using h1
  exact ⟨by unfold Hs; rw [if_pos h1'],rfl⟩
 ·intro h1
  replace h1:=B1 h1
  have h1':xs.all EF=true:=by simpa using h1
  have hall:∀ (k:Nat) (x:Int),xs[k]? = some x→0≤x∧x≤4503599627370496:=fun k x hx=>Ey.1 (List.all_eq_true.1 h1' x (List.mem_of_getElem? hx))
  have hpos:∀ x∈xs,0≤x:=fun x hx=>(Ey.1 (List.all_eq_true.1 h1' x hx)).1
  refine Aw (Aa (Af (Ae rfl rfl (Ab (Aa (Aq (Af (Ak rfl rfl (Be rfl AX rfl (Ad rfl rfl (Ab (Aa ?_))))))))))))
  refine Av (Bm 8384604 (α:=Nat) (fun i=>[(4,.int .i64 (D6 (xs.take i))),(12,.int .i64 (i:Int))]) (fun i w'=>i≤xs.length∧w0=w'∧D6 (xs.take i)≤4503599627370496) (fun i=>xs.length - i) 0 rfl ?_ ?_ ?_)
  ·exact ⟨rfl,rfl,trivial⟩
  ·exact ⟨Nat.zero_le _,rfl,by show (0:Int)≤_; omega⟩
  ·rintro i j w ⟨hi,rfl,hb⟩
   have hs0:0≤D6 (xs.take i):=I7 fun y hy=>hpos y (List.mem_of_mem_take hy)
   refine Af (AV rfl rfl rfl (Ab (Aa (Aq (Ax _ rfl ?_ ?_)))))
   ·intro h2
    replace h2:=AE h2
    obtain ⟨x,hx⟩:=A4 (l:=xs) (i:=i) (by omega)
    obtain ⟨hx0,hx1⟩:=hall i x hx
    have hst:=KN hx
    refine Aw (Aa (Aq (Av (Af (Ba R rfl AX Bw rfl rfl (by omega) (by omega) (by rfl) ?_)))))
    refine AY rfl B9 rfl ((R.fld hx rfl (j:=0) rfl)) ?_
    refine Ae rfl rfl (Ab (Aa (Af (Ad rfl rfl (Ad rfl rfl (Ao rfl rfl rfl (by omega) (by omega) ?_))))))
    rw [← hst]
    refine Ae rfl rfl (Ab (Aa (Af (Ad rfl rfl (Al rfl Sd (S9 (D6 (xs.take (i+1))) _) rfl ?_)))))
    rintro v w ⟨rfl,rfl⟩
    refine Bv rfl rfl (Ab (Aa (Ax _ rfl ?_ ?_)))
    ·intro h3
     replace h3:=B0 h3
     refine Af (Ae rfl rfl (Ae rfl rfl (Ab (Aa (A9 (A7 (Am (Am (A7 (Am (DE (v1:=(.int _ _)) (v2:=(.int _ _)) rfl rfl rfl rfl ?_)))))))))))
     have h4:EF (D6 (xs.take (i+1)))=false:=by simpa using h3
     have h5:¬ D6 (xs.take (i+1))≤4503599627370496:=fun h=>by
      rw [Ey.2 ⟨by omega,h⟩] at h4; cases h4
     have h6:D6 xs=D6 (xs.take (i+1))+D6 (xs.drop (i+1)):=by rw [← Ls,List.take_append_drop]
     have h7:=I7 (xs:=xs.drop (i+1)) fun y hy=>hpos y (List.mem_of_mem_drop hy)
     exact ⟨by unfold Hs; rw [if_neg (by rw [h1']; decide),if_neg (by omega)],rfl⟩
    ·intro h3
     replace h3:=B1 h3
     refine Aw (A2 (Aa (Ap (Ao rfl rfl rfl (by omega) (by omega) ?_))))
     refine Ad rfl rfl (Ab (Aa ?_))
     have h4:EF (D6 (xs.take (i+1)))=true:=by simpa using h3
     exact ⟨i+1,rfl,⟨rfl,rfl,trivial⟩,⟨by omega,rfl,(Ey.1 h4).2⟩,by omega⟩
   ·intro h2
    replace h2:=AF h2
    refine Bh (Aj (Aj (AB (Aa (Af (Ad rfl rfl (Ae rfl rfl (Ae rfl rfl (Ab (Aa (A9 (DE (v1:=(.int _ _)) (v2:=(.int _ _)) rfl rfl rfl rfl ?_))))))))))))
    obtain rfl:i=xs.length:=by omega
    rw [List.take_length] at hb ⊢
    exact ⟨by unfold Hs; rw [if_neg (by rw [h1']; decide),if_pos hb],rfl⟩
end Go.Proofs.YtapphbmlkdhnmaaGreat

/- Money: sums that come to nothing, shifts. -/
namespace Go.Proofs.YtapphbmlkdhnmaaGreat
open Go.GV
attribute [local irreducible] A1 W Wq Wt

section
variable {P:Program} {r:Option Nat} {ops rest:List Oper} {Q:Exit→Env→World→Prop} {e:Env} {w:World} {dst:Option Tmp} {ty:TypeId} {pos:String} {af:Array Edge} {g:Option (Nat × Bool)}
end
def Xn (x:Int):Bool:=decide (-4503599627370496≤x) && decide (x≤4503599627370496)
def evenM (xs:List Int):Bool:=xs.all Xn && decide (D6 xs=0)
/-! ### Shift -/
def SA (xs ys:List Int):List Int:=List.zipWith (·+·) xs ys
/-- Its code. -/
def Xo (xs ys:List Int):Int :=
 if (decide (xs.length=ys.length) && (xs.all EF && evenM ys))=false then 1 else if (SA xs ys).all (fun x=>decide (0≤x))=false then 12 else if (SA xs ys).all EF=false then 13 else 0
end Go.Proofs.YtapphbmlkdhnmaaGreat

/- Keys of the dues' map, in whatever order. -/
namespace Go.Proofs.YtapphbmlkdhnmaaGreat
open Go.GV
attribute [local irreducible] A1 W Wq Wt

structure DueK (b2 b:Nat) (o:Obj) (w:World):Prop where
 h2:w.heap[b2]? = some (Bl 121 [.map (some b)])
 hb:w.heap[b]? = some o
def keySt (m:List (Int × Value)) (vis:List (Int × Value)) (v:List Value) (vis':List (Int × Value)):Prop:=∃ p,vis'=vis++[p]∧v=[.int .u64 p.1]∧p∈m∧vis.length<m.length
end Go.Proofs.YtapphbmlkdhnmaaGreat

/- The keys of the dues' map: gathered, sorted. -/
namespace Go.Proofs.YtapphbmlkdhnmaaGreat
open Go.GV
attribute [local irreducible] A1 W Wq Wt

def EP (x:Int):Value := .int .u64 x
/-- A slice of numbers of 64 bits that the call has made. -/
structure FreshU (w w':World) (v:Value) (l:List Int):Prop where
 ex:∃ a n c full,v = .slice a n c∧OS a n c 1 full (l.map EP)∧(∀ x∈full,∃ z,x=EP z)∧∀ x∈ent a 24 full,w'.heap[x.1]? = some x.2∧w.heap.size≤x.1
 ext:Ext [] w w'
def keysF (bk:Nat):Value := .func (.func 123) #[] #[ptr bk]
/-- What the rounds leave. -/
def appJ (w0:World) (bk b bb k:Nat) (o:Obj) (vis:List (Int × Value)) (M:Mt) (w:World):Prop :=
 ∃ a c full,(M=fun y=>y∈((bb,Bl 25 [.slice a vis.length c])::ent a 24 full).map (·.1))∧Ctx w0 [] w ((bb,Bl 25 [.slice a vis.length c])::ent a 24 full) ∧
  OS a vis.length c 1 full (vis.map fun p=>EP p.1)∧(∀ x∈full,∃ z,x=EP z)∧DueK bk b o w∧∀ y∈((bb,Bl 25 [.slice a vis.length c])::ent a 24 full).map (·.1),y≠k∧y≠k+1
end Go.Proofs.YtapphbmlkdhnmaaGreat

/- The keys of the dues' map, sorted; the dues' amounts. -/
namespace Go.Proofs.YtapphbmlkdhnmaaGreat
open Go.GV
attribute [local irreducible] A1 W Wq Wt

theorem Xp {x y:Int} (h:EP x=EP y):x=y:=by unfold EP at h; injection h
theorem Ps:∀ (l:List Value),(∀ x∈l,∃ z,x=EP z)→∃ zs:List Int,l=zs.map EP
 | [],_=>⟨[],rfl⟩
 | x::l,h=>by
  obtain ⟨z,rfl⟩:=h x (List.mem_cons_self ..)
  obtain ⟨zs,rfl⟩:=Ps l fun y hy=>h y (List.mem_cons_of_mem _ hy)
  exact ⟨z::zs,rfl⟩
theorem KO:∀ {l m:List Int},l.map EP=m.map EP→l=m
 | [],[],_=>rfl
 | [],_::_,h=>by cases h
 | _::_,[],h=>by cases h
 | x::l,y::m,h=>by
  simp only [List.map_cons,List.cons.injEq] at h
  rw [Xp h.1,KO h.2]
theorem Ki (f:Nat→Int) (n:Nat):Cw f n=(tab f n).map EP:=by unfold tab; rw [List.map_map]; rfl
theorem QF (f:Nat→Int) {n m:Nat} (h:n≤m):(tab f m).take n=tab f n:=by
 unfold tab
 rw [← List.map_take,List.take_range,Nat.min_eq_left h]
theorem Adj {g:Nat→Int} {n:Nat} (h:Ih g 0 n):(tab g n).Pairwise (·≤·):=by
 rw [List.pairwise_iff_getElem]
 intro i j hi hj hij
 rw [Cy] at hi hj
 have h1:=B4 (f:=g) hi
 have h2:=B4 (f:=g) hj
 rw [List.getElem?_eq_getElem (by rw [Cy]; exact hi)] at h1
 rw [List.getElem?_eq_getElem (by rw [Cy]; exact hj)] at h2
 injection h1 with h1
 injection h2 with h2
 rw [h1,h2]
 exact h i j (Nat.zero_le _) hij hj
theorem sortF {a:Option Addr} {n c:Nat} {full:List Value} {l:List Int} (w:World) (O:OS a n c 1 full (l.map EP)) (Z:∀ x∈full,∃ z,x=EP z) (hb:∀ x∈ent a 24 full,w.heap[x.1]? = some x.2) (hn:n≤1000000000) :
  Ret Tryz.prog 122 #[.slice a n c] w fun v w'=>v = .tuple #[]∧∃ (full':List Value) (l':List Int),l'.Perm l∧l'.Pairwise (·≤·)∧OS a n c 1 full' (l'.map EP)∧(∀ x∈full',∃ z,x=EP z)∧(∀ x∈ent a 24 full',w'.heap[x.1]? = some x.2)∧Ext ((ent a 24 full).map (·.1)) w w':=by
 cases a with
 | none =>
  obtain rfl:n=0:=by have:=O.none' rfl; have:=O.le; omega
  have hl:l=[]:=by have:=O.llen; rw [List.length_map] at this; exact List.eq_nil_of_length_eq_zero (by omega)
  subst hl
  refine Ret.mono (S8 c w) ?_
  rintro v w' ⟨rfl,rfl⟩
  exact ⟨rfl,full,[],List.Perm.refl _,.nil,O,Z,hb,Ext.refl _ _⟩
 | some p =>
  have hp:=O.zero p rfl
  obtain ⟨q,o,sp⟩:=p
  simp only [Addr.mk.injEq,true_and] at hp
  obtain ⟨rfl,rfl⟩:=hp
  obtain ⟨zs,rfl⟩:=Ps full Z
  have hlen:=O.len
  rw [List.length_map,Nat.mul_one] at hlen
  have hpre:=O.pre
  rw [Nat.mul_one,← List.map_take] at hpre
  have hpre:=KO hpre
  have hzs:tab (fun i=>zs.getD i 0) c=zs:=by rw [← hlen]; exact Su zs
  have hb0:w.heap[q]? = some (Bl 24 (Cw (fun i=>zs.getD i 0) c)):=by
   rw [Ki,hzs]
   exact hb (q,Bl 24 (zs.map EP)) (List.mem_singleton.2 rfl)
  refine Ret.mono (Xm (c:=c) hb0 O.le hn) ?_
  rintro v w' ⟨rfl,g,hP,hS,H⟩
  have hS0:((ent (some ⟨q,0,none⟩) 24 (zs.map EP)).map (·.1))=[q]:=by simp [ent]
  refine ⟨rfl,Cw g c,tab g n,?_,Adj hS,⟨O.zero,O.none',by simp,O.le,?_⟩,fun x hx=>?_,fun x hx=>?_,by rw [hS0]; exact H.ext⟩
  ·rw [← QF (fun i=>zs.getD i 0) O.le,hzs,hpre] at hP
   exact hP
  ·rw [Nat.mul_one,Ki,← List.map_take,QF g O.le]
  ·rw [Ki,List.mem_map] at hx
   obtain ⟨z,_,rfl⟩:=hx
   exact ⟨z,rfl⟩
  ·simp only [ent,List.mem_singleton] at hx
   subst hx
   exact H.get at0
end Go.Proofs.YtapphbmlkdhnmaaGreat

/- The dues: amounts. -/
namespace Go.Proofs.YtapphbmlkdhnmaaGreat
open Go.GV
attribute [local irreducible] A1 W Wq Wt

structure Du where
 id:Int
 fr:Int
 to:Int
 am:Int
 we:Int
 un:Int
 held:Bool
instance:DecidableEq Du:=fun x y=>if h:x.id=y.id∧x.fr=y.fr∧x.to=y.to∧x.am=y.am∧x.we=y.we∧x.un=y.un∧x.held=y.held then isTrue (by cases x; cases y; simp_all) else isFalse fun e=>h (by subst e; exact ⟨rfl,rfl,rfl,rfl,rfl,rfl,rfl⟩)
abbrev CP (d:Du):List Value:=[.int .u64 d.id,.int .i64 d.fr,.int .i64 d.to,.int .i64 d.am,.int .i64 d.we,.int .i64 d.un,.bool d.held]
abbrev Ns (d:Du):Value := .agg #[.int .u64 d.id,.int .i64 d.fr,.int .i64 d.to,.int .i64 d.am,.int .i64 d.we,.int .i64 d.un,.bool d.held]
theorem Ez (d:Du):∀ v∈CP d,Bu v=true:=by simp [CP,Bu]
def dm (ds:List Du):List (Int × Value):=ds.map fun d=>(d.id,Ns d)
theorem Adk {ds:List Du} {p:Int × Value} (h:p∈dm ds):∃ d∈ds,p=(d.id,Ns d):=by
 obtain ⟨d,hd,rfl⟩:=List.mem_map.1 h
 exact ⟨d,hd,rfl⟩
def amV (p:Int × Value):Int:=match p.2 with
 | .agg vs=>match vs.toList with | [_,_,_,.int _ x,_,_,_]=>x | _=>0
 | _=>0
theorem Adl (ds:List Du):(dm ds).map amV=ds.map (·.am):=by unfold dm; rw [List.map_map]; rfl
abbrev DU (b:Nat) (nx:Int):List Value:=[.map (some b),.int .u64 nx]
structure VSt where
 vis:List (Int × Value)
 it:Obj
 a:Option Addr
 c:Nat
 full:List Value
set_option maxRecDepth 20000 in
set_option maxHeartbeats 2000000 in
theorem SB {bd b:Nat} {nx:Int} {o:Obj} {ds:List Du} (w:World) (hd:w.heap[bd]? = some (Bl 123 (DU b nx))) (hb:w.heap[b]? = some o) (hM:J2 .u64 (dm ds) o) (hn:ds.length≤1000000) :
  Ret Tryz.prog 113 #[ptr bd] w fun v w'=>∃ l:List Int,l.Perm (ds.map (·.am))∧Fresh w w' 2 1 v (l.map J9):=by
 obtain ⟨w0,rfl⟩:∃ w0,w0=w:=⟨_,rfl⟩
 have H:=Ctx.start w0 []
 have hdl:(dm ds).length=ds.length:=by unfold dm; rw [List.length_map]
 refine A0 (fn:=Tryz.f113) Tryz.func113 rfl [.pointer (some ⟨bd,0,none⟩)] rfl (by kernel_rfl) ?_
 refine Af (A6 rfl rfl (Ab (Aa (Af (A6 rfl rfl (Ab (Aa (Aq (Af (Bi rfl rfl (Bb rfl rfl ?_)))))))))))
 refine Ah rfl Qv rfl (AY rfl VX rfl ((by rw [An hd]; rfl)) ?_)
 refine VR rfl W4 rfl H hb hM ?_
 rintro bi it w hV H
 refine Ab (Aa (Av (Bm 1046568 (α:=VSt) (fun t=>[(3,.slice t.a t.vis.length t.c)]) (fun t w'=>VisO .u64 b (dm ds) t.vis o t.it∧OS t.a t.vis.length t.c 1 t.full ((t.vis.map amV).map J9)∧Ctx w0 [] w' ((bi,t.it)::ent t.a 2 t.full)) (fun t=>(dm ds).length - t.vis.length) ⟨[],it,none,0,[]⟩ rfl ?_ ?_ ?_)))
 ·exact ⟨rfl,trivial⟩
 ·exact ⟨hV,OS.nil,H⟩
 ·rintro ⟨vis,it,a,c,full⟩ j w ⟨hV,O,H⟩; dsimp only at hV O H; dsimp only
  refine Af (Y9 rfl (fun _=>rfl) rfl H (H.ext.to hb (by simp)) at0 hV ?_)
  rintro vs more it' w hc H1
  clear H
  have H:Ctx w0 [] w ((bi,it')::ent a 2 full):=H1
  clear H1
  skip
  refine Ab (Aa (Aq (Ax _ rfl ?_ ?_)))
  ·intro h1
   obtain ⟨p,hV'⟩:∃ p,VisO .u64 b (dm ds) (vis++[p]) o it':=hc.elim (fun h=>by rw [h.1] at h1; cases h1) fun h=>h.2
   obtain ⟨d,hd2,rfl⟩:=Adk (hV'.mem p (by simp))
   have hle:=hV'.le
   rw [hdl] at hle
   have hl1:(vis++[(d.id,Ns d)]).length=vis.length+1:=by rw [List.length_append]; rfl
   rw [hl1] at hle
   refine Aw (Aa (Av (Af (U8 rfl rfl H (H.ext.to hb (by simp)) at0 hV' ?_))))
   refine A5 rfl rfl rfl (Bo rfl Fp H ?_)
   rintro b5 w - H
   refine BP rfl CA rfl rfl rfl (by exact Ez _) H at0 rfl ?_
   rintro w H
   refine Ab (Aa (Ap (Ak rfl rfl (Ah rfl JX rfl (AM rfl B9 rfl H at0 rfl (Db _ (.int _ _) rfl AX Bw FX rfl (by decide) (by decide) rfl rfl rfl H ?_))))))
   rintro b18 w - H
   refine Dc (L:=[_,_]) rfl AX AX Bw Mu FX rfl (by decide) rfl rfl H O rfl (by simp [Bu]) (by omega) ?_
   rintro a' c' full' w H O
   refine A6 rfl rfl (Ab (A2 (Aa ?_)))
   exact ⟨⟨vis++[(d.id,Ns d)],it',a',c',full'⟩,rfl,⟨by dsimp only; rw [hl1]; rfl,trivial⟩,⟨hV',by dsimp only; rw [hl1,List.map_append,List.map_append]; exact O,H.tail⟩,by dsimp only; rw [hl1,hdl]; omega⟩
  ·intro h1
   obtain ⟨hp,rfl⟩:vis.Perm (dm ds)∧it'=it:=hc.elim (fun h=>h.2) fun h=>by rw [h.1] at h1; cases h1
   refine Bh (Aj (Aj (AB (Aa (Af (Ak rfl rfl (A6 rfl rfl (Ab (Aa (A9 (AC (v:=(.slice _ _ _)) rfl rfl rfl ?_)))))))))))
   refine ⟨vis.map amV,?_,Ctx.fresh (L:=[_]) H O⟩
   rw [← Adl]
   exact hp.map _
end Go.Proofs.YtapphbmlkdhnmaaGreat

/- The dues, listed. -/
namespace Go.Proofs.YtapphbmlkdhnmaaGreat
open Go.GV
attribute [local irreducible] A1 W Wq Wt

def d00:Du:=⟨0,0,0,0,0,0,false⟩
def lookD (ds:List Du) (k:Int):Du:=(ds.find? fun d=>d.id == k).getD d00
/-- The dues, by their numbers. -/
def SortD (ds' ds:List Du):Prop:=ds'.Perm ds∧(ds'.map (·.id)).Pairwise (·<·)
end Go.Proofs.YtapphbmlkdhnmaaGreat

/- The dues: which may be. -/
namespace Go.Proofs.YtapphbmlkdhnmaaGreat
open Go.GV
attribute [local irreducible] A1 W Wq Wt

def ML (x:Int):Bool:=decide (0≤x) && decide (x<16)
theorem QG (x:Int) (w:World):Ret Tryz.prog 161 #[.int .i64 x] w fun v w'=>v = .bool (ML x)∧w=w':=by
 obtain ⟨w0,rfl⟩:∃ w0,w0=w:=⟨_,rfl⟩
 refine A0 (fn:=Tryz.f161) Tryz.func161 rfl [.int .i64 x] rfl (by kernel_rfl) ?_
 refine Af (Ai rfl rfl (Ab (Aa (Af (Ad rfl rfl (CK rfl rfl rfl (Ay rfl rfl (AH 5 rfl ?_ ?_))))))))
 ·intro h1
  replace h1:=AE h1
  refine Ad rfl rfl (AV rfl rfl rfl (A3 rfl rfl (.bool _) rfl (Ai rfl rfl (Ab (Aa (A9 (AC (v:=(.bool _)) rfl rfl rfl ?_)))))))
  exact ⟨congrArg Value.bool (by unfold ML; rw [Bool.eq_iff_iff]; simp_all; try omega),rfl⟩
 ·intro h2
  replace h2:=AF h2
  refine Ag rfl (Ag rfl (AA rfl rfl (.bool _) rfl (Ai rfl rfl (Ab (Aa (A9 (AC (v:=(.bool _)) rfl rfl rfl ?_)))))))
  exact ⟨congrArg Value.bool (by unfold ML; rw [Bool.eq_iff_iff]; simp_all; try omega),rfl⟩
def EG (d:Du):Bool:=(ML d.fr && (ML d.to && !decide (d.fr=d.to))) && (decide (1≤d.am) && (EF d.am && (decide (1≤d.we) && (decide (d.we≤1000) && decide (0≤d.un)))))
set_option maxRecDepth 20000 in
set_option maxHeartbeats 2000000 in
theorem Zq (d:Du) (w:World):Ret Tryz.prog 112 #[Ns d] w fun v w'=>v = .bool (EG d)∧Ext [] w w':=by
 obtain ⟨w0,rfl⟩:∃ w0,w0=w:=⟨_,rfl⟩
 have H:=Ctx.start w0 []
 refine A0 (fn:=Tryz.f112) Tryz.func112 rfl [Ns d] rfl (by kernel_rfl) ?_
 refine Af (B2 rfl (CP d) (.agg _) rfl rfl H ?_)
 rintro b1 w - H
 refine Ai rfl rfl (Ab (Aa (Aq (Av (Aq (Af (Ah rfl JV rfl (AM rfl BS rfl H at0 rfl (Al rfl Wi (QG d.fr _) rfl ?_)))))))))
 rintro v w ⟨rfl,rfl⟩
 refine Bv rfl rfl (Ai rfl rfl (Ab (Aa (CV 3 rfl ?_ ?_))))
 ·intro h1
  replace h1:=B0 h1
  refine Aw (Aa (CI rfl (Af (Ai rfl rfl (Ab (Aa (A9 (A7 (Am (AC (v:=(.bool _)) rfl rfl rfl ?_))))))))))
  exact ⟨congrArg Value.bool (by unfold EG; rw [Bool.eq_iff_iff]; simp_all; try omega),H.ext⟩
 ·intro h2
  replace h2:=B1 h2
  refine Af (Ah rfl JW rfl (AM rfl BS rfl H at0 rfl (Al rfl Wi (QG d.to _) rfl ?_)))
  rintro v w ⟨rfl,rfl⟩
  refine Bv rfl rfl (Ai rfl rfl (Ab (Aa (CV 3 rfl ?_ ?_))))
  ·intro h3
   replace h3:=B0 h3
   refine Aw (Aa (CI rfl (Af (Ai rfl rfl (Ab (Aa (A9 (A7 (Am (AC (v:=(.bool _)) rfl rfl rfl ?_))))))))))
   exact ⟨congrArg Value.bool (by unfold EG; rw [Bool.eq_iff_iff]; simp_all; try omega),H.ext⟩
  ·intro h4
   replace h4:=B1 h4
   refine Ap (Ah rfl JV rfl (AM rfl BS rfl H at0 rfl (Ah rfl JW rfl (AM rfl BS rfl H at0 rfl (Cg rfl rfl rfl (Ai rfl rfl (Ab (Aa (CV 3 rfl ?_ ?_)))))))))
   ·intro h5
    replace h5:=AE h5
    refine Af (Ai rfl rfl (Ab (Aa (A9 (A7 (Am (AC (v:=(.bool _)) rfl rfl rfl ?_)))))))
    exact ⟨congrArg Value.bool (by unfold EG; rw [Bool.eq_iff_iff]; simp_all; try omega),H.ext⟩
   ·intro h6
    replace h6:=AF h6
    refine Aq (Af (Ah rfl JX rfl (AM rfl B9 rfl H at0 rfl (AV rfl rfl rfl (Ai rfl rfl (Ab (Aa (CV 17 rfl ?_ ?_))))))))
    ·intro h7
     replace h7:=AE h7
     refine Aw (Aa (CI rfl (Af (Ai rfl rfl (Ab (Aa (A9 (A7 (Am (AC (v:=(.bool _)) rfl rfl rfl ?_))))))))))
     exact ⟨congrArg Value.bool (by unfold EG; rw [Bool.eq_iff_iff]; simp_all; try omega),H.ext⟩
    ·intro h8
     replace h8:=AF h8
     refine Af (Ah rfl JX rfl (AM rfl B9 rfl H at0 rfl (Al rfl Sd (S9 d.am _) rfl ?_)))
     rintro v w ⟨rfl,rfl⟩
     refine Bv rfl rfl (Ai rfl rfl (Ab (Aa (CV 17 rfl ?_ ?_))))
     ·intro h9
      replace h9:=B0 h9
      refine Aw (Aa (CI rfl (Af (Ai rfl rfl (Ab (Aa (A9 (A7 (Am (AC (v:=(.bool _)) rfl rfl rfl ?_))))))))))
      exact ⟨congrArg Value.bool (by unfold EG; rw [Bool.eq_iff_iff]; simp_all; try omega),H.ext⟩
     ·intro h10
      replace h10:=B1 h10
      refine Af (Ah rfl LC rfl (AM rfl B9 rfl H at0 rfl (AV rfl rfl rfl (Ai rfl rfl (Ab (Aa (CV 17 rfl ?_ ?_)))))))
      ·intro h11
       replace h11:=AE h11
       refine Aw (Aa (CI rfl (Af (Ai rfl rfl (Ab (Aa (A9 (A7 (Am (AC (v:=(.bool _)) rfl rfl rfl ?_))))))))))
       exact ⟨congrArg Value.bool (by unfold EG; rw [Bool.eq_iff_iff]; simp_all; try omega),H.ext⟩
      ·intro h12
       replace h12:=AF h12
       refine Af (Ah rfl LC rfl (AM rfl B9 rfl H at0 rfl (C4 rfl rfl rfl (Ai rfl rfl (Ab (Aa (CV 17 rfl ?_ ?_)))))))
       ·intro h13
        replace h13:=AE h13
        refine Aw (Aa (CI rfl (Af (Ai rfl rfl (Ab (Aa (A9 (A7 (Am (AC (v:=(.bool _)) rfl rfl rfl ?_))))))))))
        exact ⟨congrArg Value.bool (by unfold EG; rw [Bool.eq_iff_iff]; simp_all; try omega),H.ext⟩
       ·intro h14
        replace h14:=AF h14
        refine Ap (Ah rfl YG rfl (AM rfl B9 rfl H at0 rfl (AV rfl rfl rfl (Ai rfl rfl (Ab (Aa (CV 17 rfl ?_ ?_)))))))
        ·intro h15
         replace h15:=AE h15
         refine Af (Ai rfl rfl (Ab (Aa (A9 (A7 (Am (AC (v:=(.bool _)) rfl rfl rfl ?_)))))))
         exact ⟨congrArg Value.bool (by unfold EG; rw [Bool.eq_iff_iff]; simp_all; try omega),H.ext⟩
        ·intro h16
         replace h16:=AF h16
         refine Aw (A2 (Aa (Af (Ai rfl rfl (Ab (Aa (A9 (AC (v:=(.bool _)) rfl rfl rfl ?_))))))))
         exact ⟨congrArg Value.bool (by unfold EG; rw [Bool.eq_iff_iff]; simp_all; try omega),H.ext⟩
end Go.Proofs.YtapphbmlkdhnmaaGreat

/- The dues: Of. -/
namespace Go.Proofs.YtapphbmlkdhnmaaGreat
open Go.GV
attribute [local irreducible] A1 W Wq Wt

/-- Dues by their numbers, each of which may be. -/
def Jk (nx:Int):Int→List Du→Bool
 | _,[]=>true
 | ah,d::ds=>(EG d && (decide (ah<d.id) && decide (d.id<nx))) && Jk nx d.id ds
def I8 (ah:Int):List Du→Int
 | []=>ah
 | d::ds=>I8 d.id ds
theorem I9 (nx:Int):∀ (ah:Int) (ds es:List Du),Jk nx ah (ds++es)=(Jk nx ah ds && Jk nx (I8 ah ds) es)
 | _,[],_=>rfl
 | ah,d::ds,es=>by simp only [List.cons_append,Jk,I8,I9 nx d.id ds es,Bool.and_assoc]
theorem Nt (ah:Int) (ds:List Du) (d:Du):I8 ah (ds++[d])=d.id:=by
 induction ds generalizing ah with
 | nil=>rfl
 | cons x ds ih=>exact ih x.id
theorem Xq {nx:Int}:∀ {ah:Int} {ds:List Du},Jk nx ah ds=true→(∀ d∈ds,ah<d.id∧d.id≤I8 ah ds∧d.id<nx∧EG d=true)∧(ds.map (·.id)).Pairwise (·<·)∧ah≤I8 ah ds
 | _,[],_=>⟨fun _ h=>(by cases h),List.Pairwise.nil,Int.le_refl _⟩
 | ah,x::ds,h=>by
  simp only [Jk,Bool.and_eq_true,decide_eq_true_eq] at h
  obtain ⟨⟨hm,h1,h2⟩,h3⟩:=h
  obtain ⟨i1,i2,i3⟩:=Xq h3
  refine ⟨fun d hd=>?_,?_,?_⟩
  ·rcases List.mem_cons.1 hd with rfl | hd
   ·exact ⟨h1,i3,h2,hm⟩
   ·obtain ⟨a,b,c,e⟩:=i1 d hd
    exact ⟨by omega,b,c,e⟩
  ·rw [List.map_cons,List.pairwise_cons]
   refine ⟨fun k hk=>?_,i2⟩
   obtain ⟨d,hd,rfl⟩:=List.mem_map.1 hk
   exact (i1 d hd).1
  ·show ah≤I8 x.id ds
   omega
/-- Of's code. -/
def ofC (ds:List Du) (nx:Int):Int :=
 if 64<ds.length then 6 else if (decide (1≤nx) && decide (nx≤4611686018427387904))=false then 1 else if Jk nx 0 ds=false then 1 else (Hs (ds.map (·.am))).2
theorem UY {xs ys:List Int} (h:xs.Perm ys):Hs xs=Hs ys:=by
 have h1:xs.all EF=ys.all EF:=by
  rw [Bool.eq_iff_iff,List.all_eq_true,List.all_eq_true]
  exact ⟨fun g x hx=>g x (h.mem_iff.2 hx),fun g x hx=>g x (h.mem_iff.1 hx)⟩
 unfold Hs
 rw [h1,UX h]
theorem UZ {ds:List Du} {k:Int} (h:∀ d∈ds,d.id≠k):Gu (dm ds) k=none:=by
 induction ds with
 | nil=>rfl
 | cons x ds ih =>
  unfold dm Gu at ih ⊢
  rw [List.map_cons,List.find?_cons,show (x.id == k)=false by simpa using h x (List.mem_cons_self ..)]
  exact ih fun d hd=>h d (List.mem_cons_of_mem _ hd)
theorem Adm (ds:List Du) (d:Du):dm ds++[(d.id,Ns d)]=dm (ds++[d]):=by unfold dm; rw [List.map_append]; rfl
theorem Xr {w:World} {b:Nat} {t:TypeId} {l:List Value} (h:w.heap[b]? = some (Bl t l)):∀ j v,l[j]? = some v→w.cell? ⟨b,0+j,none⟩=some v:=fun j v hv=>by rw [An h,Nat.zero_add]; exact hv
structure OSt where
 i:Nat
 ah:Int
 o:Obj
set_option maxRecDepth 20000 in
set_option maxHeartbeats 4000000 in
theorem Adn (a:Option Addr) (n c:Nat) (ds:List Du) (nx:Int) (w:World) (R:Rd w a 7 CP ds) (hn:ds.length=n) (hn2:n≤1000000000) (hnx:0≤nx∧nx<18446744073709551616) (hid:∀ d∈ds,0≤d.id∧d.id<18446744073709551616) :
  Ret Tryz.prog 57 #[.slice a n c,.int .u64 nx] w fun v w'=>∃ p,v = .tuple #[p,.int .i64 (ofC ds nx)]∧(ofC ds nx≠0→p = .pointer none)∧(ofC ds nx=0→∃ bd b o,p=ptr bd∧w'.heap[bd]? = some (Bl 123 (DU b nx))∧w'.heap[b]? = some o∧J2 .u64 (dm ds) o∧w.heap.size≤bd∧w.heap.size≤b∧bd≠b)∧Ext [] w w':=by
 subst hn
 obtain ⟨w0,rfl⟩:∃ w0,w0=w:=⟨_,rfl⟩
 have H:=Ctx.start w0 []
 refine A0 (fn:=Tryz.f57) Tryz.func57 rfl [.slice a ds.length c,.int .u64 nx] rfl (by kernel_rfl) ?_
 refine Af (Dm rfl rfl (Ae rfl rfl (Ab (Aa (Aq (Af (Ak rfl rfl (Be rfl CC rfl (C4 rfl rfl rfl (Ab (Aa ?_)))))))))))
 refine Ax _ rfl ?_ ?_
 ·intro h1
  replace h1:=AE h1
  refine Af (Dm rfl rfl (Ae rfl rfl (Ab (Aa (A9 (Am (DE (v1:=(.pointer _)) (v2:=(.int _ _)) rfl rfl rfl rfl ?_)))))))
  have h1':ofC ds nx=6:=by unfold ofC; rw [if_pos (by omega)]
  exact ⟨_,by rw [h1'],fun _=>rfl,(fun h=>by omega),H.ext⟩
 ·intro h1
  replace h1:=AF h1
  have h1':¬ 64<ds.length:=by omega
  refine Aw (Aa (Aq (Af (Ct (α:=Unit) 2064384 (fun _=>[(20,.bool (!(decide (1≤nx) && decide (nx≤4611686018427387904))))]) (fun _ w'=>w'=w0) rfl ?_ ?_))))
  ·refine Ad rfl rfl (AV rfl rfl rfl (Ay rfl rfl (AH 17 rfl ?_ ?_)))
   ·intro h1
    replace h1:=AE h1
    refine Ag rfl (Ag rfl (A3 rfl rfl (.bool _) rfl (Ab ?_)))
    exact ⟨rfl,(),rfl,⟨congrArg Value.bool (by rw [Bool.eq_iff_iff]; simp_all; try omega),trivial⟩,rfl⟩
   ·intro h2
    replace h2:=AF h2
    refine Ad rfl rfl (C4 rfl rfl rfl (AA rfl rfl (.bool _) rfl (Ab ?_)))
    exact ⟨rfl,(),rfl,⟨congrArg Value.bool (by rw [Bool.eq_iff_iff]; simp_all; try omega),trivial⟩,rfl⟩
  rintro - j20 w hw
  subst w
  refine Ax _ rfl ?_ ?_
  ·intro h2
   replace h2:=B0 h2
   refine Af (Dm rfl rfl (Ae rfl rfl (Ab (Aa (A9 (Am (DE (v1:=(.pointer _)) (v2:=(.int _ _)) rfl rfl rfl rfl ?_)))))))
   have h2':ofC ds nx=1:=by unfold ofC; rw [if_neg h1',if_pos (by simpa using h2)]
   exact ⟨_,by rw [h2'],fun _=>rfl,(fun h=>by omega),H.ext⟩
  ·intro h2
   replace h2:=B1 h2
   have h2':(decide (1≤nx) && decide (nx≤4611686018427387904))=true:=by simpa using h2
   have h2n:¬ (decide (1≤nx) && decide (nx≤4611686018427387904))=false:=by rw [h2']; decide
   refine Aw (Aa (Af (LZ .u64 rfl H ?_)))
   rintro b o w hM H
   refine Ad rfl rfl (C7 (DU b nx) rfl Acq Ac1 (by kernel_rfl) ?_)
   refine B2 rfl (DU b nx) (.agg _) rfl rfl H ?_
   rintro b24 w - H
   refine Dm rfl rfl (Ab (Aa (Af (Ae rfl rfl (Ab (Aa (Aq (Af (Ak rfl rfl (Be rfl CC rfl (Ad rfl rfl ?_)))))))))))
   refine Ab (Aa (Av (Bm 288230376017494704 (α:=OSt) (fun t=>[(7,.int .u64 t.ah),(27,.int .i64 (t.i:Int))]) (fun t w'=>t.i≤ds.length∧t.ah=I8 0 (ds.take t.i)∧Jk nx 0 (ds.take t.i)=true∧J2 .u64 (dm (ds.take t.i)) t.o∧Ctx w0 [] w' [(b24,Bl 123 (DU b nx)),(b,t.o)]) (fun t=>ds.length - t.i) ⟨0,0,o⟩ rfl ?_ ?_ ?_)))
   ·exact ⟨rfl,rfl,trivial⟩
   ·exact ⟨Nat.zero_le _,rfl,rfl,hM,H⟩
   ·rintro ⟨i,ah,o⟩ j w ⟨hi,hah,has,hM,H⟩; dsimp only at hi hah has hM H; dsimp only
    refine Af (AV rfl rfl rfl (Ab (Aa (Aq (Ax _ rfl ?_ ?_)))))
    ·intro h3
     replace h3:=AE h3
     obtain ⟨d,hd⟩:=A4 (l:=ds) (i:=i) (by omega)
     have hdi:=hid d (List.mem_of_getElem? hd)
     have htk:ds.take (i+1)=ds.take i++[d]:=by rw [List.take_add_one,hd]; rfl
     have hasc:Jk nx 0 (ds.take (i+1))=(EG d && (decide (ah<d.id) && decide (d.id<nx))):=by
      rw [htk,I9,has,Bool.true_and,← hah]
      show (_ && Jk nx d.id [])=_
      show (_ && true)=_
      rw [Bool.and_true]
     refine Aw (Aa (Aq (Av (Af (Ba R rfl CC CA rfl rfl (by omega) (by omega) (by rfl) ?_)))))
     refine Cx _ rfl GJ CA rfl rfl ((R.ext0 H.ext).row hd rfl) ?_
     refine Bo rfl Fp H ?_
     rintro b9 w - H
     refine BP rfl CA rfl rfl rfl (by exact Ez _) H at0 rfl ?_
     rintro w H
     refine Ab (Aa (Aq (Af (Ct (α:=Unit) 70366596694016 (fun _=>[(45,.bool (!(EG d && (decide (ah<d.id) && decide (d.id<nx)))))]) (fun _ w'=>Ctx w0 [] w' [(b9,Bl 62 (CP d)),(b24,Bl 123 (DU b nx)),(b,o)]) rfl ?_ ?_))))
     ·refine Bq rfl GJ CA rfl H at0 rfl (Al rfl Aa1 (Zq d _) rfl ?_)
      rintro v w ⟨rfl,hx32⟩
      replace H:=H.call hx32
      refine Bv rfl rfl (Ay rfl rfl (AH 34 rfl ?_ ?_))
      ·intro h3
       replace h3:=B0 h3
       refine Ag rfl (Ag rfl (Ag rfl (Ag rfl (A3 rfl rfl (.bool _) rfl (Ay rfl rfl (Ag rfl (Ag rfl (Ag rfl (Ag rfl ?_)))))))))
       refine A3 rfl rfl (.bool _) rfl (Ab ?_)
       exact ⟨rfl,(),rfl,⟨congrArg Value.bool (by clear hasc; rw [Bool.eq_iff_iff]; simp_all; try omega),trivial⟩,H⟩
      ·intro h4
       replace h4:=B1 h4
       refine Ah rfl IZ rfl (AM rfl BD rfl H at0 rfl (Ad rfl rfl (Jz rfl rfl rfl (AA rfl rfl (.bool _) rfl (Ay rfl rfl (AH 40 rfl ?_ ?_))))))
       ·intro h5
        replace h5:=AE h5
        refine Ag rfl (Ag rfl (Ag rfl (Ag rfl (A3 rfl rfl (.bool _) rfl (Ab ?_)))))
        exact ⟨rfl,(),rfl,⟨congrArg Value.bool (by clear hasc; rw [Bool.eq_iff_iff]; simp_all; try omega),trivial⟩,H⟩
       ·intro h6
        replace h6:=AF h6
        refine Ah rfl IZ rfl (AM rfl BD rfl H at0 rfl (Ad rfl rfl (CK rfl rfl rfl (AA rfl rfl (.bool _) rfl (Ab ?_)))))
        exact ⟨rfl,(),rfl,⟨congrArg Value.bool (by clear hasc; rw [Bool.eq_iff_iff]; simp_all; try omega),trivial⟩,H⟩
     rintro - j45 w H
     refine Ax _ rfl ?_ ?_
     ·intro h4
      replace h4:=B0 h4
      refine Af (Dm rfl rfl (Ae rfl rfl (Ab (Aa (A9 (Am (A7 (Am (Am (A7 (Am (DE (v1:=(.pointer _)) (v2:=(.int _ _)) rfl rfl rfl rfl ?_))))))))))))
      have h4':ofC ds nx=1:=by
       unfold ofC
       rw [if_neg h1',if_neg h2n,if_pos]
       have h5:Jk nx 0 ds=Jk nx 0 (ds.take (i+1)++ds.drop (i+1)):=by rw [List.take_append_drop]
       rw [h5,I9,hasc,show (EG d && (decide (ah<d.id) && decide (d.id<nx)))=false by simpa using h4]; rfl
      exact ⟨_,by rw [h4'],fun _=>rfl,(fun h=>by omega),H.ext⟩
     ·intro h4
      replace h4:=B1 h4
      have h4':(EG d && (decide (ah<d.id) && decide (d.id<nx)))=true:=by simpa using h4
      have hgt:ah<d.id:=by simp only [Bool.and_eq_true,decide_eq_true_eq] at h4'; exact h4'.2.1
      have hno:Gu (dm (ds.take i)) d.id=none:=UZ fun x hx=>by
       have:=((Xq has).1 x hx).2.1
       omega
      refine Aw (Aa (E7 [([0,1,2,3,4,5,6,7,8],9),([10],11),([],12)] (fun z=>z.heap[b9]? = some (Bl 62 (CP d))∧z.heap[b24]? = some (Bl 123 (DU b nx))) [] Bz (by kernel_rfl) (⟨H.drew.get at0,H.drew.get at1⟩) ?_))
      refine AO rfl rfl ?_
      refine Dt rfl rfl (B3 rfl rfl (AL rfl Qv rfl (BQ rfl VX rfl (fun _ hx=>(by rw [An hx.2]; rfl)) ?_)))
      refine AL rfl IZ rfl (BQ rfl BD rfl (fun _ hx=>(by rw [An hx.1]; rfl)) ?_)
      refine Fx _ rfl GJ CA rfl rfl (fun _ hx=>(Xr hx.1)) ?_
      refine AL rfl IZ rfl (BQ rfl BD rfl (fun _ hx=>(by rw [An hx.1]; rfl)) ?_)
      refine Bx ?_
      replace H:=H.drew
      refine Qj rfl W4 FM zv_62 rfl rfl H at2 hM hno ?_
      rintro st o1 w hE H
      refine Ab (C2 (⟨H.get at0,H.get at1⟩) (AO rfl rfl ?_))
      refine E5 rfl rfl rfl (Bx (Nn (Ns d) rfl rfl rfl rfl H at2 hE ?_))
      rintro o2 w hM2 H
      refine Ab (C2 (⟨H.get at0,H.get at1⟩) (AO rfl rfl ?_))
      refine Bx (Ae rfl rfl (Ab (C2 (⟨H.get at0,H.get at1⟩) (BL (A2 (Aa (Ap (Ao rfl rfl rfl (by omega) (by omega) ?_))))))))
      refine Ad rfl rfl (Ab (Aa ?_))
      exact ⟨⟨i+1,d.id,o2⟩,rfl,⟨rfl,rfl,trivial⟩,⟨by dsimp only; omega,by dsimp only; rw [htk,Nt],by dsimp only; rw [hasc]; exact h4',by dsimp only; rw [htk,← Adm]; exact hM2,H.tail⟩,by dsimp only; omega⟩
    ·intro h3
     replace h3:=AF h3
     obtain rfl:i=ds.length:=by omega
     rw [List.take_length] at hM has
     have hC:ofC ds nx=(Hs (ds.map (·.am))).2:=by
      unfold ofC; rw [if_neg h1',if_neg h2n,if_neg (by rw [has]; decide)]
     rw [hC]
     obtain ⟨tt,htt⟩:∃ tt,tt=Hs (ds.map (·.am)):=⟨_,rfl⟩
     rw [← htt]
     refine Bh (Aj (Aj (AB (Aa (Aq (Af (Bi rfl rfl (Al rfl Aa2 (SB _ (H.get at0) (H.get at1) hM (by omega)) rfl ?_))))))))
     rintro v w ⟨l,hlp,F⟩
     obtain ⟨a3,n3,c3,f3,rfl,O3,hb3⟩:=F.ex
     replace H:=H.call F.ext
     have hl3:=O3.llen
     rw [List.length_map] at hl3
     have hlq:=hlp.length_eq
     rw [List.length_map] at hlq
     refine Al rfl We (TS a3 n3 c3 l _ (O3.rd1 fun x hx=>(hb3 x hx).1) (by omega) (by omega)) rfl ?_
     rintro v w ⟨rfl,rfl⟩
     rw [UY hlp]
     rw [← htt]
     refine BK rfl rfl (A5 rfl rfl rfl (A5 rfl rfl rfl (Ae rfl rfl (Ae rfl rfl (Ab (Aa (Af (Ad rfl rfl (CY rfl rfl rfl (Ab (Aa ?_)))))))))))
     refine Ax _ rfl ?_ ?_
     ·intro h5
      replace h5:=Dz h5
      refine Af (Ad rfl rfl (Dm rfl rfl (Ae rfl rfl (Ab (Aa (A9 (Am (DE (v1:=(.pointer _)) (v2:=(.int _ _)) rfl rfl rfl rfl ?_))))))))
      exact ⟨_,rfl,fun _=>rfl,(fun h=>absurd h h5),H.ext⟩
     ·intro h5
      replace h5:=D0 h5
      refine Aw (Aa (Af (Bi rfl rfl (Dm rfl rfl (Ae rfl rfl (Ab (Aa (A9 (DE (v1:=(.pointer _)) (v2:=(.int _ _)) rfl rfl rfl rfl ?_)))))))))
      have h5':tt.2=0:=by omega
      refine ⟨_,by rw [h5'],(fun h=>absurd h5' h),(fun _=>⟨b24,b,o,rfl,H.get at0,H.get at1,hM,?_,?_,H.ne at0 at1 (by decide)⟩),H.ext⟩
      ·exact (H.own (b24,_) (List.mem_of_getElem? (i:=0) rfl)).elim (fun h=>by cases h) id
      ·exact (H.own (b,_) (List.mem_of_getElem? (i:=1) rfl)).elim (fun h=>by cases h) id
end Go.Proofs.YtapphbmlkdhnmaaGreat

/- The accounts: Of, their balances, their rooms. -/
namespace Go.Proofs.YtapphbmlkdhnmaaGreat
open Go.GV
attribute [local irreducible] A1 W Wq Wt

structure Ac where
 ba:Int
 re:Int
instance:DecidableEq Ac:=fun x y=>if h:x.ba=y.ba∧x.re=y.re then isTrue (by cases x; cases y; simp_all) else isFalse fun e=>h (by subst e; exact ⟨rfl,rfl⟩)
abbrev encA (a:Ac):List Value:=[.int .i64 a.ba,.int .i64 a.re]
theorem Xs {α β:Type} {f:α→β} {l:List α} {i:Nat} {x:α} (h:l[i]? = some x):(l.take (i+1)).map f=(l.take i).map f++[f x]:=by
 rw [List.take_add_one,h,List.map_append]; rfl
def GL (a:Ac):Int:=max 0 (a.ba - a.re)
def acMay (a:Ac):Bool:=EF a.ba && EF a.re
end Go.Proofs.YtapphbmlkdhnmaaGreat

/- The accounts: Of, Shift. -/
namespace Go.Proofs.YtapphbmlkdhnmaaGreat
open Go.GV
attribute [local irreducible] A1 W Wq Wt

/-- Of's code. -/
def aofC (acs:List Ac):Int:=if 16<acs.length then 6 else if acs.all acMay=false then 1 else (Hs (acs.map Ac.ba)).2
end Go.Proofs.YtapphbmlkdhnmaaGreat

/- The accounts: Shift. -/
namespace Go.Proofs.YtapphbmlkdhnmaaGreat
open Go.GV
attribute [local irreducible] A1 W Wq Wt

def a00:Ac:=⟨0,0⟩
/-- The accounts, of which the first have new balances. -/
def acZ (acs:List Ac) (z:Nat→Int) (k i:Nat):Ac:=if i<k then ⟨z i,(acs.getD i a00).re⟩ else acs.getD i a00
def acsZ (acs:List Ac) (z:Nat→Int) (k:Nat):List Ac:=(List.range acs.length).map (acZ acs z k)
def shA (acs:List Ac) (ys:List Int):List Ac:=if Xo (acs.map Ac.ba) ys=0 then List.zipWith (fun a y=>⟨a.ba+y,a.re⟩) acs ys else acs
/-- What comes back of money's Shift. -/
def shZ (acs:List Ac) (ys:List Int):List Int:=if Xo (acs.map Ac.ba) ys=0 then SA (acs.map Ac.ba) ys else []
structure HSt where
 i:Nat
 full:List Value
end Go.Proofs.YtapphbmlkdhnmaaGreat

/- Money, as the reference has it. -/
namespace Go.Proofs.YtapphbmlkdhnmaaGreat
open Go.GV
attribute [local irreducible] A1 W Wq Wt

end Go.Proofs.YtapphbmlkdhnmaaGreat

/- Shifts, as the reference has them. -/
namespace Go.Proofs.YtapphbmlkdhnmaaGreat
open Go.GV
attribute [local irreducible] A1 W Wq Wt

def inM (x y:Int):Bool:=EF x && Xn y
end Go.Proofs.YtapphbmlkdhnmaaGreat

/- The accounts, as the reference has them. -/
namespace Go.Proofs.YtapphbmlkdhnmaaGreat
open Go.GV
attribute [local irreducible] A1 W Wq Wt

end Go.Proofs.YtapphbmlkdhnmaaGreat

/- The accounts of the reference: Of; the laws' comparisons. -/
namespace Go.Proofs.YtapphbmlkdhnmaaGreat
open Go.GV
attribute [local irreducible] A1 W Wq Wt

end Go.Proofs.YtapphbmlkdhnmaaGreat

/- The accounts of the reference: Of; the dues, compared. -/
namespace Go.Proofs.YtapphbmlkdhnmaaGreat
open Go.GV
attribute [local irreducible] A1 W Wq Wt

end Go.Proofs.YtapphbmlkdhnmaaGreat

/- The dues of the reference: Of. -/
namespace Go.Proofs.YtapphbmlkdhnmaaGreat
open Go.GV
attribute [local irreducible] A1 W Wq Wt

end Go.Proofs.YtapphbmlkdhnmaaGreat

/- The dues of the reference: Of, whole. -/
namespace Go.Proofs.YtapphbmlkdhnmaaGreat
open Go.GV
attribute [local irreducible] A1 W Wq Wt

theorem Va (ds:List Du):∀ v∈ds.flatMap CP,Bu v=true:=fun v hv=>by
 obtain ⟨a,_,h⟩:=List.mem_flatMap.1 hv
 exact Ez a v h
theorem MN (ds:List Du):(ds.flatMap CP).length=ds.length*7:=by
 induction ds with
 | nil=>rfl
 | cons a ds ih =>
  rw [List.flatMap_cons,List.length_append,ih]
  show 7+ds.length*7=(ds.length+1)*7
  omega
end Go.Proofs.YtapphbmlkdhnmaaGreat

/- The dues: Pay. -/
namespace Go.Proofs.YtapphbmlkdhnmaaGreat
open Go.GV
attribute [local irreducible] A1 W Wq Wt

/-- What paying x at a due answers. -/
def pC (d:Du) (x:Int):Int:=if x<0 then 1 else if d.held=true then 14 else if d.am<x then 12 else 0
def pD (d:Du) (x:Int):Du:=if pC d x=0 then { d with am:=d.am - x } else d
def Xt (ds:List Du) (k:Int):Option Du:=ds.find? fun d=>d.id == k
/-- The dues once x has been paid at one. -/
def Vb:List Du→Int→Int→List Du
 | [],_,_=>[]
 | d::ds,k,x=>if d.id=k then (if d.am=x then ds else { d with am:=d.am - x }::ds) else d::Vb ds k x
def payC (ds:List Du) (k x:Int):Int:=match Xt ds k with
 | none=>11
 | some d=>pC d x
def payS (ds:List Du) (k x:Int):List Du:=if payC ds k x=0 then Vb ds k x else ds
def payF (bx:Nat):Value := .func (.func 139) #[] #[ptr bx]
end Go.Proofs.YtapphbmlkdhnmaaGreat

/- The dues: Pay, whole. -/
namespace Go.Proofs.YtapphbmlkdhnmaaGreat
open Go.GV
attribute [local irreducible] A1 W Wq Wt

end Go.Proofs.YtapphbmlkdhnmaaGreat

/- The dues of the reference: place. -/
namespace Go.Proofs.YtapphbmlkdhnmaaGreat
open Go.GV
attribute [local irreducible] A1 W Wq Wt

/-- Where a due stands. -/
structure PlD (ds:List Du) (k:Int) (i:Nat) (d:Du):Prop where
 at':ds[i]? = some d
 id:d.id=k
 fst:∀ (j:Nat) (e:Du),j<i→ds[j]? = some e→e.id≠k
theorem PlD.pay {ds:List Du} {k x:Int} {i:Nat} {d:Du} (h:PlD ds k i d):Vb ds k x=if d.am=x then ds.eraseIdx i else ds.set i { d with am:=d.am - x }:=by
 induction ds generalizing i with
 | nil=>have:=h.at'; cases this
 | cons y ds ih =>
  unfold Vb
  cases i with
  | zero =>
   have h1:=h.at'
   injection h1 with h1
   rw [h1,if_pos h.id]; rfl
  | succ i =>
   have h1:=h.fst 0 y (Nat.succ_pos _) rfl
   rw [if_neg h1,ih ⟨h.at',h.id,fun j e hj he=>h.fst (j+1) e (Nat.succ_lt_succ hj) he⟩]
   split <;> rfl
end Go.Proofs.YtapphbmlkdhnmaaGreat

/- The dues of the reference: remove. -/
namespace Go.Proofs.YtapphbmlkdhnmaaGreat
open Go.GV
attribute [local irreducible] A1 W Wq Wt

end Go.Proofs.YtapphbmlkdhnmaaGreat

/- The dues of the reference: Pay. -/
namespace Go.Proofs.YtapphbmlkdhnmaaGreat
open Go.GV
attribute [local irreducible] A1 W Wq Wt

end Go.Proofs.YtapphbmlkdhnmaaGreat

/- Dues that are open: Clone, IndexFunc. -/
namespace Go.Proofs.YtapphbmlkdhnmaaGreat
open Go.GV
attribute [local irreducible] A1 W Wq Wt

theorem Vc (a:Option Addr) (n c:Nat) (ds:List Du) (w:World) (R:Rd w a 7 CP ds) (hn:ds.length=n) (hm:n≤1000000000) :
  Ret Tryz.prog 157 #[.slice a n c] w fun v w'=>Fresh w w' 62 7 v (ds.flatMap CP):=by
 subst hn
 obtain ⟨w0,rfl⟩:∃ w0,w0=w:=⟨_,rfl⟩
 have H:=Ctx.start w0 []
 refine A0 (fn:=Tryz.f157) Tryz.func157 rfl [.slice a ds.length c] rfl (by kernel_rfl) ?_
 refine Af (A6 rfl rfl (Ab (Aa (Aq (Af (Ak rfl rfl (K5 rfl CC rfl (Ab (Aa (Ax _ rfl ?_ ?_))))))))))
 ·intro h1
  have ha:a=none:=by simpa using h1
  subst ha
  have hxs:ds=[]:=by
   cases ds with
   | nil=>rfl
   | cons x xs=>obtain ⟨b,o,h⟩:=R.some' (by simp); cases h
  subst hxs
  refine Af (A6 rfl rfl (Ab (Aa (A9 (Am (AC (v:=(.slice _ _ _)) rfl rfl rfl ?_))))))
  exact Fresh.nil H _ _
 ·intro h1
  refine Aw (Aa (Af (IQ rfl CC CA H ?_)))
  rintro b5 w H O
  refine Ak rfl rfl (E4 rfl CC CC CA T2 Fp rfl (by decide) (ds.flatMap CP) rfl rfl H O (MN ds) (Va ds) ((R.ext0 H.ext).app (fun _ _=>rfl) (by omega)) (by omega) ?_)
  rintro a7 c7 full7 w H O
  refine A6 rfl rfl (Ab (Aa (A9 (AC (v:=(.slice _ _ _)) rfl rfl rfl ?_))))
  exact H.fresh O
theorem QH (d:Du) (w:World):Ret Tryz.prog 158 #[Ns d] w fun v w'=>v = .bool d.held∧Ext [] w w':=by
 obtain ⟨w0,rfl⟩:∃ w0,w0=w:=⟨_,rfl⟩
 have H:=Ctx.start w0 []
 refine A0 (fn:=Tryz.f158) Tryz.func158 rfl [Ns d] rfl (by kernel_rfl) ?_
 refine Af (B2 rfl (CP d) (.agg _) rfl rfl H ?_)
 rintro b1 w - H
 refine Ai rfl rfl (Ab (Aa (Af (Ah rfl T5 rfl (AM rfl Hh rfl H at0 rfl (Ai rfl rfl (Ab (Aa (A9 (AC (v:=(.bool _)) rfl rfl rfl ?_))))))))))
 exact ⟨rfl,H.ext⟩
abbrev ZY:Value := .func (.func 158) #[] #[]
/-- The first that is held. -/
structure FstH (ds:List Du) (i:Nat):Prop where
 at':∃ d,ds[i]? = some d∧d.held=true
 fst:∀ (j:Nat) (e:Du),j<i→ds[j]? = some e→e.held=false
set_option maxRecDepth 20000 in
theorem Zr (a:Option Addr) (n c:Nat) (ds:List Du) (w:World) (R:Rd w a 7 CP ds) (hn:ds.length=n) (hn2:n≤1000000) :
  Ret Tryz.prog 186 #[.slice a n c,ZY] w fun v w'=>Ext [] w w'∧((v = .int .i64 (-1)∧∀ d∈ds,d.held=false)∨∃ i:Nat,v = .int .i64 (i:Int)∧FstH ds i):=by
 subst hn
 obtain ⟨w0,rfl⟩:∃ w0,w0=w:=⟨_,rfl⟩
 have H:=Ctx.start w0 []
 refine A0 (fn:=Tryz.f186) Tryz.func186 rfl [.slice a ds.length c,.func (.func 158) #[] #[]] rfl (by kernel_rfl) ?_
 refine Af (Ae rfl rfl (Ab (Aa (Aq (Af (Ak rfl rfl (Be rfl CC rfl (Ad rfl rfl (Ab (Aa (Av ?_)))))))))))
 refine Bm 524080 (α:=Nat) (fun i=>[(8,.int .i64 (i:Int))]) (fun i w'=>i≤ds.length∧Ctx w0 [] w' []∧∀ (j:Nat) (e:Du),j<i→ds[j]? = some e→e.held=false) (fun i=>ds.length - i) 0 rfl ?_ ?_ ?_
 ·exact ⟨rfl,trivial⟩
 ·exact ⟨Nat.zero_le _,H,fun j e h=>absurd h (Nat.not_lt_zero _)⟩
 ·clear H
  rintro i j w ⟨hi,H,hb⟩
  refine Af (AV rfl rfl rfl (Ab (Aa (Aq (Ax _ rfl ?_ ?_)))))
  ·intro h1
   replace h1:=AE h1
   obtain ⟨d,hd2⟩:=A4 (l:=ds) (i:=i) (by omega)
   refine Aw (Aa (Aq (Av (Af (Ad rfl rfl (Ae rfl rfl (Ab (Aa (Af (BO rfl (.func _ _ _) rfl ?_))))))))))
   refine Ak rfl rfl (Ad rfl rfl (Ba R rfl CC CA rfl rfl (by omega) (by omega) (by rfl) ?_))
   refine Cx _ rfl GJ CA rfl rfl ((R.ext0 H.ext).row hd2 rfl) ?_
   refine Cb rfl rfl Wh (QH d _) rfl ?_
   rintro v w ⟨rfl,hx16⟩
   replace H:=H.call hx16
   refine Ab (Aa (Ax _ rfl ?_ ?_))
   ·intro h2
    refine Af (Ad rfl rfl (Ae rfl rfl (Ab (Aa (A9 (A7 (Am (Am (A7 (Am (AC (v:=(.int _ _)) rfl rfl rfl ?_)))))))))))
    exact ⟨H.ext,.inr ⟨i,rfl,⟨d,hd2,h2⟩,hb⟩⟩
   ·intro h2
    refine Aw (A2 (Aa (Ap (Ao rfl rfl rfl (by omega) (by omega) ?_))))
    refine Ad rfl rfl (Ab (Aa ?_))
    refine ⟨i+1,rfl,⟨rfl,trivial⟩,⟨by omega,H,fun j e hj he=>?_⟩,by omega⟩
    rcases Nat.lt_or_ge j i with h7 | h7
    ·exact hb j e h7 he
    ·obtain rfl:j=i:=by omega
     rw [hd2] at he
     cases he
     exact h2
  ·intro h1
   replace h1:=AF h1
   refine Bh (Aj (Aj (AB (Aa (Af (Ae rfl rfl (Ab (Aa (A9 (AC (v:=(.int _ _)) rfl rfl rfl ?_))))))))))
   refine ⟨H.ext,.inl ⟨rfl,fun d hd=>?_⟩⟩
   obtain ⟨j,hj⟩:=List.mem_iff_getElem?.1 hd
   exact hb j d (by have:=Cr hj; omega) hj
end Go.Proofs.YtapphbmlkdhnmaaGreat

/- Dues that are open: DeleteFunc, open. -/
namespace Go.Proofs.YtapphbmlkdhnmaaGreat
open Go.GV
attribute [local irreducible] A1 W Wq Wt

def opn (ds:List Du):List Du:=ds.filter fun d => !d.held
theorem NV:∀ (vs l:List Value) (o k:Nat),k≤o→(over l o vs).take k=l.take k
 | [],_,_,_,_=>rfl
 | v::vs,l,o,k,h=>by
  show (over (l.set o v) (o+1) vs).take k=_
  rw [NV vs (l.set o v) (o+1) k (by omega)]
  refine List.ext_getElem? fun j=>?_
  rw [List.getElem?_take,List.getElem?_take]
  split
  ·rw [List.getElem?_set_ne (by omega)]
  ·rfl
theorem OS.shrink {α:Type} {a:Option Addr} {n c s i:Nat} {full vs:List Value} {enc:α→List Value} {L:List α} {o:Nat} (O:OS a n c s full (L.flatMap enc)) (hs:∀ x∈L,(enc x).length=s) (hi:i≤n) (hL:L.length=n) (ho:vs=[]∨i*s≤o):OS a i c s (Go.GV.over full o vs) ((L.take i).flatMap enc):=by
 refine ⟨O.zero,O.none',by rw [DV]; exact O.len,Nat.le_trans hi O.le,?_⟩
 have h1:(Go.GV.over full o vs).take (i*s)=full.take (i*s):=by
  rcases ho with rfl | ho
  ·rfl
  ·exact NV _ _ _ _ ho
 rw [h1]
 have h2:full.take (i*s)=(full.take (n*s)).take (i*s):=by
  rw [List.take_take,Nat.min_eq_left (Nat.mul_le_mul_right _ hi)]
 rw [h2,O.pre]
 have h3:L.flatMap enc=(L.take i).flatMap enc++(L.drop i).flatMap enc:=by rw [← List.flatMap_append,List.take_append_drop]
 have h4:((L.take i).flatMap enc).length=i*s:=by
  rw [Eg fun z hz=>hs z (List.mem_of_mem_take hz),List.length_take,Nat.min_eq_left (by omega)]
 rw [h3]
 exact List.take_left' h4
theorem Kj (ds:List Du) (d:Du):opn (ds++[d])=opn ds++if d.held=true then [] else [d]:=by
 unfold opn
 rw [List.filter_append]
 cases h:d.held <;> simp [h]
theorem TT {ds:List Du} (h:∀ d∈ds,d.held=false):opn ds=ds:=by
 unfold opn
 rw [List.filter_eq_self]
 intro d hd
 rw [h d hd]; rfl
structure DSt where
 i:Nat
 j:Nat
 L:List Du
 full:List Value
set_option maxRecDepth 20000 in
set_option maxHeartbeats 4000000 in
theorem Ado (a:Option Addr) (c:Nat) (full:List Value) (ds:List Du) (w:World) (O:OS a ds.length c 7 full (ds.flatMap CP)) (hb:∀ y∈ent a 62 full,w.heap[y.1]? = some y.2) (hn2:ds.length≤1000000) :
  Ret Tryz.prog 156 #[.slice a ds.length c,ZY] w fun v w'=>∃ full',v = .slice a (opn ds).length c∧OS a (opn ds).length c 7 full' ((opn ds).flatMap CP)∧Ctx w ((ent a 62 full).map (·.1)) w' (ent a 62 full'):=by
 obtain ⟨w0,rfl⟩:∃ w0,w0=w:=⟨_,rfl⟩
 have R:Rd w0 a 7 CP ds:=OS.rd O hb (fun _ _=>rfl) (by omega)
 have H:Ctx w0 ((ent a 62 full).map (·.1)) w0 (ent a 62 full):=⟨Ext.refl _ _,hb,K8,fun x hx => .inl (List.mem_map_of_mem (f:=(·.1)) hx)⟩
 refine A0 (fn:=Tryz.f156) Tryz.func156 rfl [.slice a ds.length c,.func (.func 158) #[] #[]] rfl (by kernel_rfl) ?_
 refine Af (A6 rfl rfl (Ab (Aa (Af (Ak rfl rfl (BO rfl (.func _ _ _) rfl ?_))))))
 refine Al rfl Ab0 (Zr a ds.length c ds _ R rfl hn2) rfl ?_
 rintro v w ⟨hx10,hidx⟩
 replace H:=H.call hx10
 obtain ⟨pi,rfl,hpi⟩:∃ pi:Int,v = .int .i64 pi∧((pi = -1∧∀ d∈ds,d.held=false)∨∃ i:Nat,pi=(i:Int)∧FstH ds i):=hidx.elim (fun h=>⟨-1,h.1,.inl ⟨rfl,h.2⟩⟩) (fun ⟨i,h1,h2⟩=>⟨i,h1,.inr ⟨i,rfl,h2⟩⟩)
 refine Ae rfl rfl (Ab (Aa (Aq (Af (Ad rfl rfl (Cg rfl rfl rfl (Ab (Aa (Ax _ rfl ?_ ?_)))))))))
 ·intro h1
  replace h1:=AE h1
  refine Af (Ak rfl rfl (A6 rfl rfl (Ab (Aa (A9 (Am (AC (v:=(.slice _ _ _)) rfl rfl rfl ?_)))))))
  have hal:∀ d∈ds,d.held=false:=hpi.elim (fun h=>h.2) fun ⟨i,h,_⟩=>by omega
  rw [TT hal]
  exact ⟨full,rfl,O,H⟩
 ·intro h1
  replace h1:=AF h1
  obtain ⟨i,hpe,P⟩:∃ i:Nat,pi=(i:Int)∧FstH ds i:=hpi.elim (fun h=>absurd h.1 h1) id
  subst hpe
  obtain ⟨d0,hd0,hh0⟩:=P.at'
  have hil:=Cr hd0
  obtain ⟨q,rfl⟩:=O.form (by omega)
  replace H:Ctx w0 [q] w [(q,Bl 62 full)]:=H
  have hop0:opn (ds.take i)=ds.take i:=TT fun d hd=>by
   obtain ⟨j,hj⟩:=List.mem_iff_getElem?.1 hd
   rw [List.getElem?_take] at hj
   split at hj
   ·exact P.fst j d (by assumption) hj
   ·cases hj
  have hst0:opn (ds.take (i+1))=ds.take i:=by
   rw [List.take_add_one,hd0]
   show opn (ds.take i++[d0])=_
   rw [Kj,if_pos hh0,hop0,List.append_nil]
  refine Aw (Aa (Aq (Af (Ad rfl rfl (Ao rfl rfl rfl (by omega) (by omega) ?_)))))
  refine Ae rfl rfl (Ab (Aa (Av (Bm 68719411424 (α:=DSt) (fun t=>[(5,.int .i64 (t.i:Int)),(6,.int .i64 (t.j:Int))]) (fun t w'=>t.i<t.j∧t.j≤ds.length∧t.L.length=ds.length∧t.L.take t.i=opn (ds.take t.j)∧(∀ p,t.j≤p→t.L[p]? = ds[p]?)∧OS (some ⟨q,0,none⟩) ds.length c 7 t.full (t.L.flatMap CP)∧Ctx w0 [q] w' [(q,Bl 62 t.full)]) (fun t=>ds.length - t.j) ⟨i,i+1,ds,full⟩ rfl ?_ ?_ ?_))))
  ·exact ⟨rfl,rfl,trivial⟩
  ·exact ⟨Nat.lt_succ_self _,by dsimp only; omega,rfl,hst0.symm,fun p _=>rfl,O,H⟩
  ·clear H
   rintro ⟨i,j,L,fu⟩ jj w ⟨hij,hj,hL,hT,hS,O1,H⟩; dsimp only at hij hj hL hT hS O1 H; dsimp only
   have hOl:=O1.len
   have hOle:=O1.le
   refine Aq (Af (Ad rfl rfl (Ak rfl rfl (Be rfl CC rfl (AV rfl rfl rfl (Ab (Aa (Ax _ rfl ?_ ?_))))))))
   ·intro h2
    replace h2:=AE h2
    obtain ⟨d,hdj⟩:=A4 (l:=ds) (i:=j) (by omega)
    have hLd:L[j]? = some d:=by rw [hS j (Nat.le_refl _),hdj]
    have R1:Rd w (some ⟨q,0,none⟩) 7 CP L:=O1.rd (t:=62) (fun y hy=>by have hy:=List.mem_singleton.1 hy; rw [hy]; exact H.get at0) (fun _ _=>rfl) (by decide)
    have htk:ds.take (j+1)=ds.take j++[d]:=by rw [List.take_add_one,hdj]; rfl
    refine Aw (Aa (Aq (Av (Af (Ak rfl rfl (Ad rfl rfl (Ba R1 rfl CC CA rfl rfl (by omega) (by omega) (by omega) ?_)))))))
    refine Cx _ rfl GJ CA rfl rfl (R1.row hLd rfl) ?_
    refine Bo rfl Fp H ?_
    rintro b7 w - H
    refine BP rfl CA rfl rfl rfl (by exact Ez _) H at0 rfl ?_
    rintro w H
    refine Ab (Aa (Af (BO rfl (.func _ _ _) rfl ?_)))
    refine Bq rfl GJ CA rfl H at0 rfl (Cb rfl rfl Wh (QH d _) rfl ?_)
    rintro v w ⟨rfl,hx28⟩
    replace H:=H.call hx28
    refine Bv rfl rfl (Ab (Aa (Ax _ rfl ?_ ?_)))
    ·intro h3
     replace h3:=B0 h3
     have h3':¬ d.held=true:=by simpa using h3
     obtain ⟨y,hy⟩:=A4 (l:=L) (i:=i) (by omega)
     have O2:=OS.over O1 (fun _=>rfl) hy d
     refine Af (Ak rfl rfl (Ad rfl rfl (Bq rfl GJ CA rfl H at0 rfl (Ba R1 rfl CC CA rfl rfl (by omega) (by omega) (by omega) ?_))))
     refine Hz (vs:=CP d) rfl CA rfl rfl rfl (Ez d) H at1 (by show 0+(i:Int).toNat*7+7≤_; omega) ?_
     rintro w H
     replace H:Ctx w0 [q] w [(b7,Bl 62 (CP d)),(q,Bl 62 (over fu (i*7) (CP d)))]:=by rw [show i*7=0+((i:Int)).toNat*7 by omega]; exact H
     refine Ab (Aa (Ap (Ad rfl rfl (Ao rfl rfl rfl (by omega) (by omega) ?_))))
     refine Ae rfl rfl (Ab (A2 (Aa (Ap (Ad rfl rfl (Ao rfl rfl rfl (by omega) (by omega) ?_))))))
     refine Ae rfl rfl (Ab (Aa ?_))
     refine ⟨⟨i+1,j+1,L.set i d,over fu (i*7) (CP d)⟩,rfl,⟨rfl,rfl,trivial⟩,⟨by dsimp only; omega,by dsimp only; omega,by dsimp only; rw [List.length_set]; exact hL,?_,fun p hp=>?_,O2,?_⟩,by dsimp only; omega⟩
     ·dsimp only
      rw [htk,Kj,if_neg h3',← hT,List.take_add_one,List.getElem?_set_self (by omega)]
      congr 1
      refine List.ext_getElem? fun z=>?_
      rw [List.getElem?_take,List.getElem?_take]
      split
      ·rw [List.getElem?_set_ne (by omega)]
      ·rfl
     ·dsimp only at hp ⊢
      rw [List.getElem?_set_ne (by omega)]
      exact hS p (by omega)
     ·exact H.tail
    ·intro h3
     replace h3:=B1 h3
     have h3':d.held=true:=by simpa using h3
     refine Aw (A2 (Aa (Ap (Ad rfl rfl (Ao rfl rfl rfl (by omega) (by omega) ?_)))))
     refine Ae rfl rfl (Ab (Aa ?_))
     refine ⟨⟨i,j+1,L,fu⟩,rfl,⟨rfl,rfl,trivial⟩,⟨by dsimp only; omega,by dsimp only; omega,hL,?_,fun p hp=>hS p (by dsimp only at hp; omega),O1,H.tail⟩,by dsimp only; omega⟩
     dsimp only
     rw [htk,Kj,if_pos h3',List.append_nil]
     exact hT
   ·intro h2
    replace h2:=AF h2
    obtain rfl:j=ds.length:=by omega
    rw [List.take_length] at hT
    have hlen:(opn ds).length=i:=by rw [← hT,List.length_take]; omega
    obtain ⟨o',ho',ho2⟩:∃ o',JM (some ⟨q,0,none⟩) c i 7=some ⟨q,o',none⟩∧((c=i∧o'=0)∨o'=i*7):=by
     unfold JM
     by_cases h:c=i
     ·rw [if_pos h]; exact ⟨0,rfl,.inl ⟨h,rfl⟩⟩
     ·rw [if_neg h]; exact ⟨0+i*7,(by show some (Addr.add _ _)=_; rw [Cu]),.inr (Nat.zero_add _)⟩
    refine Bh (Aj (Aj (AB (Aa (Af (Ak rfl rfl (Ad rfl rfl (FG rfl CC CA rfl rfl (by omega) (by omega) ?_))))))))
    refine IX (b:=q) (o:=o') (n:=ds.length - i) (c:=c - i) (s:=7) rfl CC Fp rfl (by simp [Bu]) (show Value.slice (JM (some ⟨q,0,none⟩) c i 7) (ds.length - i) (c - i)=_ by rw [ho']) H at0 (by omega) ?_
    rintro w H
    refine Ab (Aa (Af (Ak rfl rfl (Ad rfl rfl (FH rfl CC CA rfl rfl (by omega) (by omega) ?_)))))
    refine A6 rfl rfl (Ab (Aa (A9 (AC (v:=(.slice _ _ _)) rfl rfl rfl ?_))))
    have O3:=OS.shrink (i:=i) (o:=o') (vs:=(List.replicate (ds.length - i) [Value.int .u64 0,.int .i64 0,.int .i64 0,.int .i64 0,.int .i64 0,.int .i64 0,.bool false]).flatten) O1 (fun _ _=>rfl) (by omega) hL (ho2.elim (fun h=>by omega) fun h => .inr (by omega))
    rw [hT] at O3
    rw [hlen]
    exact ⟨_,rfl,O3,H⟩
end Go.Proofs.YtapphbmlkdhnmaaGreat

/- Dues that are open; may a round be built? -/
namespace Go.Proofs.YtapphbmlkdhnmaaGreat
open Go.GV
attribute [local irreducible] A1 W Wq Wt

theorem Pt (a:Option Addr) (n c:Nat) (ds:List Du) (w:World) (R:Rd w a 7 CP ds) (hn:ds.length=n) (hm:n≤1000000) :
  Ret Tryz.prog 105 #[.slice a n c] w fun v w'=>Fresh w w' 62 7 v ((opn ds).flatMap CP):=by
 subst hn
 obtain ⟨w0,rfl⟩:∃ w0,w0=w:=⟨_,rfl⟩
 refine A0 (fn:=Tryz.f105) Tryz.func105 rfl [.slice a ds.length c] rfl (by kernel_rfl) ?_
 refine Af (A6 rfl rfl (Ab (Aa (Af (Ak rfl rfl (Al rfl Abl (Vc a ds.length c ds _ R rfl (by omega)) rfl ?_))))))
 rintro v w F
 obtain ⟨a4,n4,c4,f4,rfl,O4,hb4⟩:=F.ex
 have hl4:=O4.llen
 rw [MN] at hl4
 obtain rfl:ds.length=n4:=by omega
 refine Al rfl Abk (Ado a4 c4 f4 ds _ O4 (fun y hy=>(hb4 y hy).1) hm) rfl ?_
 rintro v w ⟨f5,rfl,O5,H5⟩
 refine A6 rfl rfl (Ab (Aa (A9 (AC (v:=(.slice _ _ _)) rfl rfl rfl ?_))))
 refine ⟨⟨_,_,_,f5,rfl,O5,fun x hx=>⟨H5.blk x hx,?_⟩⟩,F.ext.then H5.ext fun x hx=>?_⟩
 ·rcases H5.own x hx with h | h
  ·obtain ⟨y,hy,hyx⟩:=List.mem_map.1 h
   rw [← hyx]
   exact (hb4 y hy).2
  ·exact Nat.le_trans F.ext.size h
 ·obtain ⟨y,hy,rfl⟩:=List.mem_map.1 hx
  exact .inr (hb4 y hy).2
/-- The dues with numbers from 1 on. -/
def DT:Nat→List Du→List Du
 | _,[]=>[]
 | i,d::ds=>{ d with id:=(i:Int)+1 }::DT (i+1) ds
theorem NW (i:Nat) (ds:List Du):(DT i ds).length=ds.length:=by
 induction ds generalizing i with
 | nil=>rfl
 | cons d ds ih=>show (DT (i+1) ds).length+1=ds.length+1; rw [ih]
theorem Pu (i:Nat) (ds es:List Du):DT i (ds++es)=DT i ds++DT (i+ds.length) es:=by
 induction ds generalizing i with
 | nil=>rfl
 | cons d ds ih =>
  show _::DT (i+1) (ds++es)=_::(DT (i+1) ds++DT (i+(ds.length+1)) es)
  rw [ih,show i+1+ds.length=i+(ds.length+1) by omega]
theorem SD {ds:List Du} {i:Nat} {d:Du} (h:ds[i]? = some d):DT 0 (ds.take (i+1))=DT 0 (ds.take i)++[{ d with id:=(i:Int)+1 }]:=by
 have hl:=Cr h
 rw [List.take_add_one,h]
 show DT 0 (ds.take i++[d])=_
 rw [Pu,List.length_take,Nat.min_eq_left (by omega),Nat.zero_add]; rfl
theorem Xu {ds:List Du}:∀ (i:Nat) (d:Du),d∈DT i ds→(i:Int)<d.id∧d.id≤i+ds.length:=by
 induction ds with
 | nil=>intro i d h; cases h
 | cons x ds ih =>
  intro i d h
  rcases List.mem_cons.1 h with rfl | h
  ·dsimp only [List.length_cons]; omega
  ·have:=ih (i+1) d h
   rw [List.length_cons]; omega
theorem Vd {ds:List Du}:∀ (i:Nat),Jk ((i:Int)+ds.length+1) i (DT i ds)=ds.all EG:=by
 induction ds with
 | nil=>intro i; rfl
 | cons d ds ih =>
  intro i
  have h:=ih (i+1)
  show ((EG d && (decide ((i:Int)<(i:Int)+1) && decide ((i:Int)+1<_))) && Jk _ ((i:Int)+1) (DT (i+1) ds))=(EG d && ds.all EG)
  rw [← h,decide_eq_true (show (i:Int)<(i:Int)+1 by omega),decide_eq_true (show (i:Int)+1<(i:Int)+((d::ds).length:Nat)+1 by rw [List.length_cons]; omega),show ((i:Int)+((d::ds).length:Nat)+1)=(((i+1:Nat):Int)+ds.length+1) by rw [List.length_cons]; omega]
  simp
/-- May such a round be built? -/
def CS (rs:List Int) (ds:List Du):Bool :=
 decide (rs.length≤16) && (!decide ((Hs rs).2=1) && (ds.all (fun d=>decide (max d.fr d.to<rs.length)) && decide (ofC (DT 0 ds) (ds.length+1)=0)))
end Go.Proofs.YtapphbmlkdhnmaaGreat

/- May a round be built: the walk. -/
namespace Go.Proofs.YtapphbmlkdhnmaaGreat
open Go.GV
attribute [local irreducible] A1 W Wq Wt

theorem Ve {rs:List Int} {ds:List Du} {i:Nat} {d:Du} (hd:ds[i]? = some d) (h:¬ max d.fr d.to<rs.length):CS rs ds=false:=by
 unfold CS
 have:ds.all (fun d=>decide (max d.fr d.to<rs.length))=false:=by
  rw [List.all_eq_false]
  exact ⟨d,List.mem_of_getElem? hd,by simpa using h⟩
 rw [this]
 simp
set_option maxRecDepth 20000 in
set_option maxHeartbeats 4000000 in
theorem NX (a b:Option Addr) (n c m e:Nat) (rs:List Int) (ds:List Du) (w:World) (R:Rd w a 1 I1 rs) (hn:rs.length=n) (hn2:n≤1000000) (Rd':Rd w b 7 CP ds) (hm:ds.length=m) (hm2:m≤1000000) :
  Ret Tryz.prog 104 #[.slice a n c,.slice b m e] w fun v w'=>v = .bool (CS rs ds)∧Ext [] w w':=by
 subst hn hm
 obtain ⟨w0,rfl⟩:∃ w0,w0=w:=⟨_,rfl⟩
 have H:=Ctx.start w0 []
 obtain ⟨tt,htt⟩:∃ tt,tt=Hs rs:=⟨_,rfl⟩
 refine A0 (fn:=Tryz.f104) Tryz.func104 rfl [.slice a rs.length c,.slice b ds.length e] rfl (by kernel_rfl) ?_
 refine Af (Ai rfl rfl (Ab (Aa (Aq (Af (Ak rfl rfl (Be rfl AX rfl (C4 rfl rfl rfl (Ab (Aa (Ax _ rfl ?_ ?_)))))))))))
 ·intro h1
  replace h1:=AE h1
  refine Af (Ai rfl rfl (Ab (Aa (A9 (Am (AC (v:=(.bool _)) rfl rfl rfl ?_))))))
  exact ⟨congrArg Value.bool (by unfold CS; rw [decide_eq_false (show ¬ rs.length≤16 by omega)]; rfl),H.ext⟩
 ·intro h1
  replace h1:=AF h1
  have h1':decide (rs.length≤16)=true:=decide_eq_true (by omega)
  refine Aw (Aa (Aq (Af (Ak rfl rfl (Al rfl We (TS a rs.length c rs _ R rfl hn2) rfl ?_)))))
  rintro v w ⟨rfl,rfl⟩
  rw [← htt]
  refine BK rfl rfl (A5 rfl rfl rfl (A5 rfl rfl rfl (Ae rfl rfl (Ae rfl rfl (Ab (Aa (Af (Ad rfl rfl (Cg rfl rfl rfl (Ab (Aa ?_)))))))))))
  refine Ax _ rfl ?_ ?_
  ·intro h2
   replace h2:=AE h2
   refine Af (Ai rfl rfl (Ab (Aa (A9 (Am (AC (v:=(.bool _)) rfl rfl rfl ?_))))))
   exact ⟨congrArg Value.bool (by unfold CS; rw [← htt,h2,h1']; rfl),H.ext⟩
  ·intro h2
   replace h2:=AF h2
   refine Aw (Aa (Af (A6 rfl rfl (Ab (Aa (Aq (Af (Ak rfl rfl (Be rfl CC rfl (Ad rfl rfl (Ab (Aa ?_))))))))))))
   refine Av (Bm 70368727401360 (α:=LSt) (fun t=>[(7,.slice t.a t.i t.c),(24,.int .i64 (t.i:Int))]) (fun t w'=>t.i≤ds.length∧OS t.a t.i t.c 7 t.full ((DT 0 (ds.take t.i)).flatMap CP)∧Ctx w0 [] w' (ent t.a 62 t.full)∧∀ (j:Nat) (d:Du),j<t.i→ds[j]? = some d→max d.fr d.to<rs.length) (fun t=>ds.length - t.i) ⟨0,none,0,[]⟩ rfl ?_ ?_ ?_)
   ·exact ⟨rfl,rfl,trivial⟩
   ·exact ⟨Nat.zero_le _,OS.nil,H,fun j d h=>absurd h (Nat.not_lt_zero _)⟩
   ·clear H
    rintro ⟨i,a2,c2,full⟩ jj w ⟨hi,O,H,hb⟩; dsimp only at hi O H hb; dsimp only
    refine Af (AV rfl rfl rfl (Ab (Aa (Aq (Ax _ rfl ?_ ?_)))))
    ·intro h3
     replace h3:=AE h3
     obtain ⟨d,hd⟩:=A4 (l:=ds) (i:=i) (by omega)
     obtain ⟨d',hd'⟩:∃ d':Du,d'={ d with id:=(i:Int)+1 }:=⟨_,rfl⟩
     refine Aw (Aa (Aq (Av (Af (Ad rfl rfl (Ba Rd' rfl CC CA rfl rfl (by omega) (by omega) (by rfl) ?_))))))
     refine Cx _ rfl GJ CA rfl rfl ((Rd'.ext0 H.ext).row hd rfl) ?_
     refine Bo rfl Fp H ?_
     rintro b9 w - H
     refine Ae rfl rfl (BP rfl CA rfl rfl rfl (by exact Ez _) H at0 rfl ?_)
     rintro w H
     refine Ab (Aa (Aq (Af (Ah rfl JV rfl (AM rfl BS rfl H at0 rfl (Ah rfl JW rfl (AM rfl BS rfl H at0 rfl (OG rfl rfl rfl ?_))))))))
     refine Ak rfl rfl (Be rfl AX rfl (CK rfl rfl rfl (Ab (Aa (Ax _ rfl ?_ ?_)))))
     ·intro h4
      replace h4:=AE h4
      refine Af (Ai rfl rfl (Ab (Aa (A9 (Am (A7 (Am (Am (A7 (Am (AC (v:=(.bool _)) rfl rfl rfl ?_)))))))))))
      exact ⟨congrArg Value.bool (Ve hd (show ¬ max d.fr d.to<rs.length by omega)).symm,H.ext⟩
     ·intro h4
      replace h4:=AF h4
      refine Aw (Aa (Af (Ad rfl rfl (DB rfl rfl GW FM (by omega) (by omega) ?_))))
      refine F6 rfl rfl rfl (by omega) (by omega) ?_
      refine Ah rfl IZ rfl (BV (.int _ _) rfl AZ rfl rfl rfl H at0 (by (simp; done)) ?_)
      rintro w H
      refine Ab (Aa ?_)
      replace H:Ctx w0 [] w ((b9,Bl 62 (CP d'))::ent a2 62 full):=by rw [hd']; exact H
      refine Ap (Ak rfl rfl (Bq rfl GJ CA rfl H at0 rfl (Db _ (.agg _) rfl CC CA Fp rfl (by decide) (by decide) rfl rfl rfl H ?_)))
      rintro b43 w - H
      refine Dc (L:=[_]) rfl CC CC CA T2 Fp rfl (by decide) rfl rfl H O rfl (by simp [Bu]) (by omega) ?_
      rintro a' c' full' w H O
      refine A6 rfl rfl (Ab (A2 (Aa (Ap (Ao rfl rfl rfl (by omega) (by omega) ?_)))))
      refine Ad rfl rfl (Ab (Aa ?_))
      refine ⟨⟨i+1,a',c',full'⟩,rfl,⟨rfl,rfl,trivial⟩,⟨by dsimp only; omega,?_,H.tail,fun j x hj hx=>?_⟩,by dsimp only; omega⟩
      ·dsimp only
       rw [SD hd,← hd',List.flatMap_append]
       exact O
      ·rcases Nat.lt_or_ge j i with h7 | h7
       ·exact hb j x h7 hx
       ·obtain rfl:j=i:=by dsimp only at hj; omega
        rw [hd] at hx
        cases hx
        omega
    ·intro h3
     replace h3:=AF h3
     obtain rfl:i=ds.length:=by omega
     rw [List.take_length] at O
     have hal:ds.all (fun d=>decide (max d.fr d.to<rs.length))=true:=by
      rw [List.all_eq_true]
      intro d hd
      obtain ⟨j,hj⟩:=List.mem_iff_getElem?.1 hd
      exact decide_eq_true (hb j d (Cr hj) hj)
     have RO:Rd w a2 7 CP (DT 0 ds):=OS.rd O (fun y hy=>H.blk y hy) (fun _ _=>rfl) (by omega)
     have hbr:CS rs ds=decide (ofC (DT 0 ds) (ds.length+1)=0):=by
      unfold CS
      rw [h1',hal,← htt,decide_eq_false h2]; rfl
     obtain ⟨cd,hcd⟩:∃ cd,cd=ofC (DT 0 ds) (ds.length+1):=⟨_,rfl⟩
     rw [hbr,← hcd]
     refine Bh (Aj (Aj (AB (Aa (Af (Ak rfl rfl (Ak rfl rfl (Be rfl CC rfl (DB rfl rfl GW FM (by omega) (by omega) ?_)))))))))
     refine F6 rfl rfl rfl (by omega) (by omega) ?_
     refine Al rfl ca_57 (Adn a2 ds.length c2 (DT 0 ds) (ds.length+1) _ RO (NW 0 ds) (by omega) (by omega) (fun d hd=>by have:=Xu 0 d hd; omega)) rfl ?_
     rintro v w ⟨p,rfl,hp1,hp2,hx52⟩
     obtain ⟨pp,rfl⟩:∃ pp,p = .pointer pp:=by by_cases hz:ofC (DT 0 ds) (ds.length+1)=0; (obtain ⟨bd,_,_,e1,_⟩:=hp2 hz; exact ⟨_,e1⟩); exact ⟨none,hp1 hz⟩
     replace H:=H.call hx52
     rw [← hcd]
     refine BK rfl rfl (A5 rfl rfl rfl (A5 rfl rfl rfl (Dm rfl rfl (Ae rfl rfl (Ab (Aa (Af (Ad rfl rfl (Cg rfl rfl rfl (Ai rfl rfl ?_))))))))))
     refine Ab (Aa (A9 (AC (v:=(.bool _)) rfl rfl rfl ?_)))
     exact ⟨rfl,H.ext⟩
end Go.Proofs.YtapphbmlkdhnmaaGreat

/- A round's edges, one by one. -/
namespace Go.Proofs.YtapphbmlkdhnmaaGreat
open Go.GV
attribute [local irreducible] A1 W Wq Wt

def E9 (d:Du):Ed:=⟨d.fr,d.to,d.am,-d.we⟩
def Kk (rs:List Int):List Ed:=(List.range (2*rs.length)).map fun j=>if j % 2=0 then ⟨rs.length,(j / 2:Nat),rs.getD (j / 2) 0,0⟩ else ⟨(j / 2:Nat),rs.length,4503599627370496,0⟩
def Bt (rs:List Int) (ds:List Du) (net:Bool):List Ed:=ds.map E9++if net=true then [] else Kk rs
theorem IA {rs:List Int} {i:Nat} {x:Int} (h:rs[i]? = some x):(Kk rs)[2*i]? = some ⟨rs.length,i,x,0⟩:=by
 have hl:=Cr h
 unfold Kk
 rw [Dd (by omega),if_pos (by omega),show 2*i / 2=i by omega,AU h]
theorem Kl {rs:List Int} {i:Nat} (h:i<rs.length):(Kk rs)[2*i+1]? = some ⟨i,rs.length,4503599627370496,0⟩:=by
 unfold Kk
 rw [Dd (by omega),if_neg (by omega),show (2*i+1) / 2=i by omega]
theorem Pv (rs:List Int):(Kk rs).length=2*rs.length:=by unfold Kk; simp
def edV (e:Ed):List Value:=[.agg (B6 e).toArray]
structure RndK (b1 b2 b3:Nat) (a b:Option Addr) (n c m e:Nat) (rs:List Int) (ds:List Du) (net:Bool) (w:World):Prop where
 h1:w.heap[b1]? = some (Bl 23 [.slice b m e])
 h2:w.heap[b2]? = some (Bl 4 [.bool net])
 h3:w.heap[b3]? = some (Bl 29 [.slice a n c])
 R:Rd w a 1 I1 rs
 Rd':Rd w b 7 CP ds
set_option maxRecDepth 20000 in
set_option maxHeartbeats 4000000 in
theorem SF {b1 b2 b3:Nat} {a b:Option Addr} {n c m e:Nat} {rs:List Int} {ds:List Du} {net:Bool} (hn:rs.length=n) (hm:ds.length=m) (hn2:n≤1000000) (hm2:m≤1000000) (hw:∀ d∈ds,-1000000000≤d.we∧d.we≤1000000000) :
  Mk Tryz.prog 162 #[ptr b1,ptr b2,ptr b3] [] (fun _ w=>RndK b1 b2 b3 a b n c m e rs ds net w) ((Bt rs ds net).map edV):=by
 subst hn hm
 intro l w J E hJ0 hJs hEs hK hY
 obtain ⟨M0,hJ0⟩:=hJ0
 obtain ⟨w0,rfl⟩:∃ w0,w0=w:=⟨_,rfl⟩
 have hat1:∀ (i:Nat) (d:Du),ds[i]? = some d→((Bt rs ds net).map edV)[i]? = some (edV (E9 d)):=fun i d hd=>by
  unfold Bt
  have hl:=Cr hd
  rw [List.getElem?_map,List.getElem?_append_left (by rw [List.length_map]; exact hl),List.getElem?_map,hd]; rfl
 have hat2:net=false→∀ (j:Nat) (x:Ed),(Kk rs)[j]? = some x→((Bt rs ds net).map edV)[ds.length+j]? = some (edV x):=fun h0 j x hx=>by
  unfold Bt
  rw [h0,List.getElem?_map,List.getElem?_append_right (by rw [List.length_map]; omega),List.length_map,show ds.length+j - ds.length=j by omega]
  show ((Kk rs)[j]?).map edV=_
  rw [hx]; rfl
 have hlen:((Bt rs ds net).map edV).length=ds.length+if net=true then 0 else 2*rs.length:=by
  unfold Bt
  rw [List.length_map,List.length_append,List.length_map]
  split
  ·rfl
  ·rw [Pv]
 refine A0 (fn:=Tryz.f162) Tryz.func162 rfl [.func (.yield l) #[] #[],.pointer (some ⟨b1,0,none⟩),.pointer (some ⟨b2,0,none⟩),.pointer (some ⟨b3,0,none⟩)] rfl (by kernel_rfl) ?_
 have K0:=(hK _ _ _ hJ0).2
 have H:=Ctx.start w0 []
 refine Aq (Af (AY rfl ag_23 rfl ((by rw [An K0.h1]; rfl)) ?_))
 refine Be rfl CC rfl (Ad rfl rfl (Ab (Aa (Av (Bm 1073737792 (α:=Nat) (fun i=>[(12,.int .i64 (i:Int))]) (fun i w'=>i≤ds.length∧∃ M,J i M w') (fun i=>ds.length - i) 0 rfl ?_ ?_ ?_)))))
 ·exact ⟨rfl,trivial⟩
 ·exact ⟨Nat.zero_le _,M0,hJ0⟩
 ·clear H
  rintro i j w ⟨hi,M,hJ⟩
  have KK:=(hK _ _ _ hJ).2
  have R:=KK.Rd'
  obtain ⟨w1,rfl⟩:∃ w1,w1=w:=⟨_,rfl⟩
  have H:=Ctx.start w1 []
  refine Af (AV rfl rfl rfl (Ab (Aa (Aq (Ax _ rfl ?_ ?_)))))
  ·intro h1
   replace h1:=AE h1
   obtain ⟨d,hd⟩:=A4 (l:=ds) (i:=i) (by omega)
   have hwd:=hw d (List.mem_of_getElem? hd)
   refine Aw (Aa (Aq (Av (Af (Ba R rfl CC CA rfl rfl (by omega) (by omega) (by rfl) ?_)))))
   refine Cx _ rfl GJ CA rfl rfl ((R.ext0 H.ext).row hd rfl) ?_
   refine Bo rfl Fp H ?_
   rintro b6 w - H
   refine BP rfl CA rfl rfl rfl (by exact Ez _) H at0 rfl ?_
   rintro w H
   refine Ab (Aa (Af (BO rfl (.func _ _ _) rfl ?_)))
   refine Ah rfl JV rfl (AM rfl BS rfl H at0 rfl (Ah rfl JW rfl (AM rfl BS rfl H at0 rfl (Ah rfl JX rfl (AM rfl B9 rfl H at0 rfl (Ah rfl LC rfl (AM rfl B9 rfl H at0 rfl (F5 rfl rfl (by omega) (by omega) ?_))))))))
   refine C7 (B6 (E9 d)) rfl NJ Es (by kernel_rfl) ?_
   have hY1:=hY i (edV (E9 d)) M _ (hat1 i d hd) (hJs _ _ _ _ hJ H.ext)
   refine FI (vs:=edV (E9 d)) rfl rfl hY1 rfl ?_
   rintro u w hu
   obtain ⟨bb,rfl,hu1,hu0⟩:∃ bb,u = .bool bb∧(bb=true→∃ M,J (i+1) M w)∧(bb=false→E w):=hu.elim (fun h=>⟨true,h.1,fun _=>let ⟨M',h1,_⟩:=h.2; ⟨M',h1⟩,fun h=>by cases h⟩) (fun h=>⟨false,h.1,(fun h=>by cases h),fun _=>h.2⟩)
   refine Bv rfl rfl (Ab (Aa (Ax _ rfl ?_ ?_)))
   ·intro h2
    replace h2:=B0 h2
    refine A9 (A7 (Am (Am (A7 (Am (EN rfl rfl ?_))))))
    exact .inr (hu0 (by simpa using h2))
   ·intro h2
    replace h2:=B1 h2
    refine Aw (A2 (Aa (Ap (Ao rfl rfl rfl (by omega) (by omega) ?_))))
    refine Ad rfl rfl (Ab (Aa ?_))
    exact ⟨i+1,rfl,⟨rfl,trivial⟩,⟨by omega,hu1 (by simpa using h2)⟩,by omega⟩
  ·intro h1
   replace h1:=AF h1
   obtain rfl:i=ds.length:=by omega
   refine Bh (Aj (Aj (AB (Aa (Aq (Af (AY rfl Hh rfl ((H.old0 (by rw [An KK.h2]; rfl))) ?_)))))))
   refine Ab (Aa (Ax _ rfl ?_ ?_))
   ·intro h2
    refine A9 (Am (EN rfl rfl ?_))
    exact .inl ⟨M,by rw [hlen,if_pos h2]; exact hJ⟩
   ·intro h2
    refine Aw (Aa (Af (AY rfl BT rfl ((H.old0 (by rw [An KK.h3]; rfl))) ?_)))
    refine Be rfl AX rfl (Ae rfl rfl (Ab (Aa (Af (AY rfl BT rfl ((H.old0 (by rw [An KK.h3]; rfl))) ?_)))))
    refine Be rfl AX rfl (Ad rfl rfl (Ab (Aa (Av (Bm 72057559678190336 (α:=Nat) (fun i=>[(35,.int .i64 (i:Int))]) (fun i w'=>i≤rs.length∧∃ M,J (ds.length+2*i) M w') (fun i=>rs.length - i) 0 rfl ?_ ?_ ?_)))))
    ·exact ⟨rfl,trivial⟩
    ·exact ⟨Nat.zero_le _,M,hJ⟩
    ·clear H
     rintro i j2 w ⟨hi,M,hJ⟩
     have KK:=(hK _ _ _ hJ).2
     have R:=KK.R
     obtain ⟨w1,rfl⟩:∃ w1,w1=w:=⟨_,rfl⟩
     have H:=Ctx.start w1 []
     refine Af (AV rfl rfl rfl (Ab (Aa (Aq (Ax _ rfl ?_ ?_)))))
     ·intro h3
      replace h3:=AE h3
      obtain ⟨x,hx⟩:=A4 (l:=rs) (i:=i) (by omega)
      refine Aw (Aa (Aq (Av (Af (Ad rfl rfl (Ba R rfl AX Bw rfl rfl (by omega) (by omega) (by rfl) ?_))))))
      refine AY rfl B9 rfl (((R.ext0 H.ext).fld hx rfl (j:=0) rfl)) ?_
      refine Ae rfl rfl (Ae rfl rfl (Ab (Aa (Af (BO rfl (.func _ _ _) rfl ?_)))))
      refine Ad rfl rfl (Ad rfl rfl (Ad rfl rfl (C7 (B6 ⟨rs.length,i,x,0⟩) rfl NJ Es (by kernel_rfl) ?_)))
      have hY1:=hY _ (edV ⟨rs.length,i,x,0⟩) M _ (hat2 h2 _ _ (IA hx)) (hJs _ _ _ _ hJ H.ext)
      refine FI (vs:=edV ⟨rs.length,i,x,0⟩) rfl rfl hY1 rfl ?_
      rintro u w hu
      clear H
      obtain ⟨bb,rfl,hu1,hu0⟩:∃ bb,u = .bool bb∧(bb=true→∃ M,J (ds.length+2*i+1) M w)∧(bb=false→E w):=hu.elim (fun h=>⟨true,h.1,fun _=>let ⟨M',h1,_⟩:=h.2; ⟨M',h1⟩,fun h=>by cases h⟩) (fun h=>⟨false,h.1,(fun h=>by cases h),fun _=>h.2⟩)
      refine Bv rfl rfl (Ay rfl rfl (AH 47 rfl ?_ ?_))
      ·intro h4
       replace h4:=B0 h4
       refine Ag rfl (Ag rfl (Ag rfl (Ag rfl (Ag rfl (Ag rfl (A3 rfl rfl (.bool _) rfl (Ab (Aa (CI rfl (A9 (A7 (Am (Am (A7 (EN rfl rfl ?_)))))))))))))))
       exact .inr (hu0 (by simpa using h4))
      ·intro h4
       replace h4:=B1 h4
       refine BO rfl (.func _ _ _) rfl ?_
       refine Ad rfl rfl (Ad rfl rfl (C7 (B6 ⟨i,rs.length,4503599627370496,0⟩) rfl NJ Es (by kernel_rfl) ?_))
       obtain ⟨M2,hJ2⟩:∃ M,J (ds.length+2*i+1) M w:=hu1 (by simp_all)
       have hY2:=hY _ (edV ⟨i,rs.length,4503599627370496,0⟩) M2 _ (hat2 h2 _ _ (Kl (by omega))) hJ2
       refine FI (vs:=edV ⟨i,rs.length,4503599627370496,0⟩) rfl rfl hY2 rfl ?_
       rintro u w hu
       obtain ⟨bb,rfl,hv1,hv0⟩:∃ bb,u = .bool bb∧(bb=true→∃ M,J (ds.length+2*i+1+1) M w)∧(bb=false→E w):=hu.elim (fun h=>⟨true,h.1,fun _=>let ⟨M',h1,_⟩:=h.2; ⟨M',h1⟩,fun h=>by cases h⟩) (fun h=>⟨false,h.1,(fun h=>by cases h),fun _=>h.2⟩)
       refine Bv rfl rfl (AA rfl rfl (.bool _) rfl (Ab (Aa (Ax _ rfl ?_ ?_))))
       ·intro h5
        replace h5:=B0 h5
        refine A9 (A7 (Am (Am (A7 (EN rfl rfl ?_)))))
        exact .inr (hv0 (by simpa using h5))
       ·intro h5
        replace h5:=B1 h5
        refine Aw (A2 (Aa (Ap (Ao rfl rfl rfl (by omega) (by omega) ?_))))
        refine Ad rfl rfl (Ab (Aa ?_))
        exact ⟨i+1,rfl,⟨rfl,trivial⟩,⟨by omega,by rw [show ds.length+2*(i+1)=ds.length+2*i+1+1 by omega]; exact hv1 (by simpa using h5)⟩,by omega⟩
     ·intro h3
      replace h3:=AF h3
      refine Bh (Aj (Aj (AB (CG rfl rfl ?_))))
      obtain rfl:i=rs.length:=by omega
      exact .inl ⟨M,by rw [hlen,if_neg (by rw [h2]; decide)]; exact hJ⟩
end Go.Proofs.YtapphbmlkdhnmaaGreat

/- Rounds: their edges; comparisons of edges and numbers. -/
namespace Go.Proofs.YtapphbmlkdhnmaaGreat
open Go.GV
attribute [local irreducible] A1 W Wq Wt

abbrev U1 (x:Int):List Value:=[EP x]
instance:DecidableEq Ed:=fun x y=>if h:x.f=y.f∧x.t=y.t∧x.cap=y.cap∧x.cost=y.cost then isTrue (by cases x; cases y; simp_all) else isFalse fun e=>h (by subst e; exact ⟨rfl,rfl,rfl,rfl⟩)
theorem QI (x y:Ed):decide (x=y)=true↔B6 x=B6 y:=by
 obtain ⟨a,b,c,d⟩:=x
 obtain ⟨a',b',c',d'⟩:=y
 simp [B6]
theorem Vf (a b:Option Addr) (n c m d:Nat) (net:Bool) (w:World):Ret Tryz.prog 116 #[.slice a n c,.slice b m d,.bool net] w fun v w'=>∃ b1 b2 b3,v = .func (.func 162) #[] #[ptr b1,ptr b2,ptr b3]∧Ctx w [] w' [(b2,Bl 4 [.bool net]),(b1,Bl 23 [.slice b m d]),(b3,Bl 29 [.slice a n c])]:=by
 obtain ⟨w0,rfl⟩:∃ w0,w0=w:=⟨_,rfl⟩
 have H:=Ctx.start w0 []
 refine A0 (fn:=Tryz.f116) Tryz.func116 rfl [.slice a n c,.slice b m d,.bool net] rfl (by kernel_rfl) ?_
 refine Af (B2 rfl _ (.slice _ _ _) rfl rfl H ?_)
 rintro b3 w - H
 refine B2 rfl _ (.slice _ _ _) rfl rfl H ?_
 rintro b4 w - H
 refine B2 rfl _ (.bool _) rfl rfl H ?_
 rintro b5 w - H
 refine BN rfl .nilFunc rfl ?_
 refine Ab (Aa (Af (Ch rfl [.pointer _,.pointer _,.pointer _] rfl (BN rfl (.func _ _ _) rfl ?_))))
 refine Ab (Aa (A9 (AC (v:=(.func _ _ _)) rfl rfl rfl ?_)))
 exact ⟨_,_,_,rfl,H⟩
end Go.Proofs.YtapphbmlkdhnmaaGreat

/- Dues that are open, as the reference has them. -/
namespace Go.Proofs.YtapphbmlkdhnmaaGreat
open Go.GV
attribute [local irreducible] A1 W Wq Wt

set_option maxRecDepth 20000 in
set_option maxHeartbeats 2000000 in
theorem SG (a:Option Addr) (n c:Nat) (ds:List Du) (w:World) (R:Rd w a 7 CP ds) (hn:ds.length=n) (hm:n≤1000000) :
  Ret Tryz.prog 49 #[.slice a n c] w fun v w'=>Fresh w w' 62 7 v ((opn ds).flatMap CP):=by
 subst hn
 obtain ⟨w0,rfl⟩:∃ w0,w0=w:=⟨_,rfl⟩
 have H:=Ctx.start w0 []
 refine A0 (fn:=Tryz.f49) Tryz.func49 rfl [.slice a ds.length c] rfl (by kernel_rfl) ?_
 refine Af (A6 rfl rfl (Ab (Aa (Af (A6 rfl rfl (Ab (Aa (Aq (Af (Ae rfl rfl (Ab (Aa ?_))))))))))))
 refine Av (Bm 16777208 (α:=LSt) (fun t=>[(3,.slice t.a (opn (ds.take t.i)).length t.c),(4,.int .i64 (t.i:Int))]) (fun t w'=>t.i≤ds.length∧OS t.a (opn (ds.take t.i)).length t.c 7 t.full ((opn (ds.take t.i)).flatMap CP)∧Ctx w0 [] w' (ent t.a 62 t.full)) (fun t=>ds.length - t.i) ⟨0,none,0,[]⟩ rfl ?_ ?_ ?_)
 ·exact ⟨rfl,rfl,trivial⟩
 ·exact ⟨Nat.zero_le _,OS.nil,H⟩
 ·clear H
  rintro ⟨i,a2,c2,full⟩ j w ⟨hi,O,H⟩; dsimp only at hi O H; dsimp only
  have hol:(opn (ds.take i)).length≤i:=Nat.le_trans (List.length_filter_le _ _) (by rw [List.length_take]; omega)
  refine Aq (Af (Ad rfl rfl (Ak rfl rfl (Be rfl CC rfl (AV rfl rfl rfl (Ab (Aa (Ax _ rfl ?_ ?_))))))))
  ·intro h1
   replace h1:=AE h1
   obtain ⟨d,hd⟩:=A4 (l:=ds) (i:=i) (by omega)
   have hos:opn (ds.take (i+1))=opn (ds.take i)++if d.held=true then [] else [d]:=by
    rw [List.take_add_one,hd]; exact Kj _ _
   refine Aw (Aa (Aq (Av (Af (Ak rfl rfl (Ad rfl rfl (Ba R rfl CC CA rfl rfl (by omega) (by omega) (by rfl) ?_)))))))
   refine Ah rfl T5 rfl (AY rfl Hh rfl (((R.ext0 H.ext).fld hd rfl (j:=6) rfl)) ?_)
   refine Bv rfl rfl (Ab (Aa (Ax _ rfl ?_ ?_)))
   ·intro h2
    replace h2:=B0 h2
    have h2':¬ d.held=true:=by simpa using h2
    rw [if_neg h2'] at hos
    refine Ap (Ak rfl rfl (Ak rfl rfl (Ad rfl rfl (Ba R rfl CC CA rfl rfl (by omega) (by omega) (by rfl) ?_))))
    refine Cx _ rfl GJ CA rfl rfl ((R.ext0 H.ext).row hd rfl) ?_
    refine Db _ (.agg _) rfl CC CA Fp rfl (by decide) (by decide) rfl rfl rfl H ?_
    rintro b22 w - H
    refine Dc (L:=[]) rfl CC CC CA T2 Fp rfl (by decide) rfl rfl H O rfl (by simp [Bu]) (by omega) ?_
    rintro a' c' full' w H O
    refine A6 rfl rfl (Ab (A2 (Aa (Ap (Ad rfl rfl (Ao rfl rfl rfl (by omega) (by omega) ?_))))))
    refine Ae rfl rfl (Ab (Aa ?_))
    exact ⟨⟨i+1,a',c',full'⟩,rfl,⟨by dsimp only; rw [hos,List.length_append]; rfl,rfl,trivial⟩,⟨by dsimp only; omega,by dsimp only; rw [hos,List.length_append,List.flatMap_append]; exact O,H⟩,by dsimp only; omega⟩
   ·intro h2
    replace h2:=B1 h2
    have h2':d.held=true:=by simpa using h2
    rw [if_pos h2',List.append_nil] at hos
    refine Aw (A2 (Aa (Ap (Ad rfl rfl (Ao rfl rfl rfl (by omega) (by omega) ?_)))))
    refine Ae rfl rfl (Ab (Aa ?_))
    exact ⟨⟨i+1,a2,c2,full⟩,rfl,⟨by dsimp only; rw [hos]; rfl,rfl,trivial⟩,⟨by dsimp only; omega,by dsimp only; rw [hos]; exact O,H⟩,by dsimp only; omega⟩
  ·intro h1
   replace h1:=AF h1
   refine Bh (Aj (Aj (AB (Aa (Af (Ak rfl rfl (A6 rfl rfl (Ab (Aa (A9 (AC (v:=(.slice _ _ _)) rfl rfl rfl ?_)))))))))))
   obtain rfl:i=ds.length:=by omega
   rw [List.take_length] at O ⊢
   exact Ctx.fresh (L:=[]) H O
end Go.Proofs.YtapphbmlkdhnmaaGreat

/- What a round pays. -/
namespace Go.Proofs.YtapphbmlkdhnmaaGreat
open Go.GV
attribute [local irreducible] A1 W Wq Wt

theorem Xv (l:List Int):∀ v∈l.map J9,Bu v=true:=fun v hv=>by
 obtain ⟨x,_,rfl⟩:=List.mem_map.1 hv; rfl
theorem Vg (a:Option Addr) (n c:Nat) (xs:List Int) (w:World) (R:Rd w a 1 I1 xs) (hn:xs.length=n) (hm:n≤1000000000) :
  Ret Tryz.prog 106 #[.slice a n c] w fun v w'=>Fresh w w' 2 1 v (xs.map J9):=by
 subst hn
 obtain ⟨w0,rfl⟩:∃ w0,w0=w:=⟨_,rfl⟩
 have H:=Ctx.start w0 []
 refine A0 (fn:=Tryz.f106) Tryz.func106 rfl [.slice a xs.length c] rfl (by kernel_rfl) ?_
 refine Af (A6 rfl rfl (Ab (Aa (Aq (Af (Ak rfl rfl (K5 rfl AX rfl (Ab (Aa (Ax _ rfl ?_ ?_))))))))))
 ·intro h1
  have ha:a=none:=by simpa using h1
  subst ha
  have hxs:xs=[]:=by
   cases xs with
   | nil=>rfl
   | cons x xs=>obtain ⟨b,o,h⟩:=R.some' (by simp); cases h
  subst hxs
  refine Af (A6 rfl rfl (Ab (Aa (A9 (Am (AC (v:=(.slice _ _ _)) rfl rfl rfl ?_))))))
  exact Fresh.nil H _ _
 ·intro h1
  refine Aw (Aa (Af (IQ rfl AX Bw H ?_)))
  rintro b5 w H O
  refine Ak rfl rfl (E4 rfl AX AX Bw Mu FX rfl (by decide) (xs.map J9) rfl rfl H O (by simp) (Xv xs) (Rd.app1 (f:=J9) (R.ext0 H.ext)) (by omega) ?_)
  rintro a7 c7 full7 w H O
  refine A6 rfl rfl (Ab (Aa (A9 (AC (v:=(.slice _ _ _)) rfl rfl rfl ?_))))
  exact H.fresh O
/-- How many are paid. -/
def cutK (k:Int) (n:Nat):Nat:=(max 0 (min k (n:Int))).toNat
end Go.Proofs.YtapphbmlkdhnmaaGreat

/- Dues and accounts, looked up. -/
namespace Go.Proofs.YtapphbmlkdhnmaaGreat
open Go.GV
attribute [local irreducible] A1 W Wq Wt

section
variable {P:Program} {r:Option Nat} {ops rest:List Oper} {Q:Exit→Env→World→Prop} {e:Env} {w:World} {dst:Option Tmp} {ty:TypeId} {pos:String} {af:Array Edge} {g:Option (Nat × Bool)}
end
/-- The due of a number, and whether there is one. -/
def getD7 (ds:List Du) (k:Int):Du:=(Xt ds k).getD d00
end Go.Proofs.YtapphbmlkdhnmaaGreat

/- May a round be built, as the reference has it. -/
namespace Go.Proofs.YtapphbmlkdhnmaaGreat
open Go.GV
attribute [local irreducible] A1 W Wq Wt

def dueB (n:Nat) (d:Du):Bool:=EG d && (decide (d.fr<n) && decide (d.to<n))
def r19B (rs:List Int) (ds:List Du):Bool:=(decide (rs.length≤16) && decide (ds.length≤64)) && (rs.all EF && (ds.all (dueB rs.length) && decide ((Hs (ds.map Du.am)).2=0)))
theorem Xw (ds:List Du):∀ i,(DT i ds).map Du.am=ds.map Du.am:=by
 induction ds with
 | nil=>intro i; rfl
 | cons d ds ih=>intro i; show d.am::(DT (i+1) ds).map Du.am=d.am::ds.map Du.am; rw [ih]
theorem Xx (rs:List Int):decide ((Hs rs).2=1) = !rs.all EF:=by
 unfold Hs
 cases h:rs.all EF with
 | false=>rw [if_pos rfl]; rfl
 | true =>
  rw [if_neg (by decide)]
  split <;> rfl
theorem Adp (rs:List Int) (ds:List Du) (hl:ds.length≤1000000):r19B rs ds=CS rs ds:=by
 have h1:decide (ofC (DT 0 ds) (ds.length+1)=0)=(decide (ds.length≤64) && (ds.all EG && decide ((Hs (ds.map Du.am)).2=0))):=by
  have ha:=Vd (ds:=ds) 0
  rw [show (((0:Nat):Int)+ds.length+1)=(ds.length:Int)+1 by omega] at ha
  have ham:(DT 0 ds).map (·.am)=ds.map Du.am:=Xw ds 0
  unfold ofC
  rw [NW,ham,show Jk ((ds.length:Int)+1) 0 (DT 0 ds)=ds.all EG from ha]
  by_cases h64:64<ds.length
  ·rw [if_pos h64,decide_eq_false (show ¬ ds.length≤64 by omega)]; rfl
  ·rw [if_neg h64,decide_eq_true (show ds.length≤64 by omega),Bool.true_and,if_neg (by rw [decide_eq_true (show 1≤(ds.length:Int)+1 by omega),decide_eq_true (show (ds.length:Int)+1≤4611686018427387904 by omega)]; decide)]
   cases hm:ds.all EG with
   | false=>rw [if_pos rfl]; rfl
   | true=>rw [if_neg (by decide),Bool.true_and]
 have h2:ds.all (dueB rs.length)=(ds.all (fun d=>decide (max d.fr d.to<rs.length)) && ds.all EG):=by
  rw [Bool.eq_iff_iff]
  simp only [Bool.and_eq_true,List.all_eq_true,decide_eq_true_eq,dueB]
  constructor
  ·intro h
   exact ⟨fun d hd=>by have:=h d hd; omega,fun d hd=>(h d hd).1⟩
  ·intro h d hd
   have:=h.1 d hd
   exact ⟨h.2 d hd,by omega,by omega⟩
 unfold r19B CS
 rw [h1,h2,Xx]
 cases decide (rs.length≤16) <;> cases decide (ds.length≤64) <;> cases rs.all EF <;> cases ds.all (fun d=>decide (max d.fr d.to<rs.length)) <;> cases ds.all EG <;> rfl
end Go.Proofs.YtapphbmlkdhnmaaGreat

/- Accounts, looked up. -/
namespace Go.Proofs.YtapphbmlkdhnmaaGreat
open Go.GV
attribute [local irreducible] A1 W Wq Wt

def inA (acs:List Ac) (k:Int):Bool:=decide (0≤k) && decide (k<acs.length)
def getA (acs:List Ac) (k:Int):Ac:=if inA acs k=true then acs.getD k.toNat a00 else a00
end Go.Proofs.YtapphbmlkdhnmaaGreat

/- The dues: Add, where nothing stands against it. -/
namespace Go.Proofs.YtapphbmlkdhnmaaGreat
open Go.GV
attribute [local irreducible] A1 W Wq Wt

section
variable {P:Program} {r:Option Nat} {ops rest:List Oper} {Q:Exit→Env→World→Prop} {e:Env} {w:World} {dst:Option Tmp} {ty:TypeId} {pos:String} {af:Array Edge} {g:Option (Nat × Bool)}
end
end Go.Proofs.YtapphbmlkdhnmaaGreat

/- Nets, as the reference has them. -/
namespace Go.Proofs.YtapphbmlkdhnmaaGreat
open Go.GV
attribute [local irreducible] A1 W Wq Wt

def nodeR (N k:Int):Bool:=decide (0≤k) && decide (k<N)
end Go.Proofs.YtapphbmlkdhnmaaGreat

/- What is left when open dues are paid, one by one: plain law. -/
namespace Go.Proofs.YtapphbmlkdhnmaaGreat
open Go.GV

theorem NY {xs:List Int}:(Hs xs).2=0↔(∀ x∈xs,EF x=true)∧D6 xs≤4503599627370496:=by
 unfold Hs
 cases h:xs.all EF with
 | false =>
  rw [if_pos rfl]
  refine ⟨fun h=>by simp at h,fun h2=>?_⟩
  rw [List.all_eq_true.2 h2.1] at h; cases h
 | true =>
  rw [if_neg (by decide)]
  rw [List.all_eq_true] at h
  split
  ·rename_i h3; exact ⟨fun _=>⟨h,h3⟩,fun _=>rfl⟩
  ·rename_i h3; exact ⟨fun h=>by simp at h,fun h4=>absurd h4.2 h3⟩
/-- What is left when the open ones are paid. -/
def Gb:List Du→List Int→List Du
 | [],_=>[]
 | d::ds,[]=>d::ds
 | d::ds,x::xs=>if d.held=true then d::Gb ds (x::xs) else if d.am=x then Gb ds xs else { d with am:=d.am - x }::Gb ds xs
theorem NZ (ds:List Du):Gb ds []=ds:=by cases ds <;> rfl
theorem SH {d:Du} (h:d.held=true) (ds:List Du) (xs:List Int):Gb (d::ds) xs=d::Gb ds xs:=by
 cases xs with
 | nil=>rw [NZ,NZ]
 | cons x xs=>show (if d.held=true then _ else _)=_; rw [if_pos h]
theorem SJ {d:Du} (h:¬ d.held=true) (ds:List Du) (x:Int) (xs:List Int):Gb (d::ds) (x::xs)=(if d.am=x then [] else [{ d with am:=d.am - x }])++Gb ds xs:=by
 show (if d.held=true then _ else _)=_
 rw [if_neg h]
 split <;> rfl
theorem QJ (d:Du) (ds:List Du):opn (d::ds)=(if d.held=true then [] else [d])++opn ds:=by
 unfold opn
 rw [List.filter_cons]
 cases d.held <;> rfl
/-- What is paid may be. -/
def PayIn (os:List Du) (xs:List Int):Prop:=os.length=xs.length∧∀ (i:Nat) (d:Du) (x:Int),os[i]? = some d→xs[i]? = some x→0≤x∧x≤d.am
theorem PayIn.tail {d:Du} {x:Int} {os:List Du} {xs:List Int} (h:PayIn (d::os) (x::xs)):(0≤x∧x≤d.am)∧PayIn os xs :=
 ⟨h.2 0 d x rfl rfl,by have:=h.1; simp only [List.length_cons] at this; omega,fun i e y he hy=>h.2 (i+1) e y he hy⟩
theorem PayIn.cons {d:Du} {os:List Du} {xs:List Int} (h:PayIn (d::os) xs):∃ x xs',xs=x::xs':=by
 cases xs with
 | nil=>have:=h.1; simp at this
 | cons x xs=>exact ⟨x,xs,rfl⟩
/-- Pays, one by one, each right. -/
def ZZ (ds:List Du):List (Du × Int)→Prop
 | []=>True
 | p::ps=>(Xt ds p.1.id=some p.1∧p.1.held=false∧0≤p.2∧p.2≤p.1.am)∧ZZ (Vb ds p.1.id p.2) ps
def payA (ds:List Du):List (Du × Int)→List Du
 | []=>ds
 | p::ps=>payA (Vb ds p.1.id p.2) ps
theorem DM {d:Du} (h:EG d=true):(0≤d.fr∧d.fr<16)∧(0≤d.to∧d.to<16)∧d.fr≠d.to∧(1≤d.am∧d.am≤4503599627370496)∧(1≤d.we∧d.we≤1000)∧0≤d.un:=by
 unfold EG EF ML at h
 simp only [Bool.and_eq_true,decide_eq_true_eq,Bool.not_eq_true',decide_eq_false_iff_not] at h
 exact ⟨h.1.1,h.1.2.1,h.1.2.2,⟨h.2.1,h.2.2.1.2⟩,⟨h.2.2.2.1,h.2.2.2.2.1⟩,h.2.2.2.2.2⟩
/-- Amounts stay small. -/
def AmOk (ds:List Du):Prop:=∀ d∈ds,0≤d.am∧d.am≤4503599627370496
end Go.Proofs.YtapphbmlkdhnmaaGreat

/- What flows in a round, and what that shifts: plain law. -/
namespace Go.Proofs.YtapphbmlkdhnmaaGreat
open Go.GV

theorem GM (rs:List Int) (os:List Du) (net:Bool):(Bt rs os net).length=os.length+if net=true then 0 else 2*rs.length:=by
 unfold Bt
 rw [List.length_append,List.length_map]
 split
 ·rfl
 ·rw [Pv]
theorem EM {rs:List Int} {os:List Du} {net:Bool} {i:Nat} {d:Du} (h:os[i]? = some d):(Bt rs os net)[i]? = some (E9 d):=by
 unfold Bt
 have hl:=Cr h
 rw [List.getElem?_append_left (by rw [List.length_map]; exact hl),List.getElem?_map,h]; rfl
theorem Jg {rs:List Int} {os:List Du} {j:Nat} {e:Ed} (h:(Kk rs)[j]? = some e):(Bt rs os false)[os.length+j]? = some e:=by
 unfold Bt
 rw [List.getElem?_append_right (by rw [List.length_map]; omega),List.length_map,show os.length+j - os.length=j by omega,if_neg (by decide),h]
/-- What dues may be in a round of n banks. -/
def TU (n:Nat) (d:Du):Prop:=EG d=true∧d.fr<n∧d.to<n
theorem Oa {n:Nat}:∀ {os:List Du},(∀ d∈os,TU n d)→((((os.map E9).map Fz).sum:Nat):Int)≤1000*D6 (os.map Du.am)
 | [],_=>by show (0:Int)≤1000*0; omega
 | d::os,h=>by
  have ih:=Oa (os:=os) fun e he=>h e (List.mem_cons_of_mem _ he)
  have hm:=DM (h d (List.mem_cons_self ..)).1
  rw [List.map_cons,List.map_cons,List.sum_cons,List.map_cons,DA]
  have h1:Fz (E9 d)≤d.am.toNat*1000:=Nat.mul_le_mul_left _ (by show (-d.we).natAbs≤1000; omega)
  have h2:((d.am.toNat:Nat):Int)=d.am:=Int.toNat_of_nonneg (by omega)
  have h3:((Fz (E9 d):Nat):Int)≤d.am*1000:=by omega
  rw [Int.natCast_add,Int.mul_add]; omega
theorem Vh {rs:List Int} {os:List Du} {net:Bool} (hn:rs.length≤16) (hm:os.length≤64) (hrs:∀ x∈rs,EF x=true) (hos:∀ d∈os,TU rs.length d) (hsum:D6 (os.map Du.am)≤4503599627370496):Cj ((rs.length+1:Nat):Int) (Bt rs os net)=true:=by
 have hl:=GM rs os net
 have hE:(Bt rs os net).length≤200:=by rw [hl]; split <;> omega
 have hall:(Bt rs os net).all (EX ((rs.length+1:Nat):Int))=true:=by
  rw [List.all_eq_true]
  intro e he
  unfold Bt at he
  rcases List.mem_append.1 he with he | he
  ·obtain ⟨d,hd,rfl⟩:=List.mem_map.1 he
   obtain ⟨h1,h2,h3⟩:=hos d hd
   have:=DM h1
   unfold EX Kf E9
   simp only [Bool.and_eq_true,decide_eq_true_eq]
   omega
  ·split at he
   ·cases he
   ·unfold Kk at he
    obtain ⟨j,hj,rfl⟩:=List.mem_map.1 he
    rw [List.mem_range] at hj
    obtain ⟨r,hr⟩:=A4 (l:=rs) (i:=j / 2) (by omega)
    have hr2:=Ey.1 (hrs r (List.mem_of_getElem? hr))
    unfold EX Kf
    rw [AU hr]
    split
    ·simp only [Bool.and_eq_true,decide_eq_true_eq]; omega
    ·simp only [Bool.and_eq_true,decide_eq_true_eq]; omega
 have hp:E6 (Bt rs os net)≤4611686018427387904:=by
  unfold E6 Bt
  rw [List.map_append,List.sum_append]
  have h1:=Oa hos
  have h2:((if net=true then [] else Kk rs).map Fz).sum=0:=by
   split
   ·rfl
   ·unfold Kk
    rw [List.map_map]
    have:∀ l:List Nat,(l.map (Fz ∘ fun j=>if j % 2=0 then (⟨rs.length,(j / 2:Nat),rs.getD (j / 2) 0,0⟩:Ed) else ⟨(j / 2:Nat),rs.length,4503599627370496,0⟩)).sum=0:=by
     intro l
     induction l with
     | nil=>rfl
     | cons j l ih =>
      rw [List.map_cons,List.sum_cons,ih]
      show Fz (if j % 2=0 then _ else _)+0=0
      split <;> rfl
    exact this _
  rw [h2]; omega
 unfold Cj
 rw [hall,decide_eq_true hE,decide_eq_true hp,decide_eq_true (show (1:Int)≤((rs.length+1:Nat):Int) by omega),decide_eq_true (show ((rs.length+1:Nat):Int)≤40 by omega)]; rfl
theorem MO {g:Gr} {x:Nat→Int} {n m:Nat} (hE:∀ k,k<n→(g.f (m+2*k)=n∧g.t (m+2*k)=k)∧g.f (m+2*k+1)=k∧g.t (m+2*k+1)=n) {v:Nat} (hv:v<n):∀ j,j≤n→D3 g x (m+2*j) v=D3 g x m v+if v<j then x (m+2*v) - x (m+2*v+1) else 0
 | 0,_=>by rw [if_neg (by omega)]; simp
 | j+1,hj=>by
  obtain ⟨⟨h1,h2⟩,h3,h4⟩:=hE j (by omega)
  rw [show m+2*(j+1)=m+2*j+1+1 by omega,Fb,Fb,h1,h2,h3,h4,MO hE hv j (by omega),Fa (show ¬ n=v by omega)]
  by_cases e:j=v
  ·subst e
   rw [FQ rfl,if_neg (by omega),if_pos (by omega)]; omega
  ·rw [Fa e]
   by_cases h:v<j
   ·rw [if_pos h,if_pos (by omega)]; omega
   ·rw [if_neg h,if_neg (by omega)]; omega
theorem Pw {N:Int} {es:List Ed} {i:Nat} {e:Ed} (h:es[i]? = some e):(grE N es).f i=e.f.toNat:=by show (es.getD i e0).f.toNat=_; rw [AU h]
theorem Px {N:Int} {es:List Ed} {i:Nat} {e:Ed} (h:es[i]? = some e):(grE N es).t i=e.t.toNat:=by show (es.getD i e0).t.toNat=_; rw [AU h]
theorem Ob {N:Int} {es:List Ed} {i:Nat} {e:Ed} (h:es[i]? = some e):(grE N es).co i=e.cost:=by show (es.getD i e0).cost=_; rw [AU h]
/-- What is paid to a bank, less what it pays. -/
def byK (rs:List Int) (os:List Du) (net:Bool) (fl:List Int) (k:Nat):Int:=D3 (grE ((rs.length+1:Nat):Int) (Bt rs os net)) (flE fl) os.length k
theorem Xy {rs:List Int} {os:List Du} {net:Bool} {fl:List Int} (hrs:∀ x∈rs,0≤x) (hos:∀ d∈os,TU rs.length d) (hf:EO ((rs.length+1:Nat):Int) (Bt rs os net) fl=true) :
  PayIn os (fl.take os.length)∧fl.length=(Bt rs os net).length∧(∀ (k:Nat) (r:Int),rs[k]? = some r→(net=true→byK rs os net fl k=0) ∧ -r≤byK rs os net fl k∧byK rs os net fl k≤4503599627370496)∧Bn (byK rs os net fl) rs.length=0:=by
 obtain ⟨hw,hz⟩:=Fq hf
 obtain ⟨hl,hr,hin⟩:=BA hw
 have hlen:=GM rs os net
 refine ⟨⟨by rw [List.length_take]; omega,fun i d x hd hx=>?_⟩,hl,fun k r hk=>?_,?_⟩
 ·have hi:=Cr hd
  rw [List.getElem?_take,if_pos hi] at hx
  exact hin i (E9 d) x (EM hd) hx
 ·have hkn:=Cr hk
  have h0:=hz k (by omega)
  have hE:(grE ((rs.length+1:Nat):Int) (Bt rs os net)).E=(Bt rs os net).length:=rfl
  unfold Bs at h0
  rw [hE,hlen] at h0
  have hr0:=hrs r (List.mem_of_getElem? hk)
  cases net with
  | true =>
   rw [if_pos rfl,Nat.add_zero] at h0
   have h0':byK rs os true fl k=0:=h0
   exact ⟨fun _=>h0',by omega,by omega⟩
  | false =>
   rw [if_neg (by decide),MO (x:=flE fl) (n:=rs.length) (fun j hj=>?_) hkn rs.length (Nat.le_refl _),if_pos hkn] at h0
   ·obtain ⟨y,hy⟩:=A4 (l:=fl) (i:=os.length+2*k) (by rw [hl,hlen,if_neg (by decide)]; omega)
    obtain ⟨z,hzz⟩:=A4 (l:=fl) (i:=os.length+2*k+1) (by rw [hl,hlen,if_neg (by decide)]; omega)
    have h1:=hin _ _ y (Jg (IA hk)) hy
    have h2:=hin _ _ z (by rw [Nat.add_assoc]; exact Jg (Kl hkn)) hzz
    rw [show flE fl (os.length+2*k)=y from AU hy,show flE fl (os.length+2*k+1)=z from AU hzz] at h0
    have h0':byK rs os false fl k+(y - z)=0:=h0
    dsimp only at h1 h2
    exact ⟨(fun h=>by cases h),by omega,by omega⟩
   ·obtain ⟨r',hr'⟩:=A4 hj
    have e1:(Bt rs os false)[os.length+2*j]? = _:=Jg (IA hr')
    have e2:(Bt rs os false)[os.length+2*j+1]? = some ⟨j,rs.length,4503599627370496,0⟩:=by rw [Nat.add_assoc]; exact Jg (Kl hj)
    rw [Pw e1,Px e1,Pw e2,Px e2]
    dsimp only
    omega
 ·have:=over_all ⟨rs.length,os.length,(grE ((rs.length+1:Nat):Int) (Bt rs os net)).f,(grE ((rs.length+1:Nat):Int) (Bt rs os net)).t,fun _=>0⟩ ⟨fun i hi=>?_,fun i hi=>?_⟩ (flE fl)
  ·exact this
  ·obtain ⟨d,hd⟩:=A4 (l:=os) (i:=i) hi
   obtain ⟨h1,h2,h3⟩:=hos d (List.mem_of_getElem? hd)
   have:=DM h1
   dsimp only
   rw [Pw (EM hd)]
   unfold E9
   dsimp only
   omega
  ·obtain ⟨d,hd⟩:=A4 (l:=os) (i:=i) hi
   obtain ⟨h1,h2,h3⟩:=hos d (List.mem_of_getElem? hd)
   have:=DM h1
   dsimp only
   rw [Px (EM hd)]
   unfold E9
   dsimp only
   omega
/-- What a round that may be built says. -/
structure Bright (rs:List Int) (ds:List Du):Prop where
 n16:rs.length≤16
 may:∀ x∈rs,EF x=true
 m64:ds.length≤64
 due:∀ d∈ds,TU rs.length d
 tot:D6 (ds.map Du.am)≤4503599627370496
theorem G6 {rs:List Int} {ds:List Du} (hl:ds.length≤1000000):CS rs ds=true↔Bright rs ds:=by
 rw [← Adp rs ds hl]
 unfold r19B
 simp only [Bool.and_eq_true,decide_eq_true_eq,List.all_eq_true,dueB]
 constructor
 ·rintro ⟨⟨h1,h2⟩,h3,h4,h5⟩
  exact ⟨h1,h3,h2,fun d hd=>⟨(h4 d hd).1,(h4 d hd).2.1,(h4 d hd).2.2⟩,(NY.1 h5).2⟩
 ·rintro ⟨h1,h3,h2,h4,h5⟩
  refine ⟨⟨h1,h2⟩,h3,fun d hd=>⟨(h4 d hd).1,(h4 d hd).2.1,(h4 d hd).2.2⟩,NY.2 ⟨fun x hx=>?_,h5⟩⟩
  obtain ⟨d,hd,rfl⟩:=List.mem_map.1 hx
  have:=(DM (h4 d hd).1).2.2.2.1
  exact Ey.2 ⟨by omega,this.2⟩
theorem Py {ds:List Du} {d:Du} (h:d∈opn ds):d∈ds∧d.held=false:=by
 unfold opn at h
 rw [List.mem_filter] at h
 exact ⟨h.1,by simpa using h.2⟩
theorem Km (ds:List Du):(opn ds).length≤ds.length:=List.length_filter_le _ _
theorem Zs {ds:List Du} (h:∀ d∈ds,0≤d.am):D6 ((opn ds).map Du.am)≤D6 (ds.map Du.am):=by
 induction ds with
 | nil=>exact Int.le_refl _
 | cons d ds ih =>
  have h0:=h d (List.mem_cons_self ..)
  have ih:=ih fun e he=>h e (List.mem_cons_of_mem _ he)
  rw [QJ,List.map_cons,DA]
  split
  ·rw [List.nil_append]; omega
  ·show D6 (d.am::(opn ds).map Du.am)≤_
   rw [DA]; omega
theorem Bright.open' {rs:List Int} {ds:List Du} (h:Bright rs ds):Bright rs (opn ds) :=
 ⟨h.n16,h.may,Nat.le_trans (Km ds) h.m64,fun d hd=>h.due d (Py hd).1,Int.le_trans (Zs fun d hd=>by have:=(DM (h.due d hd).1).2.2.2.1; omega) h.tot⟩
theorem Bright.right {rs:List Int} {ds:List Du} (h:Bright rs ds) (net:Bool):Cj ((rs.length+1:Nat):Int) (Bt rs (opn ds) net)=true :=
 Vh h.n16 h.open'.m64 h.may h.open'.due h.open'.tot
end Go.Proofs.YtapphbmlkdhnmaaGreat
