/- Part 9 of the proof. -/
import Derived.Test.YtapphbmlkdhnmaaGreatPart2
import Derived.Test.YtapphbmlkdhnmaaGreatPart8
import Derived.Test.YtapphbmlkdhnmaaGreatPart4
import Derived.Test.YtapphbmlkdhnmaaGreatPart5
import Derived.Test.YtapphbmlkdhnmaaGreatPart6
import Derived.Test.YtapphbmlkdhnmaaGreatPart3
import Derived.Test.YtapphbmlkdhnmaaGreatPart7
/- Sorting numbers of 64 bits: slices.Sort. -/
namespace Go.Proofs.YtapphbmlkdhnmaaGreat
open Go.GV
attribute [local irreducible] A2 W Wq Wt

/-- Sorted, once what lies between a' and b' is. -/
structure PQ (f g:Nat→Int) (a b a' b':Nat):Prop where
 ha:a≤a'
 hab:a'≤b'
 hb:b'≤b
 sw:Sw a b f g
 out:∀ x y,a≤x→x<y→y<b→¬ (a'≤x∧y<b')→g x≤g y
 lb:0<a'→∀ x,a'≤x→x<b'→g (a' - 1)≤g x
section
variable {f g g':Nat→Int} {a b a' b':Nat}
theorem PQ.swap (h:PQ f g a b a' b') (s:Sw a' b' g g'):PQ f g' a b a' b':=by
 refine ⟨h.ha,h.hab,h.hb,h.sw.trans (s.mono h.ha h.hb),fun x y hx hxy hy hn=>?_,fun h0 x hx hxb=>?_⟩
 ·by_cases ix:a'≤x∧x<b'
  ·obtain ⟨x2,h1,h2,h3⟩:=s.mem x ix.1 ix.2
   rw [h3,s.out y (.inr (by omega))]
   exact h.out x2 y (Nat.le_trans h.ha h1) (by omega) hy (by omega)
  ·rw [s.out x (by omega)]
   by_cases iy:a'≤y∧y<b'
   ·obtain ⟨y2,h1,h2,h3⟩:=s.mem y iy.1 iy.2
    rw [h3]
    exact h.out x y2 hx (by omega) (Nat.lt_of_lt_of_le h2 h.hb) (by omega)
   ·rw [s.out y (by omega)]
    exact h.out x y hx hxy hy hn
 ·obtain ⟨x2,h1,h2,h3⟩:=s.mem x hx hxb
  rw [h3,s.out (a' - 1) (.inl (by omega))]
  exact h.lb h0 x2 h1 h2
theorem PQ.done (h:PQ f g a b a' b') (s:Ii g a' b'):Ii g a b:=fun x y hx hxy hy=>by
 by_cases hn:a'≤x∧y<b'
 ·exact s x y hn.1 hxy hn.2
 ·exact h.out x y hx hxy hy hn
theorem PQ.eq {i:Nat} (h:PQ f g a b a' b') (h0:0<a') (hle:g a'≤g (a' - 1)) (hi:a'<i) (hi2:i≤b') (h1:∀ x,a'≤x→x<i→g x≤g a') (h2:∀ y,i≤y→y<b'→g a'<g y):PQ f g a b i b':=by
 refine ⟨by have:=h.ha; omega,hi2,h.hb,h.sw,fun x y hx hxy hy hn=>?_,fun _ x hx hxb=>?_⟩
 ·by_cases hin:a'≤x∧y<b'
  ·have hxi:x<i:=by omega
   have hx1:=h1 x hin.1 hxi
   rcases Nat.lt_or_ge y i with h3 | h3
   ·have:=h.lb h0 y (by omega) hin.2
    omega
   ·have:=h2 y h3 hin.2
    omega
  ·exact h.out x y hx hxy hy hin
 ·have e1:=h1 (i - 1) (by omega) (by omega)
  have e2:=h2 x hx hxb
  omega
theorem PartU.sw {mid lo hi:Nat} (p:PartU g a' mid b') (s:Sw lo hi g g') (h:(a'≤lo∧hi≤mid)∨(mid<lo∧hi≤b')):PartU g' a' mid b':=by
 have hm:g' mid=g mid:=s.out mid (by omega)
 refine ⟨fun x hx hxm=>?_,fun y hy hyb=>?_⟩
 ·rw [hm]
  by_cases ix:lo≤x∧x<hi
  ·obtain ⟨x2,h1,h2,h3⟩:=s.mem x ix.1 ix.2
   rw [h3]; exact p.le x2 (by omega) (by omega)
  ·rw [s.out x (by omega)]; exact p.le x hx hxm
 ·rw [hm]
  by_cases iy:lo≤y∧y<hi
  ·obtain ⟨y2,h1,h2,h3⟩:=s.mem y iy.1 iy.2
   rw [h3]; exact p.ge y2 (by omega) (by omega)
  ·rw [s.out y (by omega)]; exact p.ge y hy hyb
theorem PQ.right {mid:Nat} (h:PQ f g a b a' b') (hm1:a'≤mid) (hm2:mid<b') (p:PartU g a' mid b') (s:Ii g a' mid):PQ f g a b (mid+1) b':=by
 refine ⟨by have:=h.ha; omega,by omega,h.hb,h.sw,fun x y hx hxy hy hn=>?_,fun _ x hx hxb=>p.ge x (by omega) hxb⟩
 by_cases hin:a'≤x∧y<b'
 ·rcases Nat.lt_or_ge y mid with h1 | h1
  ·exact s x y hin.1 hxy h1
  ·have hxm:x≤mid:=by omega
   have e1:g x≤g mid:=by
    rcases Nat.lt_or_ge x mid with h2 | h2
    ·exact p.le x hin.1 h2
    ·rw [show x=mid by omega]; exact Int.le_refl _
   rcases Nat.lt_or_ge mid y with h2 | h2
   ·exact Int.le_trans e1 (p.ge y h2 hin.2)
   ·rw [show y=mid by omega]; exact e1
 ·exact h.out x y hx hxy hy hin
theorem PQ.left {mid:Nat} (h:PQ f g a b a' b') (hm1:a'≤mid) (hm2:mid<b') (p:PartU g a' mid b') (s:Ii g (mid+1) b'):PQ f g a b a' mid:=by
 refine ⟨h.ha,hm1,by have:=h.hb; omega,h.sw,fun x y hx hxy hy hn=>?_,fun h0 x hx hxb=>h.lb h0 x hx (by omega)⟩
 by_cases hin:a'≤x∧y<b'
 ·rcases Nat.lt_or_ge mid x with h1 | h1
  ·exact s x y h1 hxy hin.2
  ·have hym:mid≤y:=by omega
   have e1:g x≤g mid:=by
    rcases Nat.lt_or_ge x mid with h2 | h2
    ·exact p.le x hin.1 h2
    ·rw [show x=mid by omega]; exact Int.le_refl _
   rcases Nat.lt_or_ge mid y with h2 | h2
   ·exact Int.le_trans e1 (p.ge y h2 hin.2)
   ·rw [show y=mid by omega]; exact e1
 ·exact h.out x y hx hxy hy hin
end
structure QSt where
 a:Nat
 b:Nat
 lim:Nat
 t8:Bool
 t9:Bool
 g:Nat→Int

set_option maxRecDepth 20000 in
set_option maxHeartbeats 8000000 in
theorem Adp {q n c m:Nat} (hn:n≤m) (hm:n≤1000000000):∀ (Z:Nat) {w:World} {f:Nat→Int} {a b lim:Nat},b - a<Z→w.heap[q]? = some (Bl 24 (C4 f m))→a≤b→b≤n→lim≤1000→(0<a→∀ x,a≤x→x<b→f (a - 1)≤f x) →
  Ret Tryz.prog 174 #[.slice (some ⟨q,0,none⟩) n c,.int .i64 (a:Int),.int .i64 (b:Int),.int .i64 (lim:Int)] w fun v w'=>v = .tuple #[]∧∃ g,Sw a b f g∧Ii g a b∧Ctx w [q] w' [(q,Bl 24 (C4 g m))]:=by
 intro Z
 induction Z with
 | zero=>intro w f a b lim h; omega
 | succ Z ih =>
 intro w f a b lim hZ hd hab hb hlim hLB
 obtain ⟨w0,rfl⟩:∃ w0,w0=w:=⟨_,rfl⟩
 have H:=Ctx.start1 hd
 refine A1 (fn:=Tryz.f174) Tryz.func174 rfl [.slice (some ⟨q,0,none⟩) n c,.int .i64 (a:Int),.int .i64 (b:Int),.int .i64 (lim:Int)] rfl (by kernel_rfl) ?_
 refine Ag (Ai rfl rfl (Ab (Aa (Ag (Ai rfl rfl (Ab (Aa (Au (Bi 21778071482940061661655974875633165532942 (α:=QSt) (fun t=>[(1,.int .i64 (t.a:Int)),(2,.int .i64 (t.b:Int)),(3,.int .i64 (t.lim:Int)),(8,.bool t.t8),(9,.bool t.t9)]) (fun t w'=>t.lim≤1000∧PQ f t.g a b t.a t.b∧Ctx w0 [q] w' [(q,Bl 24 (C4 t.g m))]) (fun t=>t.b - t.a) ⟨a,b,lim,true,true,f⟩ rfl ?_ ?_ ?_)))))))))
 ·exact ⟨rfl,rfl,rfl,rfl,rfl,trivial⟩
 ·exact ⟨hlim,⟨Nat.le_refl _,hab,Nat.le_refl _,.refl _,fun x y h1 h2 h3 h4=>absurd ⟨h1,h3⟩ h4,hLB⟩,H⟩
 ·rintro ⟨a',b',lim,t8,t9,g⟩ j0 w ⟨hlim,P,H⟩; dsimp only at hlim P H; dsimp only
  have hP1:=P.ha
  have hP2:=P.hab
  have hP3:=P.hb
  refine Au (Ag (Ad rfl rfl (Ad rfl rfl (Bf rfl rfl rfl (by omega) (by omega) ?_))))
  refine Af rfl rfl (Ab (Aa (Aq (Ag (Ad rfl rfl (J3 rfl rfl rfl (Ab (Aa (Ax _ rfl ?_ ?_)))))))))
  ·intro h1
   replace h1:=AF h1
   refine Ag (An rfl rfl (Ad rfl rfl (Ad rfl rfl (Ao rfl W0 (Pq (a:=a') (b:=b') (H.get at0) hP2 (by omega) hn hm) rfl ?_))))
   rintro rv w ⟨rfl,g2,s2,o2,H2⟩
   replace H:=Ctx.back (L1:=[_]) (L2:=[]) H H2
   refine Ab (Aa (A9 (Al (A4 (Al (A4 (EM rfl rfl ?_)))))))
   exact ⟨rfl,g2,(P.swap s2).sw,(P.swap s2).done o2,H⟩
  ·intro h1
   replace h1:=AG h1
   refine Av (Aa (Aq (Ag (Ad rfl rfl (BX rfl rfl rfl (Ab (Aa (Ax _ rfl ?_ ?_))))))))
   ·intro h2
    replace h2:=AF h2
    refine Ag (An rfl rfl (Ad rfl rfl (Ad rfl rfl (Ao rfl Ach (QB (a:=a') (b:=b') (H.get at0) (by omega) (by omega) hn hm) rfl ?_))))
    rintro rv w ⟨rfl,g2,s2,o2,H2⟩
    replace H:=Ctx.back (L1:=[_]) (L2:=[]) H H2
    refine Ab (Aa (A9 (Al (A4 (Al (A4 (EM rfl rfl ?_)))))))
    exact ⟨rfl,g2,(P.swap s2).sw,(P.swap s2).done o2,H⟩
   ·intro h2
    replace h2:=AG h2
    refine Av (Aa (Aq (Ag (Ak rfl rfl (Bu rfl rfl (Ab (Aa (Em 4329327034376 (α:=Nat × (Nat→Int)) (fun t=>[(3,.int .i64 (t.1:Int))]) (fun t w'=>t.1≤1000∧PQ f t.2 a b a' b'∧Ctx w0 [q] w' [(q,Bl 24 (C4 t.2 m))]) rfl ?_ ?_))))))))
    ·skip
     refine Ax _ rfl ?_ ?_
     ·intro h3
      replace h3:=Bp h3
      refine Ag (An rfl rfl (Ad rfl rfl (Ad rfl rfl (Ao rfl Aci (Xr (a:=a') (b:=b') (H.get at0) (by omega) (by omega) hn hm) rfl ?_))))
      rintro rv w ⟨rfl,g2,s2,H2⟩
      replace H:=Ctx.back (L1:=[_]) (L2:=[]) H H2
      refine Ab (Aa (Aw (Ad rfl rfl (Bf rfl rfl rfl (by omega) (by omega) ?_))))
      refine Af rfl rfl (Ab (Aa ?_))
      exact ⟨(lim - 1,g2),rfl,⟨congrArg (Value.int .i64) (by dsimp only; omega),trivial⟩,by dsimp only; omega,P.swap s2,H⟩
     ·intro h3
      replace h3:=Bq h3
      refine Av (Aa ?_)
      exact ⟨(lim,g),rfl,⟨rfl,trivial⟩,hlim,P,H⟩
    ·rintro ⟨lim,g⟩ j1 w ⟨hlim,P,H⟩; dsimp only at hlim P H; dsimp only
     refine Ag (An rfl rfl (Ad rfl rfl (Ad rfl rfl (Ao rfl Acj (Xp (a:=a') (b:=b') (H.get at0) (by omega) (by omega) hn hm) rfl ?_))))
     rintro rv w ⟨p,hint,hp1,hp2,rfl,hx46⟩
     replace H:=H.call hx46
     refine BG rfl rfl (A7 rfl rfl rfl (A7 rfl rfl rfl (Af rfl rfl (Af rfl rfl (Ab (Aa (Aq (Ag (Ad rfl rfl (BX rfl rfl rfl ?_))))))))))
     refine Ab (Aa (Em 2303591209400014848 (α:=Nat × Int × (Nat→Int)) (fun t=>[(11,.int .i64 (t.1:Int)),(12,.int .i64 t.2.1)]) (fun t w'=>a'≤t.1∧t.1<b'∧PQ f t.2.2 a b a' b'∧Ctx w0 [q] w' [(q,Bl 24 (C4 t.2.2 m))]) rfl ?_ ?_))
     ·skip
      refine Ax _ rfl ?_ ?_
      ·intro h4
       replace h4:=AF h4
       refine Ag (An rfl rfl (Ad rfl rfl (Ad rfl rfl (Ao rfl Ack (S6 (a:=a') (b:=b') (H.get at0) (by omega) (by omega) hn hm) rfl ?_))))
       rintro rv w ⟨rfl,g2,s2,H2⟩
       replace H:=Ctx.back (L1:=[_]) (L2:=[]) H H2
       refine Ab (Aa (Ag (Ad rfl rfl (Bf rfl rfl rfl (by omega) (by omega) ?_))))
       refine Ad rfl rfl (Ad rfl rfl (Bf rfl rfl rfl (by omega) (by omega) ?_))
       refine Bf rfl rfl rfl (by omega) (by omega) ?_
       refine Af rfl rfl (Ab (Aa (Aw (Af rfl rfl (Ab (Aa ?_))))))
       exact ⟨(b' - 1 - (p - a'),1,g2),rfl,⟨congrArg (Value.int .i64) (by dsimp only; omega),rfl,trivial⟩,by dsimp only; omega,by dsimp only; omega,P.swap s2,H⟩
      ·intro h4
       replace h4:=AG h4
       refine Av (Aa ?_)
       exact ⟨(p,hint,g),rfl,⟨rfl,rfl,trivial⟩,hp1,hp2,P,H⟩
     ·rintro ⟨p,hint,g⟩ j2 w ⟨hp1,hp2,P,H⟩; dsimp only at hp1 hp2 P H; dsimp only
      refine Aq (Dw 587989967349491957760 (α:=Bool) (fun t=>[(68,.bool t)]) (fun _ w'=>Ctx w0 [q] w' [(q,Bl 24 (C4 g m))]) rfl ?_ ?_)
      ·skip
       refine Aw (Ak rfl rfl (Ak rfl rfl (A8 62 rfl ?_ ?_)))
       ·intro h1
        refine Ak rfl rfl (Am rfl rfl (.bool _) rfl (Ak rfl rfl (A8 65 rfl ?_ ?_)))
        ·intro h2
         refine Ad rfl rfl (BX rfl rfl rfl (Am rfl rfl (.bool _) rfl (Ab (Aa ?_))))
         exact ⟨_,rfl,⟨rfl,trivial⟩,H⟩
        ·intro h3
         refine Ae rfl (Ae rfl (A3 rfl rfl (.bool _) rfl (Ab (Aa ?_))))
         exact ⟨_,rfl,⟨rfl,trivial⟩,H⟩
       ·intro h4
        refine Ae rfl (A3 rfl rfl (.bool _) rfl (Ak rfl rfl (Ae rfl (Ae rfl (A3 rfl rfl (.bool _) rfl (Ab (Aa ?_)))))))
        exact ⟨_,rfl,⟨rfl,trivial⟩,H⟩
      ·rintro t68 j3 w H
       refine Em 8854437155380584775680 (α:=Nat→Int) (fun _=>[]) (fun g w'=>PQ f g a b a' b'∧Ctx w0 [q] w' [(q,Bl 24 (C4 g m))]) rfl ?_ ?_
       ·skip
        refine Ax _ rfl ?_ ?_
        ·intro h5
         refine Ag (An rfl rfl (Ad rfl rfl (Ad rfl rfl (Ao rfl Acl (S7 (a:=a') (b:=b') (H.get at0) (by omega) (by omega) hn hm P.lb) rfl ?_))))
         rintro rv w ⟨t72,g2,rfl,s2,o2,H2⟩
         replace H:=Ctx.back (L1:=[_]) (L2:=[]) H H2
         refine Ab (Aa (Ax _ rfl ?_ ?_))
         ·intro h6
          refine A9 (Al (A4 (Al (A4 (EM rfl rfl ?_)))))
          exact ⟨rfl,g2,(P.swap s2).sw,(P.swap s2).done (o2 h6),H⟩
         ·intro h6
          refine Av (Aa ?_)
          exact ⟨g2,rfl,trivial,P.swap s2,H⟩
        ·intro h5
         refine Av (Aa ?_)
         exact ⟨g,rfl,trivial,P,H⟩
       ·rintro g j4 w ⟨P,H⟩
        have hP1:=P.ha
        have hP3:=P.hb
        have e1:((a':Int) - 1).toNat=a' - 1:=by omega
        refine Aq (Dw 309475565088379329434353664 (α:=Unit) (fun _=>[(87,.bool (decide (0<a'∧¬ g (a' - 1)<g p)))]) (fun _ w'=>Ctx w0 [q] w' [(q,Bl 24 (C4 g m))]) rfl ?_ ?_)
        ·skip
         refine Ff 12 B3 (by kernel_rfl) rfl rfl ?_
         refine AM rfl rfl (ZO rfl rfl rfl (Di rfl rfl (Dc 75 rfl ?_ ?_)))
         ·intro h5
          replace h5:=AF h5
          refine BT rfl rfl (AM rfl rfl (CW rfl rfl rfl (by omega) (by omega) ?_))
          refine AL rfl Be AY rfl rfl (by omega) (by omega) ?_
          refine Cc rfl BK rfl (by rintro _ rfl; exact ((Cv (H.drew.get at0) (by omega)))) ?_
          refine BT rfl rfl (AM rfl rfl (AL rfl Be AY rfl rfl (by omega) (by omega) ?_))
          refine Cc rfl BK rfl (by rintro _ rfl; exact ((Cv (H.drew.get at0) (by omega)))) ?_
          refine BQ ?_
          replace H:=H.drew
          refine Ao rfl Fo (E1 _ _ _) rfl ?_
          rintro v w ⟨rfl,rfl⟩
          rw [e1,Int.toNat_natCast]
          refine Bu rfl rfl (Am rfl rfl (.bool _) rfl (Ab (Aa ?_)))
          exact ⟨(),rfl,⟨congrArg Value.bool (by clear P ih hLB; rw [Bool.eq_iff_iff]; simp_all; try omega),trivial⟩,H⟩
         ·intro h6
          replace h6:=AG h6
          refine Az rfl (Az rfl (Az rfl (Az rfl (Az rfl (Az rfl (Az rfl (Az rfl (Az rfl (BQ ?_)))))))))
          replace H:=H.drew
          refine Ae rfl (Ae rfl (A3 rfl rfl (.bool _) rfl (Ab (Aa ?_))))
          exact ⟨(),rfl,⟨congrArg Value.bool (by clear P ih hLB; rw [Bool.eq_iff_iff]; simp_all; try omega),trivial⟩,H⟩
        ·rintro - j5 w H
         refine Ax _ rfl ?_ ?_
         ·intro h7
          have h7:=of_decide_eq_true h7
          refine Ag (An rfl rfl (Ad rfl rfl (Ad rfl rfl (Ad rfl rfl (Ao rfl Acm (UZ (a:=a') (b:=b') (p:=p) (H.get at0) (by omega) (by omega) hn hm ⟨hp1,hp2⟩) rfl ?_)))))
          rintro rv w ⟨i,g2,rfl,s2,hi1,hi2,hga,o1,o2,H2⟩
          replace H:=Ctx.back (L1:=[_]) (L2:=[]) H H2
          refine Af rfl rfl (Ab (Aa (Ag (Ad rfl rfl (Af rfl rfl (Ab (Aa (Bd (Aj (AD (Aa ?_)))))))))))
          have P2:=P.swap s2
          have hout:=s2.out (a' - 1) (.inl (by omega))
          exact ⟨⟨i,b',lim,t8,t9,g2⟩,rfl,⟨rfl,rfl,rfl,rfl,rfl,trivial⟩,⟨hlim,P2.eq h7.1 (by rw [hga,hout]; omega) hi1 hi2 o1 o2,H⟩,by dsimp only; omega⟩
         ·intro h7
          refine Av (Aa (Ag (An rfl rfl (Ad rfl rfl (Ad rfl rfl (Ad rfl rfl (Ao rfl Acn (Pr (a:=a') (b:=b') (p:=p) (H.get at0) (by omega) (by omega) hn hm ⟨hp1,hp2⟩) rfl ?_)))))))
          rintro rv w ⟨mid,t,g2,rfl,s2,hm1,hm2,PP,H2⟩
          replace H:=Ctx.back (L1:=[_]) (L2:=[]) H H2
          refine BG rfl rfl (A7 rfl rfl rfl (A7 rfl rfl rfl (Af rfl rfl (Ai rfl rfl (Ab (Aa ?_))))))
          have P2:=P.swap s2
          refine Ag (Ak rfl rfl (Ai rfl rfl (Ab (Aa (Ag (Ad rfl rfl (Ad rfl rfl (Bf rfl rfl rfl (by omega) (by omega) ?_))))))))
          refine Ad rfl rfl (Ad rfl rfl (Bf rfl rfl rfl (by omega) (by omega) ?_))
          refine Af rfl rfl (Af rfl rfl (Ab (Aa (Ag (Ad rfl rfl (GK rfl rfl rfl (by omega) (by omega) (show _≤(9223372036854775807:Int) by omega) ?_))))))
          refine Af rfl rfl (Ab (Aa (Ag (Ad rfl rfl (Ad rfl rfl (AN rfl rfl rfl (Ab (Aa (Ax _ rfl ?_ ?_)))))))))
          ·intro h8
           replace h8:=AF h8
           refine Ag (Ad rfl rfl (Ad rfl rfl (CD rfl rfl rfl (Ai rfl rfl (Ab (Aa (Ag (An rfl rfl (Ad rfl rfl (Ad rfl rfl ?_))))))))))
           refine Ad rfl rfl (Ao rfl OY (ih (a:=a') (b:=mid) (lim:=lim) (f:=g2) (by omega) (H.get at0) hm1 (by omega) hlim (fun h0 x hx hxb=>P2.lb h0 x hx (by omega))) rfl ?_)
           rintro rv w ⟨rfl,g3,s3,o3,H2⟩
           replace H:=Ctx.back (L1:=[_]) (L2:=[]) H H2
           refine Ab (Aa (Aw (Ad rfl rfl (Ap rfl rfl rfl (by omega) (by omega) ?_))))
           refine Af rfl rfl (Ab (A5 (Aa ?_)))
           have P3:=P2.swap (s3.mono (Nat.le_refl _) (by omega))
           exact ⟨⟨mid+1,b',lim,_,t,g3⟩,rfl,⟨rfl,rfl,rfl,rfl,rfl,trivial⟩,⟨hlim,P3.right hm1 hm2 (PartU.sw PP s3 (.inl ⟨Nat.le_refl _,Nat.le_refl _⟩)) o3,H⟩,by dsimp only; omega⟩
          ·intro h8
           replace h8:=AG h8
           refine Ag (Ad rfl rfl (Ad rfl rfl (CD rfl rfl rfl (Ai rfl rfl (Ab (Aa (Ag (An rfl rfl (Ad rfl rfl (Ap rfl rfl rfl (by omega) (by omega) ?_))))))))))
           rw [show (mid:Int)+1=((mid+1:Nat):Int) by omega]
           refine Ad rfl rfl (Ad rfl rfl (Ao rfl OY (ih (a:=mid+1) (b:=b') (lim:=lim) (f:=g2) (by omega) (H.get at0) (by omega) (by omega) hlim (fun _ x hx hxb=>PP.ge x (by omega) hxb)) rfl ?_))
           rintro rv w ⟨rfl,g3,s3,o3,H2⟩
           replace H:=Ctx.back (L1:=[_]) (L2:=[]) H H2
           refine Ab (Aa (Aw (Ad rfl rfl (Af rfl rfl (Ab (A5 (Aa ?_)))))))
           have P3:=P2.swap (s3.mono (by omega) (Nat.le_refl _))
           have P4:=P3.left hm1 hm2 (PartU.sw PP s3 (.inr ⟨by omega,Nat.le_refl _⟩)) o3
           exact ⟨⟨a',mid,lim,_,t,g3⟩,rfl,⟨rfl,rfl,rfl,rfl,rfl,trivial⟩,⟨hlim,P4,H⟩,by show mid - a'<b' - a'; omega⟩

set_option maxRecDepth 20000 in
theorem Xs {q n c m:Nat} {w:World} {f:Nat→Int} (hd:w.heap[q]? = some (Bl 24 (C4 f m))) (hn:n≤m) (hm:n≤1000000000) :
  Ret Tryz.prog 122 #[.slice (some ⟨q,0,none⟩) n c] w fun v w'=>v = .tuple #[]∧∃ g,(tab g n).Perm (tab f n)∧Ii g 0 n∧Ctx w [q] w' [(q,Bl 24 (C4 g m))]:=by
 obtain ⟨w0,rfl⟩:∃ w0,w0=w:=⟨_,rfl⟩
 refine A1 (fn:=Tryz.f122) Tryz.func122 rfl [.slice (some ⟨q,0,none⟩) n c] rfl (by kernel_rfl) ?_
 refine Ag (An rfl rfl (AU rfl Be rfl (Af rfl rfl (Ab (Aa (Aw (An rfl rfl (Ad rfl rfl (Ad rfl rfl (D3 rfl rfl Gu Qu (by omega) (by omega) ?_))))))))))
 refine Ao rfl Si (S8 n (by omega) _) rfl ?_
 rintro v w ⟨r,rfl,h1,h2,h3,rfl⟩
 refine Ao rfl OY (Adp hn hm (n+1) (a:=0) (b:=n) (lim:=r) (by omega) hd (Nat.zero_le _) (Nat.le_refl _) (by omega) (fun h=>absurd h (Nat.lt_irrefl _))) rfl ?_
 rintro rv w ⟨rfl,g,s,o,H⟩
 refine Ab (CJ rfl rfl ?_)
 exact ⟨rfl,g,s.perm (Nat.le_refl _),o,H⟩
theorem S9 (c:Nat) (w:World):Ret Tryz.prog 122 #[.slice none 0 c] w fun v w'=>v = .tuple #[]∧w=w':=by
 have ins:∀ w,Ret Tryz.prog 200 #[.slice none 0 c,.int .i64 0,.int .i64 0] w fun v w'=>v = .tuple #[]∧w=w':=fun w=>by
  refine A1 (fn:=Tryz.f200) Tryz.func200 rfl [.slice none 0 c,.int .i64 0,.int .i64 0] rfl (by kernel_rfl) ?_
  refine Ag (Ad rfl rfl (Ap rfl rfl rfl (by omega) (by omega) ?_))
  refine Af rfl rfl (Ab (Aa (Au (Bi 562949953420480 (α:=Unit) (fun _=>[(6,.int .i64 1)]) (fun _ w'=>w=w') (fun _=>0) () rfl ?_ ?_ ?_))))
  ·exact ⟨rfl,trivial⟩
  ·rfl
  ·rintro - j0 w rfl
   refine Aq (Ag (Ad rfl rfl (Ad rfl rfl (AN rfl rfl rfl (Ab (Aa (Ax _ rfl ?_ ?_)))))))
   ·intro h1
    replace h1:=AF h1
    omega
   ·intro h1
    replace h1:=AG h1
    refine Bd (Aj (Aj (AD (CJ rfl rfl ?_))))
    exact ⟨rfl,rfl⟩
 have pdq:∀ (r:Nat) (w:World),Ret Tryz.prog 174 #[.slice none 0 c,.int .i64 0,.int .i64 0,.int .i64 (r:Int)] w fun v w'=>v = .tuple #[]∧w=w':=fun r w=>by
  refine A1 (fn:=Tryz.f174) Tryz.func174 rfl [.slice none 0 c,.int .i64 0,.int .i64 0,.int .i64 (r:Int)] rfl (by kernel_rfl) ?_
  refine Ag (Ai rfl rfl (Ab (Aa (Ag (Ai rfl rfl (Ab (Aa (Au (Bi 21778071482940061661655974875633165532942 (α:=Unit) (fun _=>[(1,.int .i64 0),(2,.int .i64 0),(3,.int .i64 (r:Int)),(8,.bool true),(9,.bool true)]) (fun _ w'=>w=w') (fun _=>0) () rfl ?_ ?_ ?_)))))))))
  ·exact ⟨rfl,rfl,rfl,rfl,rfl,trivial⟩
  ·rfl
  ·rintro - j0 w rfl
   refine Au (Ag (Ad rfl rfl (Ad rfl rfl (Bf rfl rfl rfl (by omega) (by omega) ?_))))
   refine Af rfl rfl (Ab (Aa (Aq (Ag (Ad rfl rfl (J3 rfl rfl rfl (Ab (Aa (Ax _ rfl ?_ ?_)))))))))
   ·intro h1
    replace h1:=AF h1
    refine Ag (An rfl rfl (Ad rfl rfl (Ad rfl rfl (Ao rfl W0 (ins _) rfl ?_))))
    rintro v w ⟨rfl,rfl⟩
    refine Ab (Aa (A9 (Al (A4 (Al (A4 (EM rfl rfl ?_)))))))
    exact ⟨rfl,rfl⟩
   ·intro h1
    replace h1:=AG h1
    omega
 refine A1 (fn:=Tryz.f122) Tryz.func122 rfl [.slice none 0 c] rfl (by kernel_rfl) ?_
 refine Ag (An rfl rfl (AU rfl Be rfl (Af rfl rfl (Ab (Aa (Aw (An rfl rfl (Ad rfl rfl (Ad rfl rfl (D3 rfl rfl Gu Qu (by omega) (by omega) ?_))))))))))
 refine Ao rfl Si (S8 0 (by omega) _) rfl ?_
 rintro v w ⟨r,rfl,h1,h2,h3,rfl⟩
 refine Ao rfl OY (pdq r _) rfl ?_
 rintro v w ⟨rfl,rfl⟩
 refine Ab (CJ rfl rfl ?_)
 exact ⟨rfl,rfl⟩

end Go.Proofs.YtapphbmlkdhnmaaGreat

/- Money: the walks. -/
namespace Go.Proofs.YtapphbmlkdhnmaaGreat
open Go.GV
attribute [local irreducible] A2 W Wq Wt

def Fa (x:Int):Bool:=decide (0≤x) && decide (x≤4503599627370496)
theorem SA (x:Int) (w:World):Ret Tryz.prog 109 #[.int .i64 x] w fun v w'=>v = .bool (Fa x)∧w=w':=by
 obtain ⟨w0,rfl⟩:∃ w0,w0=w:=⟨_,rfl⟩
 refine A1 (fn:=Tryz.f109) Tryz.func109 rfl [.int .i64 x] rfl (by kernel_rfl) ?_
 refine Ag (Ai rfl rfl (Ab (Aa (Ag (Ad rfl rfl (CD rfl rfl rfl (Ak rfl rfl (A8 5 rfl ?_ ?_))))))))
 ·intro h1
  replace h1:=AF h1
  refine Ad rfl rfl (J3 rfl rfl rfl (Am rfl rfl (.bool _) rfl (Ai rfl rfl (Ab (Aa (A9 (AB (v:=(.bool _)) rfl rfl rfl ?_)))))))
  exact ⟨congrArg Value.bool (by unfold Fa; rw [Bool.eq_iff_iff]; simp_all; try omega),rfl⟩
 ·intro h2
  replace h2:=AG h2
  refine Ae rfl (Ae rfl (A3 rfl rfl (.bool _) rfl (Ai rfl rfl (Ab (Aa (A9 (AB (v:=(.bool _)) rfl rfl rfl ?_)))))))
  exact ⟨congrArg Value.bool (by unfold Fa; rw [Bool.eq_iff_iff]; simp_all; try omega),rfl⟩
set_option maxRecDepth 20000 in
theorem Va (a:Option Addr) (n c:Nat) (xs:List Int) (w:World) (R:Rd w a 1 I1 xs) (hn:xs.length=n) (hn2:n≤1000000) :
  Ret Tryz.prog 160 #[.slice a n c] w fun v w'=>v = .bool (xs.all Fa)∧w=w':=by
 subst hn
 obtain ⟨w0,rfl⟩:∃ w0,w0=w:=⟨_,rfl⟩
 refine A1 (fn:=Tryz.f160) Tryz.func160 rfl [.slice a xs.length c] rfl (by kernel_rfl) ?_
 refine Ag (Ai rfl rfl (Ab (Aa (Aq (Ag (An rfl rfl (AU rfl AR rfl (Ad rfl rfl (Ab (Aa (Au ?_)))))))))))
 refine Bi 32660 (α:=Nat) (fun i=>[(7,.int .i64 (i:Int))]) (fun i w'=>i≤xs.length∧w0=w'∧∀ (k:Nat) (x:Int),k<i→xs[k]? = some x→Fa x=true) (fun i=>xs.length - i) 0 rfl ?_ ?_ ?_
 ·exact ⟨rfl,trivial⟩
 ·exact ⟨Nat.zero_le _,rfl,fun k x h=>absurd h (Nat.not_lt_zero _)⟩
 ·rintro i j w ⟨hi,rfl,hb⟩
  refine Ag (AN rfl rfl rfl (Ab (Aa (Aq (Ax _ rfl ?_ ?_)))))
  ·intro h1
   replace h1:=AF h1
   obtain ⟨x,hx⟩:=AC (l:=xs) (i:=i) (by omega)
   refine Av (Aa (Aq (Au (Ag (AZ R rfl AR B2 rfl rfl (by omega) (by omega) (by rfl) ?_)))))
   refine AX rfl Bw rfl ((R.fld hx rfl (j:=0) rfl)) ?_
   refine Af rfl rfl (Ab (Aa (Ag (Ad rfl rfl (Ao rfl Se (SA x _) rfl ?_)))))
   rintro v w ⟨rfl,rfl⟩
   refine Bu rfl rfl (Ab (Aa (Ax _ rfl ?_ ?_)))
   ·intro h2
    replace h2:=Bp h2
    refine Ag (Ai rfl rfl (Ab (Aa (A9 (A4 (Al (Al (A4 (Al (AB (v:=(.bool _)) rfl rfl rfl ?_))))))))))
    refine ⟨congrArg Value.bool ?_,rfl⟩
    exact (D5 hx (show Fa x=false by simpa using h2)).symm
   ·intro h2
    replace h2:=Bq h2
    refine Av (A5 (Aa (Aw (Ap rfl rfl rfl (by omega) (by omega) ?_))))
    refine Ad rfl rfl (Ab (Aa ?_))
    refine ⟨i+1,rfl,⟨rfl,trivial⟩,⟨by omega,rfl,fun k y hk hy=>?_⟩,by omega⟩
    rcases Nat.lt_or_ge k i with h7 | h7
    ·exact hb k y h7 hy
    ·obtain rfl:k=i:=by omega
     rw [hx] at hy
     cases hy
     simpa using h2
  ·intro h1
   replace h1:=AG h1
   refine Bd (Aj (Aj (AD (Aa (Ag (Ai rfl rfl (Ab (Aa (A9 (AB (v:=(.bool _)) rfl rfl rfl ?_))))))))))
   exact ⟨congrArg Value.bool (E8 fun k x hk hx=>hb k x (by omega) hx).symm,rfl⟩
/-! ### The sum -/
def EE (xs:List Int):Int:=xs.foldl (·+·) 0
theorem Vb (xs:List Int):∀ a:Int,xs.foldl (·+·) a=a+EE xs:=by
 induction xs with
 | nil=>intro a; show a=a+0; omega
 | cons x xs ih =>
  intro a
  show xs.foldl (·+·) (a+x)=a+xs.foldl (·+·) (0+x)
  rw [ih,ih (0+x)]; omega
theorem Vc {xs:List Int} {i:Nat} {x:Int} (h:xs[i]? = some x):EE (xs.take (i+1))=EE (xs.take i)+x:=by
 rw [List.take_add_one,h]
 unfold EE
 rw [List.foldl_append]; rfl
theorem DE (x:Int) (xs:List Int):EE (x::xs)=x+EE xs:=by
 show xs.foldl (·+·) (0+x)=_
 rw [Vb]; omega
theorem QC (xs ys:List Int):EE (xs++ys)=EE xs+EE ys:=by
 induction xs with
 | nil=>show EE ys=0+_; omega
 | cons x xs ih=>rw [List.cons_append,DE,DE,ih]; omega
theorem Vd {xs ys:List Int} (h:xs.Perm ys):EE xs=EE ys:=by
 induction h with
 | nil=>rfl
 | cons x _ ih=>rw [DE,DE,ih]
 | swap x y l=>rw [DE,DE,DE,DE]; omega
 | trans _ _ h1 h2=>exact h1.trans h2
theorem Le {xs:List Int} (h:∀ x∈xs,0≤x):0≤EE xs:=by
 induction xs with
 | nil=>exact Int.le_refl _
 | cons x xs ih =>
  rw [DE]
  have:=h x (List.mem_cons_self ..)
  have:=ih fun y hy=>h y (List.mem_cons_of_mem _ hy)
  omega
/-- What Sum answers: the total, and a code. -/
def Hr (xs:List Int):Int × Int:=if xs.all Fa=false then (0,1) else if EE xs≤4503599627370496 then (EE xs,0) else (0,13)
theorem Hs {x:Int}:Fa x=true↔0≤x∧x≤4503599627370496:=by unfold Fa; simp
set_option maxRecDepth 20000 in
set_option maxHeartbeats 2000000 in
theorem TS (a:Option Addr) (n c:Nat) (xs:List Int) (w:World) (R:Rd w a 1 I1 xs) (hn:xs.length=n) (hn2:n≤1000000) :
  Ret Tryz.prog 110 #[.slice a n c] w fun v w'=>v = .tuple #[.int .i64 (Hr xs).1,.int .i64 (Hr xs).2]∧w=w':=by
 subst hn
 obtain ⟨w0,rfl⟩:∃ w0,w0=w:=⟨_,rfl⟩
 refine A1 (fn:=Tryz.f110) Tryz.func110 rfl [.slice a xs.length c] rfl (by kernel_rfl) ?_
 refine Ag (Af rfl rfl (Af rfl rfl (Ab (Aa (Aq (Ag (An rfl rfl (Ao rfl Abt (Va a xs.length c xs _ R rfl hn2) rfl ?_))))))))
 rintro v w ⟨rfl,rfl⟩
 refine Bu rfl rfl (Ab (Aa (Ax _ rfl ?_ ?_)))
 ·intro h1
  replace h1:=Bp h1
  refine Ag (Af rfl rfl (Af rfl rfl (Ab (Aa (A9 (Al (DK (v1:=(.int _ _)) (v2:=(.int _ _)) rfl rfl rfl rfl ?_)))))))
  have h1':xs.all Fa=false:=by simpa using h1
  exact ⟨by unfold Hr; rw [if_pos h1'],rfl⟩
 ·intro h1
  replace h1:=Bq h1
  have h1':xs.all Fa=true:=by simpa using h1
  have hall:∀ (k:Nat) (x:Int),xs[k]? = some x→0≤x∧x≤4503599627370496:=fun k x hx=>Hs.1 (List.all_eq_true.1 h1' x (List.mem_of_getElem? hx))
  have hpos:∀ x∈xs,0≤x:=fun x hx=>(Hs.1 (List.all_eq_true.1 h1' x hx)).1
  refine Av (Aa (Ag (Af rfl rfl (Ab (Aa (Aq (Ag (An rfl rfl (AU rfl AR rfl (Ad rfl rfl (Ab (Aa ?_))))))))))))
  refine Au (Bi 8384604 (α:=Nat) (fun i=>[(4,.int .i64 (EE (xs.take i))),(12,.int .i64 (i:Int))]) (fun i w'=>i≤xs.length∧w0=w'∧EE (xs.take i)≤4503599627370496) (fun i=>xs.length - i) 0 rfl ?_ ?_ ?_)
  ·exact ⟨rfl,rfl,trivial⟩
  ·exact ⟨Nat.zero_le _,rfl,by show (0:Int)≤_; omega⟩
  ·rintro i j w ⟨hi,rfl,hb⟩
   have hs0:0≤EE (xs.take i):=Le fun y hy=>hpos y (List.mem_of_mem_take hy)
   refine Ag (AN rfl rfl rfl (Ab (Aa (Aq (Ax _ rfl ?_ ?_)))))
   ·intro h2
    replace h2:=AF h2
    obtain ⟨x,hx⟩:=AC (l:=xs) (i:=i) (by omega)
    obtain ⟨hx0,hx1⟩:=hall i x hx
    have hst:=Vc hx
    refine Av (Aa (Aq (Au (Ag (AZ R rfl AR B2 rfl rfl (by omega) (by omega) (by rfl) ?_)))))
    refine AX rfl Bw rfl ((R.fld hx rfl (j:=0) rfl)) ?_
    refine Af rfl rfl (Ab (Aa (Ag (Ad rfl rfl (Ad rfl rfl (Ap rfl rfl rfl (by omega) (by omega) ?_))))))
    rw [← hst]
    refine Af rfl rfl (Ab (Aa (Ag (Ad rfl rfl (Ao rfl Se (SA (EE (xs.take (i+1))) _) rfl ?_)))))
    rintro v w ⟨rfl,rfl⟩
    refine Bu rfl rfl (Ab (Aa (Ax _ rfl ?_ ?_)))
    ·intro h3
     replace h3:=Bp h3
     refine Ag (Af rfl rfl (Af rfl rfl (Ab (Aa (A9 (A4 (Al (Al (A4 (Al (DK (v1:=(.int _ _)) (v2:=(.int _ _)) rfl rfl rfl rfl ?_)))))))))))
     have h4:Fa (EE (xs.take (i+1)))=false:=by simpa using h3
     have h5:¬ EE (xs.take (i+1))≤4503599627370496:=fun h=>by
      rw [Hs.2 ⟨by omega,h⟩] at h4; cases h4
     have h6:EE xs=EE (xs.take (i+1))+EE (xs.drop (i+1)):=by rw [← QC,List.take_append_drop]
     have h7:=Le (xs:=xs.drop (i+1)) fun y hy=>hpos y (List.mem_of_mem_drop hy)
     exact ⟨by unfold Hr; rw [if_neg (by rw [h1']; decide),if_neg (by omega)],rfl⟩
    ·intro h3
     replace h3:=Bq h3
     refine Av (A5 (Aa (Aw (Ap rfl rfl rfl (by omega) (by omega) ?_))))
     refine Ad rfl rfl (Ab (Aa ?_))
     have h4:Fa (EE (xs.take (i+1)))=true:=by simpa using h3
     exact ⟨i+1,rfl,⟨rfl,rfl,trivial⟩,⟨by omega,rfl,(Hs.1 h4).2⟩,by omega⟩
   ·intro h2
    replace h2:=AG h2
    refine Bd (Aj (Aj (AD (Aa (Ag (Ad rfl rfl (Af rfl rfl (Af rfl rfl (Ab (Aa (A9 (DK (v1:=(.int _ _)) (v2:=(.int _ _)) rfl rfl rfl rfl ?_))))))))))))
    obtain rfl:i=xs.length:=by omega
    rw [List.take_length] at hb ⊢
    exact ⟨by unfold Hr; rw [if_neg (by rw [h1']; decide),if_pos hb],rfl⟩
end Go.Proofs.YtapphbmlkdhnmaaGreat

/- Money: sums that come to nothing, shifts. -/
namespace Go.Proofs.YtapphbmlkdhnmaaGreat
open Go.GV
attribute [local irreducible] A2 W Wq Wt

section
variable {P:Program} {r:Option Nat} {ops rest:List Oper} {Q:Exit→Env→World→Prop} {e:Env} {w:World} {dst:Option Tmp} {ty:TypeId} {pos:String} {af:Array Edge} {g:Option (Nat × Bool)}
end
def Xt (x:Int):Bool:=decide (-4503599627370496≤x) && decide (x≤4503599627370496)
def evenM (xs:List Int):Bool:=xs.all Xt && decide (EE xs=0)
/-! ### Shift -/
def SB (xs ys:List Int):List Int:=List.zipWith (·+·) xs ys
/-- Its code. -/
def Xu (xs ys:List Int):Int :=
 if (decide (xs.length=ys.length) && (xs.all Fa && evenM ys))=false then 1 else if (SB xs ys).all (fun x=>decide (0≤x))=false then 12 else if (SB xs ys).all Fa=false then 13 else 0
end Go.Proofs.YtapphbmlkdhnmaaGreat

/- Keys of the dues' map, in whatever order. -/
namespace Go.Proofs.YtapphbmlkdhnmaaGreat
open Go.GV
attribute [local irreducible] A2 W Wq Wt

structure DueK (b2 b:Nat) (o:Obj) (w:World):Prop where
 h2:w.heap[b2]? = some (Bl 121 [.map (some b)])
 hb:w.heap[b]? = some o
def keySt (m:List (Int × Value)) (vis:List (Int × Value)) (v:List Value) (vis':List (Int × Value)):Prop:=∃ p,vis'=vis++[p]∧v=[.int .u64 p.1]∧p∈m∧vis.length<m.length
end Go.Proofs.YtapphbmlkdhnmaaGreat

/- The keys of the dues' map: gathered, sorted. -/
namespace Go.Proofs.YtapphbmlkdhnmaaGreat
open Go.GV
attribute [local irreducible] A2 W Wq Wt

def Fb (x:Int):Value := .int .u64 x
/-- A slice of numbers of 64 bits that the call has made. -/
structure FreshU (w w':World) (v:Value) (l:List Int):Prop where
 ex:∃ a n c full,v = .slice a n c∧OS a n c 1 full (l.map Fb)∧(∀ x∈full,∃ z,x=Fb z)∧∀ x∈ent a 24 full,w'.heap[x.1]? = some x.2∧w.heap.size≤x.1
 ext:Ext [] w w'
def keysF (bk:Nat):Value := .func (.func 123) #[] #[ptr bk]
/-- What the rounds leave. -/
def appJ (w0:World) (bk b bb k:Nat) (o:Obj) (vis:List (Int × Value)) (M:Mt) (w:World):Prop :=
 ∃ a c full,(M=fun y=>y∈((bb,Bl 25 [.slice a vis.length c])::ent a 24 full).map (·.1))∧Ctx w0 [] w ((bb,Bl 25 [.slice a vis.length c])::ent a 24 full) ∧
  OS a vis.length c 1 full (vis.map fun p=>Fb p.1)∧(∀ x∈full,∃ z,x=Fb z)∧DueK bk b o w∧∀ y∈((bb,Bl 25 [.slice a vis.length c])::ent a 24 full).map (·.1),y≠k∧y≠k+1
end Go.Proofs.YtapphbmlkdhnmaaGreat

/- The keys of the dues' map, sorted; the dues' amounts. -/
namespace Go.Proofs.YtapphbmlkdhnmaaGreat
open Go.GV
attribute [local irreducible] A2 W Wq Wt

theorem Xv {x y:Int} (h:Fb x=Fb y):x=y:=by unfold Fb at h; injection h
theorem Ps:∀ (l:List Value),(∀ x∈l,∃ z,x=Fb z)→∃ zs:List Int,l=zs.map Fb
 | [],_=>⟨[],rfl⟩
 | x::l,h=>by
  obtain ⟨z,rfl⟩:=h x (List.mem_cons_self ..)
  obtain ⟨zs,rfl⟩:=Ps l fun y hy=>h y (List.mem_cons_of_mem _ hy)
  exact ⟨z::zs,rfl⟩
theorem KE:∀ {l m:List Int},l.map Fb=m.map Fb→l=m
 | [],[],_=>rfl
 | [],_::_,h=>by cases h
 | _::_,[],h=>by cases h
 | x::l,y::m,h=>by
  simp only [List.map_cons,List.cons.injEq] at h
  rw [Xv h.1,KE h.2]
theorem Ki (f:Nat→Int) (n:Nat):C4 f n=(tab f n).map Fb:=by unfold tab; rw [List.map_map]; rfl
theorem QD (f:Nat→Int) {n m:Nat} (h:n≤m):(tab f m).take n=tab f n:=by
 unfold tab
 rw [← List.map_take,List.take_range,Nat.min_eq_left h]
theorem Adq {g:Nat→Int} {n:Nat} (h:Ii g 0 n):(tab g n).Pairwise (·≤·):=by
 rw [List.pairwise_iff_getElem]
 intro i j hi hj hij
 rw [Db] at hi hj
 have h1:=BM (f:=g) hi
 have h2:=BM (f:=g) hj
 rw [List.getElem?_eq_getElem (by rw [Db]; exact hi)] at h1
 rw [List.getElem?_eq_getElem (by rw [Db]; exact hj)] at h2
 injection h1 with h1
 injection h2 with h2
 rw [h1,h2]
 exact h i j (Nat.zero_le _) hij hj
theorem sortF {a:Option Addr} {n c:Nat} {full:List Value} {l:List Int} (w:World) (O:OS a n c 1 full (l.map Fb)) (Z:∀ x∈full,∃ z,x=Fb z) (hb:∀ x∈ent a 24 full,w.heap[x.1]? = some x.2) (hn:n≤1000000000) :
  Ret Tryz.prog 122 #[.slice a n c] w fun v w'=>v = .tuple #[]∧∃ (full':List Value) (l':List Int),l'.Perm l∧l'.Pairwise (·≤·)∧OS a n c 1 full' (l'.map Fb)∧(∀ x∈full',∃ z,x=Fb z)∧(∀ x∈ent a 24 full',w'.heap[x.1]? = some x.2)∧Ext ((ent a 24 full).map (·.1)) w w':=by
 cases a with
 | none =>
  obtain rfl:n=0:=by have:=O.none' rfl; have:=O.le; omega
  have hl:l=[]:=by have:=O.llen; rw [List.length_map] at this; exact List.eq_nil_of_length_eq_zero (by omega)
  subst hl
  refine Ret.mono (S9 c w) ?_
  rintro v w' ⟨rfl,rfl⟩
  exact ⟨rfl,full,[],List.Perm.refl _,.nil,O,Z,hb,Ext.refl _ _⟩
 | some p =>
  have hp:=O.zero p rfl
  obtain ⟨q,o,sp⟩:=p
  simp only [Addr.mk.injEq,true_and] at hp
  obtain ⟨rfl,rfl⟩:=hp
  obtain ⟨zs,rfl⟩:=Ps full Z
  have hlen:=O.len
  rw [List.length_map,Nat.mul_one] at hlen
  have hpre:=O.pre
  rw [Nat.mul_one,← List.map_take] at hpre
  have hpre:=KE hpre
  have hzs:tab (fun i=>zs.getD i 0) c=zs:=by rw [← hlen]; exact WT zs
  have hb0:w.heap[q]? = some (Bl 24 (C4 (fun i=>zs.getD i 0) c)):=by
   rw [Ki,hzs]
   exact hb (q,Bl 24 (zs.map Fb)) (List.mem_singleton.2 rfl)
  refine Ret.mono (Xs (c:=c) hb0 O.le hn) ?_
  rintro v w' ⟨rfl,g,hP,hS,H⟩
  have hS0:((ent (some ⟨q,0,none⟩) 24 (zs.map Fb)).map (·.1))=[q]:=by simp [ent]
  refine ⟨rfl,C4 g c,tab g n,?_,Adq hS,⟨O.zero,O.none',by simp,O.le,?_⟩,fun x hx=>?_,fun x hx=>?_,by rw [hS0]; exact H.ext⟩
  ·rw [← QD (fun i=>zs.getD i 0) O.le,hzs,hpre] at hP
   exact hP
  ·rw [Nat.mul_one,Ki,← List.map_take,QD g O.le]
  ·rw [Ki,List.mem_map] at hx
   obtain ⟨z,_,rfl⟩:=hx
   exact ⟨z,rfl⟩
  ·simp only [ent,List.mem_singleton] at hx
   subst hx
   exact H.get at0
end Go.Proofs.YtapphbmlkdhnmaaGreat

/- The dues: amounts. -/
namespace Go.Proofs.YtapphbmlkdhnmaaGreat
open Go.GV
attribute [local irreducible] A2 W Wq Wt

structure Du where
 id:Int
 fr:Int
 to:Int
 am:Int
 we:Int
 un:Int
 held:Bool
instance:DecidableEq Du:=fun x y=>if h:x.id=y.id∧x.fr=y.fr∧x.to=y.to∧x.am=y.am∧x.we=y.we∧x.un=y.un∧x.held=y.held then isTrue (by cases x; cases y; simp_all) else isFalse fun e=>h (by subst e; exact ⟨rfl,rfl,rfl,rfl,rfl,rfl,rfl⟩)
abbrev Ee (d:Du):List Value:=[.int .u64 d.id,.int .i64 d.fr,.int .i64 d.to,.int .i64 d.am,.int .i64 d.we,.int .i64 d.un,.bool d.held]
abbrev Nq (d:Du):Value := .agg #[.int .u64 d.id,.int .i64 d.fr,.int .i64 d.to,.int .i64 d.am,.int .i64 d.we,.int .i64 d.un,.bool d.held]
theorem FN (d:Du):∀ v∈Ee d,Bz v=true:=by simp [Ee,Bz]
def dm (ds:List Du):List (Int × Value):=ds.map fun d=>(d.id,Nq d)
theorem Adr {ds:List Du} {p:Int × Value} (h:p∈dm ds):∃ d∈ds,p=(d.id,Nq d):=by
 obtain ⟨d,hd,rfl⟩:=List.mem_map.1 h
 exact ⟨d,hd,rfl⟩
def amV (p:Int × Value):Int:=match p.2 with
 | .agg vs=>match vs.toList with | [_,_,_,.int _ x,_,_,_]=>x | _=>0
 | _=>0
theorem Ads (ds:List Du):(dm ds).map amV=ds.map (·.am):=by unfold dm; rw [List.map_map]; rfl
abbrev DU (b:Nat) (nx:Int):List Value:=[.map (some b),.int .u64 nx]
structure VSt where
 vis:List (Int × Value)
 it:Obj
 a:Option Addr
 c:Nat
 full:List Value
set_option maxRecDepth 20000 in
set_option maxHeartbeats 2000000 in
theorem SD {bd b:Nat} {nx:Int} {o:Obj} {ds:List Du} (w:World) (hd:w.heap[bd]? = some (Bl 123 (DU b nx))) (hb:w.heap[b]? = some o) (hM:J6 .u64 (dm ds) o) (hn:ds.length≤1000000) :
  Ret Tryz.prog 113 #[ptr bd] w fun v w'=>∃ l:List Int,l.Perm (ds.map (·.am))∧Fresh w w' 2 1 v (l.map UI):=by
 obtain ⟨w0,rfl⟩:∃ w0,w0=w:=⟨_,rfl⟩
 have H:=Ctx.start w0 []
 have hdl:(dm ds).length=ds.length:=by unfold dm; rw [List.length_map]
 refine A1 (fn:=Tryz.f113) Tryz.func113 rfl [.pointer (some ⟨bd,0,none⟩)] rfl (by kernel_rfl) ?_
 refine Ag (AJ rfl rfl (Ab (Aa (Ag (AJ rfl rfl (Ab (Aa (Aq (Ag (Bj rfl rfl (Bc rfl rfl ?_)))))))))))
 refine Ah rfl Qr rfl (AX rfl Wh rfl ((by rw [Ay hd]; rfl)) ?_)
 refine Wb rfl WA rfl H hb hM ?_
 rintro bi it w hV H
 refine Ab (Aa (Au (Bi 1046568 (α:=VSt) (fun t=>[(3,.slice t.a t.vis.length t.c)]) (fun t w'=>VisO .u64 b (dm ds) t.vis o t.it∧OS t.a t.vis.length t.c 1 t.full ((t.vis.map amV).map UI)∧Ctx w0 [] w' ((bi,t.it)::ent t.a 2 t.full)) (fun t=>(dm ds).length - t.vis.length) ⟨[],it,none,0,[]⟩ rfl ?_ ?_ ?_)))
 ·exact ⟨rfl,trivial⟩
 ·exact ⟨hV,OS.nil,H⟩
 ·rintro ⟨vis,it,a,c,full⟩ j w ⟨hV,O,H⟩; dsimp only at hV O H; dsimp only
  refine Ag (YJ rfl (fun _=>rfl) rfl H (H.ext.to hb (by simp)) at0 hV ?_)
  rintro vs more it' w hc H1
  clear H
  have H:Ctx w0 [] w ((bi,it')::ent a 2 full):=H1
  clear H1
  skip
  refine Ab (Aa (Aq (Ax _ rfl ?_ ?_)))
  ·intro h1
   obtain ⟨p,hV'⟩:∃ p,VisO .u64 b (dm ds) (vis++[p]) o it':=hc.elim (fun h=>by rw [h.1] at h1; cases h1) fun h=>h.2
   obtain ⟨d,hd2,rfl⟩:=Adr (hV'.mem p (by simp))
   have hle:=hV'.le
   rw [hdl] at hle
   have hl1:(vis++[(d.id,Nq d)]).length=vis.length+1:=by rw [List.length_append]; rfl
   rw [hl1] at hle
   refine Av (Aa (Au (Ag (UC rfl rfl H (H.ext.to hb (by simp)) at0 hV' ?_))))
   refine A7 rfl rfl rfl (Bm rfl Ig H ?_)
   rintro b5 w - H
   refine BD rfl D4 rfl rfl rfl (by exact FN _) H at0 rfl ?_
   rintro w H
   refine Ab (Aa (Aw (An rfl rfl (Ah rfl L4 rfl (AA rfl Bw rfl H at0 rfl (DC _ (.int _ _) rfl AR B2 GP rfl (by decide) (by decide) rfl rfl rfl H ?_))))))
   rintro b18 w - H
   refine DM (L:=[_,_]) rfl AR AR B2 OV GP rfl (by decide) rfl rfl H O rfl (by simp [Bz]) (by omega) ?_
   rintro a' c' full' w H O
   refine AJ rfl rfl (Ab (A5 (Aa ?_)))
   exact ⟨⟨vis++[(d.id,Nq d)],it',a',c',full'⟩,rfl,⟨by dsimp only; rw [hl1]; rfl,trivial⟩,⟨hV',by dsimp only; rw [hl1,List.map_append,List.map_append]; exact O,H.tail⟩,by dsimp only; rw [hl1,hdl]; omega⟩
  ·intro h1
   obtain ⟨hp,rfl⟩:vis.Perm (dm ds)∧it'=it:=hc.elim (fun h=>h.2) fun h=>by rw [h.1] at h1; cases h1
   refine Bd (Aj (Aj (AD (Aa (Ag (An rfl rfl (AJ rfl rfl (Ab (Aa (A9 (AB (v:=(.slice _ _ _)) rfl rfl rfl ?_)))))))))))
   refine ⟨vis.map amV,?_,Ctx.fresh (L:=[_]) H O⟩
   rw [← Ads]
   exact hp.map _
end Go.Proofs.YtapphbmlkdhnmaaGreat

/- The dues, listed. -/
namespace Go.Proofs.YtapphbmlkdhnmaaGreat
open Go.GV
attribute [local irreducible] A2 W Wq Wt

def d00:Du:=⟨0,0,0,0,0,0,false⟩
def lookD (ds:List Du) (k:Int):Du:=(ds.find? fun d=>d.id == k).getD d00
/-- The dues, by their numbers. -/
def SortD (ds' ds:List Du):Prop:=ds'.Perm ds∧(ds'.map (·.id)).Pairwise (·<·)
end Go.Proofs.YtapphbmlkdhnmaaGreat

/- The dues: which may be. -/
namespace Go.Proofs.YtapphbmlkdhnmaaGreat
open Go.GV
attribute [local irreducible] A2 W Wq Wt

def NV (x:Int):Bool:=decide (0≤x) && decide (x<16)
theorem QE (x:Int) (w:World):Ret Tryz.prog 161 #[.int .i64 x] w fun v w'=>v = .bool (NV x)∧w=w':=by
 obtain ⟨w0,rfl⟩:∃ w0,w0=w:=⟨_,rfl⟩
 refine A1 (fn:=Tryz.f161) Tryz.func161 rfl [.int .i64 x] rfl (by kernel_rfl) ?_
 refine Ag (Ai rfl rfl (Ab (Aa (Ag (Ad rfl rfl (CD rfl rfl rfl (Ak rfl rfl (A8 5 rfl ?_ ?_))))))))
 ·intro h1
  replace h1:=AF h1
  refine Ad rfl rfl (AN rfl rfl rfl (Am rfl rfl (.bool _) rfl (Ai rfl rfl (Ab (Aa (A9 (AB (v:=(.bool _)) rfl rfl rfl ?_)))))))
  exact ⟨congrArg Value.bool (by unfold NV; rw [Bool.eq_iff_iff]; simp_all; try omega),rfl⟩
 ·intro h2
  replace h2:=AG h2
  refine Ae rfl (Ae rfl (A3 rfl rfl (.bool _) rfl (Ai rfl rfl (Ab (Aa (A9 (AB (v:=(.bool _)) rfl rfl rfl ?_)))))))
  exact ⟨congrArg Value.bool (by unfold NV; rw [Bool.eq_iff_iff]; simp_all; try omega),rfl⟩
def Fs (d:Du):Bool:=(NV d.fr && (NV d.to && !decide (d.fr=d.to))) && (decide (1≤d.am) && (Fa d.am && (decide (1≤d.we) && (decide (d.we≤1000) && decide (0≤d.un)))))
set_option maxRecDepth 20000 in
set_option maxHeartbeats 2000000 in
theorem Zx (d:Du) (w:World):Ret Tryz.prog 112 #[Nq d] w fun v w'=>v = .bool (Fs d)∧Ext [] w w':=by
 obtain ⟨w0,rfl⟩:∃ w0,w0=w:=⟨_,rfl⟩
 have H:=Ctx.start w0 []
 refine A1 (fn:=Tryz.f112) Tryz.func112 rfl [Nq d] rfl (by kernel_rfl) ?_
 refine Ag (Bs rfl (Ee d) (.agg _) rfl rfl H ?_)
 rintro b1 w - H
 refine Ai rfl rfl (Ab (Aa (Aq (Au (Aq (Ag (Ah rfl Ly rfl (AA rfl BH rfl H at0 rfl (Ao rfl Ws (QE d.fr _) rfl ?_)))))))))
 rintro v w ⟨rfl,rfl⟩
 refine Bu rfl rfl (Ai rfl rfl (Ab (Aa (CT 3 rfl ?_ ?_))))
 ·intro h1
  replace h1:=Bp h1
  refine Av (Aa (CM rfl (Ag (Ai rfl rfl (Ab (Aa (A9 (A4 (Al (AB (v:=(.bool _)) rfl rfl rfl ?_))))))))))
  exact ⟨congrArg Value.bool (by unfold Fs; rw [Bool.eq_iff_iff]; simp_all; try omega),H.ext⟩
 ·intro h2
  replace h2:=Bq h2
  refine Ag (Ah rfl Lz rfl (AA rfl BH rfl H at0 rfl (Ao rfl Ws (QE d.to _) rfl ?_)))
  rintro v w ⟨rfl,rfl⟩
  refine Bu rfl rfl (Ai rfl rfl (Ab (Aa (CT 3 rfl ?_ ?_))))
  ·intro h3
   replace h3:=Bp h3
   refine Av (Aa (CM rfl (Ag (Ai rfl rfl (Ab (Aa (A9 (A4 (Al (AB (v:=(.bool _)) rfl rfl rfl ?_))))))))))
   exact ⟨congrArg Value.bool (by unfold Fs; rw [Bool.eq_iff_iff]; simp_all; try omega),H.ext⟩
  ·intro h4
   replace h4:=Bq h4
   refine Aw (Ah rfl Ly rfl (AA rfl BH rfl H at0 rfl (Ah rfl Lz rfl (AA rfl BH rfl H at0 rfl (BX rfl rfl rfl (Ai rfl rfl (Ab (Aa (CT 3 rfl ?_ ?_)))))))))
   ·intro h5
    replace h5:=AF h5
    refine Ag (Ai rfl rfl (Ab (Aa (A9 (A4 (Al (AB (v:=(.bool _)) rfl rfl rfl ?_)))))))
    exact ⟨congrArg Value.bool (by unfold Fs; rw [Bool.eq_iff_iff]; simp_all; try omega),H.ext⟩
   ·intro h6
    replace h6:=AG h6
    refine Aq (Ag (Ah rfl L4 rfl (AA rfl Bw rfl H at0 rfl (AN rfl rfl rfl (Ai rfl rfl (Ab (Aa (CT 17 rfl ?_ ?_))))))))
    ·intro h7
     replace h7:=AF h7
     refine Av (Aa (CM rfl (Ag (Ai rfl rfl (Ab (Aa (A9 (A4 (Al (AB (v:=(.bool _)) rfl rfl rfl ?_))))))))))
     exact ⟨congrArg Value.bool (by unfold Fs; rw [Bool.eq_iff_iff]; simp_all; try omega),H.ext⟩
    ·intro h8
     replace h8:=AG h8
     refine Ag (Ah rfl L4 rfl (AA rfl Bw rfl H at0 rfl (Ao rfl Se (SA d.am _) rfl ?_)))
     rintro v w ⟨rfl,rfl⟩
     refine Bu rfl rfl (Ai rfl rfl (Ab (Aa (CT 17 rfl ?_ ?_))))
     ·intro h9
      replace h9:=Bp h9
      refine Av (Aa (CM rfl (Ag (Ai rfl rfl (Ab (Aa (A9 (A4 (Al (AB (v:=(.bool _)) rfl rfl rfl ?_))))))))))
      exact ⟨congrArg Value.bool (by unfold Fs; rw [Bool.eq_iff_iff]; simp_all; try omega),H.ext⟩
     ·intro h10
      replace h10:=Bq h10
      refine Ag (Ah rfl Pb rfl (AA rfl Bw rfl H at0 rfl (AN rfl rfl rfl (Ai rfl rfl (Ab (Aa (CT 17 rfl ?_ ?_)))))))
      ·intro h11
       replace h11:=AF h11
       refine Av (Aa (CM rfl (Ag (Ai rfl rfl (Ab (Aa (A9 (A4 (Al (AB (v:=(.bool _)) rfl rfl rfl ?_))))))))))
       exact ⟨congrArg Value.bool (by unfold Fs; rw [Bool.eq_iff_iff]; simp_all; try omega),H.ext⟩
      ·intro h12
       replace h12:=AG h12
       refine Ag (Ah rfl Pb rfl (AA rfl Bw rfl H at0 rfl (C0 rfl rfl rfl (Ai rfl rfl (Ab (Aa (CT 17 rfl ?_ ?_)))))))
       ·intro h13
        replace h13:=AF h13
        refine Av (Aa (CM rfl (Ag (Ai rfl rfl (Ab (Aa (A9 (A4 (Al (AB (v:=(.bool _)) rfl rfl rfl ?_))))))))))
        exact ⟨congrArg Value.bool (by unfold Fs; rw [Bool.eq_iff_iff]; simp_all; try omega),H.ext⟩
       ·intro h14
        replace h14:=AG h14
        refine Aw (Ah rfl YM rfl (AA rfl Bw rfl H at0 rfl (AN rfl rfl rfl (Ai rfl rfl (Ab (Aa (CT 17 rfl ?_ ?_)))))))
        ·intro h15
         replace h15:=AF h15
         refine Ag (Ai rfl rfl (Ab (Aa (A9 (A4 (Al (AB (v:=(.bool _)) rfl rfl rfl ?_)))))))
         exact ⟨congrArg Value.bool (by unfold Fs; rw [Bool.eq_iff_iff]; simp_all; try omega),H.ext⟩
        ·intro h16
         replace h16:=AG h16
         refine Av (A5 (Aa (Ag (Ai rfl rfl (Ab (Aa (A9 (AB (v:=(.bool _)) rfl rfl rfl ?_))))))))
         exact ⟨congrArg Value.bool (by unfold Fs; rw [Bool.eq_iff_iff]; simp_all; try omega),H.ext⟩
end Go.Proofs.YtapphbmlkdhnmaaGreat

/- The dues: Of. -/
namespace Go.Proofs.YtapphbmlkdhnmaaGreat
open Go.GV
attribute [local irreducible] A2 W Wq Wt

/-- Dues by their numbers, each of which may be. -/
def Jl (nx:Int):Int→List Du→Bool
 | _,[]=>true
 | ah,d::ds=>(Fs d && (decide (ah<d.id) && decide (d.id<nx))) && Jl nx d.id ds
def IB (ah:Int):List Du→Int
 | []=>ah
 | d::ds=>IB d.id ds
theorem IC (nx:Int):∀ (ah:Int) (ds es:List Du),Jl nx ah (ds++es)=(Jl nx ah ds && Jl nx (IB ah ds) es)
 | _,[],_=>rfl
 | ah,d::ds,es=>by simp only [List.cons_append,Jl,IB,IC nx d.id ds es,Bool.and_assoc]
theorem Nr (ah:Int) (ds:List Du) (d:Du):IB ah (ds++[d])=d.id:=by
 induction ds generalizing ah with
 | nil=>rfl
 | cons x ds ih=>exact ih x.id
theorem Xw {nx:Int}:∀ {ah:Int} {ds:List Du},Jl nx ah ds=true→(∀ d∈ds,ah<d.id∧d.id≤IB ah ds∧d.id<nx∧Fs d=true)∧(ds.map (·.id)).Pairwise (·<·)∧ah≤IB ah ds
 | _,[],_=>⟨fun _ h=>(by cases h),List.Pairwise.nil,Int.le_refl _⟩
 | ah,x::ds,h=>by
  simp only [Jl,Bool.and_eq_true,decide_eq_true_eq] at h
  obtain ⟨⟨hm,h1,h2⟩,h3⟩:=h
  obtain ⟨i1,i2,i3⟩:=Xw h3
  refine ⟨fun d hd=>?_,?_,?_⟩
  ·rcases List.mem_cons.1 hd with rfl | hd
   ·exact ⟨h1,i3,h2,hm⟩
   ·obtain ⟨a,b,c,e⟩:=i1 d hd
    exact ⟨by omega,b,c,e⟩
  ·rw [List.map_cons,List.pairwise_cons]
   refine ⟨fun k hk=>?_,i2⟩
   obtain ⟨d,hd,rfl⟩:=List.mem_map.1 hk
   exact (i1 d hd).1
  ·show ah≤IB x.id ds
   omega
/-- Of's code. -/
def ofC (ds:List Du) (nx:Int):Int :=
 if 64<ds.length then 6 else if (decide (1≤nx) && decide (nx≤4611686018427387904))=false then 1 else if Jl nx 0 ds=false then 1 else (Hr (ds.map (·.am))).2
theorem Ve {xs ys:List Int} (h:xs.Perm ys):Hr xs=Hr ys:=by
 have h1:xs.all Fa=ys.all Fa:=by
  rw [Bool.eq_iff_iff,List.all_eq_true,List.all_eq_true]
  exact ⟨fun g x hx=>g x (h.mem_iff.2 hx),fun g x hx=>g x (h.mem_iff.1 hx)⟩
 unfold Hr
 rw [h1,Vd h]
theorem Vf {ds:List Du} {k:Int} (h:∀ d∈ds,d.id≠k):Gk (dm ds) k=none:=by
 induction ds with
 | nil=>rfl
 | cons x ds ih =>
  unfold dm Gk at ih ⊢
  rw [List.map_cons,List.find?_cons,show (x.id == k)=false by simpa using h x (List.mem_cons_self ..)]
  exact ih fun d hd=>h d (List.mem_cons_of_mem _ hd)
theorem Adt (ds:List Du) (d:Du):dm ds++[(d.id,Nq d)]=dm (ds++[d]):=by unfold dm; rw [List.map_append]; rfl
theorem Xx {w:World} {b:Nat} {t:TypeId} {l:List Value} (h:w.heap[b]? = some (Bl t l)):∀ j v,l[j]? = some v→w.cell? ⟨b,0+j,none⟩=some v:=fun j v hv=>by rw [Ay h,Nat.zero_add]; exact hv
structure OSt where
 i:Nat
 ah:Int
 o:Obj
set_option maxRecDepth 20000 in
set_option maxHeartbeats 4000000 in
theorem Adu (a:Option Addr) (n c:Nat) (ds:List Du) (nx:Int) (w:World) (R:Rd w a 7 Ee ds) (hn:ds.length=n) (hn2:n≤1000000000) (hnx:0≤nx∧nx<18446744073709551616) (hid:∀ d∈ds,0≤d.id∧d.id<18446744073709551616) :
  Ret Tryz.prog 57 #[.slice a n c,.int .u64 nx] w fun v w'=>∃ p,v = .tuple #[p,.int .i64 (ofC ds nx)]∧(ofC ds nx≠0→p = .pointer none)∧(ofC ds nx=0→∃ bd b o,p=ptr bd∧w'.heap[bd]? = some (Bl 123 (DU b nx))∧w'.heap[b]? = some o∧J6 .u64 (dm ds) o∧w.heap.size≤bd∧w.heap.size≤b∧bd≠b)∧Ext [] w w':=by
 subst hn
 obtain ⟨w0,rfl⟩:∃ w0,w0=w:=⟨_,rfl⟩
 have H:=Ctx.start w0 []
 refine A1 (fn:=Tryz.f57) Tryz.func57 rfl [.slice a ds.length c,.int .u64 nx] rfl (by kernel_rfl) ?_
 refine Ag (Dr rfl rfl (Af rfl rfl (Ab (Aa (Aq (Ag (An rfl rfl (AU rfl DY rfl (C0 rfl rfl rfl (Ab (Aa ?_)))))))))))
 refine Ax _ rfl ?_ ?_
 ·intro h1
  replace h1:=AF h1
  refine Ag (Dr rfl rfl (Af rfl rfl (Ab (Aa (A9 (Al (DK (v1:=(.pointer _)) (v2:=(.int _ _)) rfl rfl rfl rfl ?_)))))))
  have h1':ofC ds nx=6:=by unfold ofC; rw [if_pos (by omega)]
  exact ⟨_,by rw [h1'],fun _=>rfl,(fun h=>by omega),H.ext⟩
 ·intro h1
  replace h1:=AG h1
  have h1':¬ 64<ds.length:=by omega
  refine Av (Aa (Aq (Ag (B5 (α:=Unit) 2064384 (fun _=>[(20,.bool (!(decide (1≤nx) && decide (nx≤4611686018427387904))))]) (fun _ w'=>w'=w0) rfl ?_ ?_))))
  ·refine Ad rfl rfl (AN rfl rfl rfl (Ak rfl rfl (A8 17 rfl ?_ ?_)))
   ·intro h1
    replace h1:=AF h1
    refine Ae rfl (Ae rfl (Am rfl rfl (.bool _) rfl (Ab ?_)))
    exact ⟨rfl,(),rfl,⟨congrArg Value.bool (by rw [Bool.eq_iff_iff]; simp_all; try omega),trivial⟩,rfl⟩
   ·intro h2
    replace h2:=AG h2
    refine Ad rfl rfl (C0 rfl rfl rfl (A3 rfl rfl (.bool _) rfl (Ab ?_)))
    exact ⟨rfl,(),rfl,⟨congrArg Value.bool (by rw [Bool.eq_iff_iff]; simp_all; try omega),trivial⟩,rfl⟩
  rintro - j20 w hw
  subst w
  refine Ax _ rfl ?_ ?_
  ·intro h2
   replace h2:=Bp h2
   refine Ag (Dr rfl rfl (Af rfl rfl (Ab (Aa (A9 (Al (DK (v1:=(.pointer _)) (v2:=(.int _ _)) rfl rfl rfl rfl ?_)))))))
   have h2':ofC ds nx=1:=by unfold ofC; rw [if_neg h1',if_pos (by simpa using h2)]
   exact ⟨_,by rw [h2'],fun _=>rfl,(fun h=>by omega),H.ext⟩
  ·intro h2
   replace h2:=Bq h2
   have h2':(decide (1≤nx) && decide (nx≤4611686018427387904))=true:=by simpa using h2
   have h2n:¬ (decide (1≤nx) && decide (nx≤4611686018427387904))=false:=by rw [h2']; decide
   refine Av (Aa (Ag (Ma .u64 rfl H ?_)))
   rintro b o w hM H
   refine Ad rfl rfl (CC (DU b nx) rfl Acy Ac8 (by kernel_rfl) ?_)
   refine Bs rfl (DU b nx) (.agg _) rfl rfl H ?_
   rintro b24 w - H
   refine Dr rfl rfl (Ab (Aa (Ag (Af rfl rfl (Ab (Aa (Aq (Ag (An rfl rfl (AU rfl DY rfl (Ad rfl rfl ?_)))))))))))
   refine Ab (Aa (Au (Bi 288230376017494704 (α:=OSt) (fun t=>[(7,.int .u64 t.ah),(27,.int .i64 (t.i:Int))]) (fun t w'=>t.i≤ds.length∧t.ah=IB 0 (ds.take t.i)∧Jl nx 0 (ds.take t.i)=true∧J6 .u64 (dm (ds.take t.i)) t.o∧Ctx w0 [] w' [(b24,Bl 123 (DU b nx)),(b,t.o)]) (fun t=>ds.length - t.i) ⟨0,0,o⟩ rfl ?_ ?_ ?_)))
   ·exact ⟨rfl,rfl,trivial⟩
   ·exact ⟨Nat.zero_le _,rfl,rfl,hM,H⟩
   ·rintro ⟨i,ah,o⟩ j w ⟨hi,hah,has,hM,H⟩; dsimp only at hi hah has hM H; dsimp only
    refine Ag (AN rfl rfl rfl (Ab (Aa (Aq (Ax _ rfl ?_ ?_)))))
    ·intro h3
     replace h3:=AF h3
     obtain ⟨d,hd⟩:=AC (l:=ds) (i:=i) (by omega)
     have hdi:=hid d (List.mem_of_getElem? hd)
     have htk:ds.take (i+1)=ds.take i++[d]:=by rw [List.take_add_one,hd]; rfl
     have hasc:Jl nx 0 (ds.take (i+1))=(Fs d && (decide (ah<d.id) && decide (d.id<nx))):=by
      rw [htk,IC,has,Bool.true_and,← hah]
      show (_ && Jl nx d.id [])=_
      show (_ && true)=_
      rw [Bool.and_true]
     refine Av (Aa (Aq (Au (Ag (AZ R rfl DY D4 rfl rfl (by omega) (by omega) (by rfl) ?_)))))
     refine Cr _ rfl Iw D4 rfl rfl ((R.ext0 H.ext).row hd rfl) ?_
     refine Bm rfl Ig H ?_
     rintro b9 w - H
     refine BD rfl D4 rfl rfl rfl (by exact FN _) H at0 rfl ?_
     rintro w H
     refine Ab (Aa (Aq (Ag (B5 (α:=Unit) 70366596694016 (fun _=>[(45,.bool (!(Fs d && (decide (ah<d.id) && decide (d.id<nx)))))]) (fun _ w'=>Ctx w0 [] w' [(b9,Bl 62 (Ee d)),(b24,Bl 123 (DU b nx)),(b,o)]) rfl ?_ ?_))))
     ·refine Bh rfl Iw D4 rfl H at0 rfl (Ao rfl Aa5 (Zx d _) rfl ?_)
      rintro v w ⟨rfl,hx32⟩
      replace H:=H.call hx32
      refine Bu rfl rfl (Ak rfl rfl (A8 34 rfl ?_ ?_))
      ·intro h3
       replace h3:=Bp h3
       refine Ae rfl (Ae rfl (Ae rfl (Ae rfl (Am rfl rfl (.bool _) rfl (Ak rfl rfl (Ae rfl (Ae rfl (Ae rfl (Ae rfl ?_)))))))))
       refine Am rfl rfl (.bool _) rfl (Ab ?_)
       exact ⟨rfl,(),rfl,⟨congrArg Value.bool (by clear hasc; rw [Bool.eq_iff_iff]; simp_all; try omega),trivial⟩,H⟩
      ·intro h4
       replace h4:=Bq h4
       refine Ah rfl IY rfl (AA rfl BK rfl H at0 rfl (Ad rfl rfl (J3 rfl rfl rfl (A3 rfl rfl (.bool _) rfl (Ak rfl rfl (A8 40 rfl ?_ ?_))))))
       ·intro h5
        replace h5:=AF h5
        refine Ae rfl (Ae rfl (Ae rfl (Ae rfl (Am rfl rfl (.bool _) rfl (Ab ?_)))))
        exact ⟨rfl,(),rfl,⟨congrArg Value.bool (by clear hasc; rw [Bool.eq_iff_iff]; simp_all; try omega),trivial⟩,H⟩
       ·intro h6
        replace h6:=AG h6
        refine Ah rfl IY rfl (AA rfl BK rfl H at0 rfl (Ad rfl rfl (CD rfl rfl rfl (A3 rfl rfl (.bool _) rfl (Ab ?_)))))
        exact ⟨rfl,(),rfl,⟨congrArg Value.bool (by clear hasc; rw [Bool.eq_iff_iff]; simp_all; try omega),trivial⟩,H⟩
     rintro - j45 w H
     refine Ax _ rfl ?_ ?_
     ·intro h4
      replace h4:=Bp h4
      refine Ag (Dr rfl rfl (Af rfl rfl (Ab (Aa (A9 (Al (A4 (Al (Al (A4 (Al (DK (v1:=(.pointer _)) (v2:=(.int _ _)) rfl rfl rfl rfl ?_))))))))))))
      have h4':ofC ds nx=1:=by
       unfold ofC
       rw [if_neg h1',if_neg h2n,if_pos]
       have h5:Jl nx 0 ds=Jl nx 0 (ds.take (i+1)++ds.drop (i+1)):=by rw [List.take_append_drop]
       rw [h5,IC,hasc,show (Fs d && (decide (ah<d.id) && decide (d.id<nx)))=false by simpa using h4]; rfl
      exact ⟨_,by rw [h4'],fun _=>rfl,(fun h=>by omega),H.ext⟩
     ·intro h4
      replace h4:=Bq h4
      have h4':(Fs d && (decide (ah<d.id) && decide (d.id<nx)))=true:=by simpa using h4
      have hgt:ah<d.id:=by simp only [Bool.and_eq_true,decide_eq_true_eq] at h4'; exact h4'.2.1
      have hno:Gk (dm (ds.take i)) d.id=none:=Vf fun x hx=>by
       have:=((Xw has).1 x hx).2.1
       omega
      refine Av (Aa (Fx [([0,1,2,3,4,5,6,7,8],9),([10],11),([],12)] (fun z=>z.heap[b9]? = some (Bl 62 (Ee d))∧z.heap[b24]? = some (Bl 123 (DU b nx))) [] B3 (by kernel_rfl) (⟨H.drew.get at0,H.drew.get at1⟩) ?_))
      refine Ba rfl rfl ?_
      refine Dy rfl rfl (B6 rfl rfl (AV rfl Qr rfl (Ck rfl Wh rfl (fun _ hx=>(by rw [Ay hx.2]; rfl)) ?_)))
      refine AV rfl IY rfl (Ck rfl BK rfl (fun _ hx=>(by rw [Ay hx.1]; rfl)) ?_)
      refine Gl _ rfl Iw D4 rfl rfl (fun _ hx=>(Xx hx.1)) ?_
      refine AV rfl IY rfl (Ck rfl BK rfl (fun _ hx=>(by rw [Ay hx.1]; rfl)) ?_)
      refine BJ ?_
      replace H:=H.drew
      refine Qd rfl WA FH zv_62 rfl rfl H at2 hM hno ?_
      rintro st o1 w hE H
      refine Ab (CX (⟨H.get at0,H.get at1⟩) (Ba rfl rfl ?_))
      refine Gb rfl rfl rfl (BJ (Nm (Nq d) rfl rfl rfl rfl H at2 hE ?_))
      rintro o2 w hM2 H
      refine Ab (CX (⟨H.get at0,H.get at1⟩) (Ba rfl rfl ?_))
      refine BJ (Af rfl rfl (Ab (CX (⟨H.get at0,H.get at1⟩) (Ch (A5 (Aa (Aw (Ap rfl rfl rfl (by omega) (by omega) ?_))))))))
      refine Ad rfl rfl (Ab (Aa ?_))
      exact ⟨⟨i+1,d.id,o2⟩,rfl,⟨rfl,rfl,trivial⟩,⟨by dsimp only; omega,by dsimp only; rw [htk,Nr],by dsimp only; rw [hasc]; exact h4',by dsimp only; rw [htk,← Adt]; exact hM2,H.tail⟩,by dsimp only; omega⟩
    ·intro h3
     replace h3:=AG h3
     obtain rfl:i=ds.length:=by omega
     rw [List.take_length] at hM has
     have hC:ofC ds nx=(Hr (ds.map (·.am))).2:=by
      unfold ofC; rw [if_neg h1',if_neg h2n,if_neg (by rw [has]; decide)]
     rw [hC]
     obtain ⟨tt,htt⟩:∃ tt,tt=Hr (ds.map (·.am)):=⟨_,rfl⟩
     rw [← htt]
     refine Bd (Aj (Aj (AD (Aa (Aq (Ag (Bj rfl rfl (Ao rfl Aa6 (SD _ (H.get at0) (H.get at1) hM (by omega)) rfl ?_))))))))
     rintro v w ⟨l,hlp,F⟩
     obtain ⟨a3,n3,c3,f3,rfl,O3,hb3⟩:=F.ex
     replace H:=H.call F.ext
     have hl3:=O3.llen
     rw [List.length_map] at hl3
     have hlq:=hlp.length_eq
     rw [List.length_map] at hlq
     refine Ao rfl Wm (TS a3 n3 c3 l _ (O3.rd1 fun x hx=>(hb3 x hx).1) (by omega) (by omega)) rfl ?_
     rintro v w ⟨rfl,rfl⟩
     rw [Ve hlp]
     rw [← htt]
     refine BG rfl rfl (A7 rfl rfl rfl (A7 rfl rfl rfl (Af rfl rfl (Af rfl rfl (Ab (Aa (Ag (Ad rfl rfl (CH rfl rfl rfl (Ab (Aa ?_)))))))))))
     refine Ax _ rfl ?_ ?_
     ·intro h5
      replace h5:=CO h5
      refine Ag (Ad rfl rfl (Dr rfl rfl (Af rfl rfl (Ab (Aa (A9 (Al (DK (v1:=(.pointer _)) (v2:=(.int _ _)) rfl rfl rfl rfl ?_))))))))
      exact ⟨_,rfl,fun _=>rfl,(fun h=>absurd h h5),H.ext⟩
     ·intro h5
      replace h5:=CP h5
      refine Av (Aa (Ag (Bj rfl rfl (Dr rfl rfl (Af rfl rfl (Ab (Aa (A9 (DK (v1:=(.pointer _)) (v2:=(.int _ _)) rfl rfl rfl rfl ?_)))))))))
      have h5':tt.2=0:=by omega
      refine ⟨_,by rw [h5'],(fun h=>absurd h5' h),(fun _=>⟨b24,b,o,rfl,H.get at0,H.get at1,hM,?_,?_,H.ne at0 at1 (by decide)⟩),H.ext⟩
      ·exact (H.own (b24,_) (List.mem_of_getElem? (i:=0) rfl)).elim (fun h=>by cases h) id
      ·exact (H.own (b,_) (List.mem_of_getElem? (i:=1) rfl)).elim (fun h=>by cases h) id
end Go.Proofs.YtapphbmlkdhnmaaGreat

/- The accounts: Of, their balances, their rooms. -/
namespace Go.Proofs.YtapphbmlkdhnmaaGreat
open Go.GV
attribute [local irreducible] A2 W Wq Wt

structure Ac where
 ba:Int
 re:Int
instance:DecidableEq Ac:=fun x y=>if h:x.ba=y.ba∧x.re=y.re then isTrue (by cases x; cases y; simp_all) else isFalse fun e=>h (by subst e; exact ⟨rfl,rfl⟩)
abbrev encA (a:Ac):List Value:=[.int .i64 a.ba,.int .i64 a.re]
theorem Xy {α β:Type} {f:α→β} {l:List α} {i:Nat} {x:α} (h:l[i]? = some x):(l.take (i+1)).map f=(l.take i).map f++[f x]:=by
 rw [List.take_add_one,h,List.map_append]; rfl
def GF (a:Ac):Int:=max 0 (a.ba - a.re)
def acMay (a:Ac):Bool:=Fa a.ba && Fa a.re
end Go.Proofs.YtapphbmlkdhnmaaGreat

/- The accounts: Of, Shift. -/
namespace Go.Proofs.YtapphbmlkdhnmaaGreat
open Go.GV
attribute [local irreducible] A2 W Wq Wt

/-- Of's code. -/
def aofC (acs:List Ac):Int:=if 16<acs.length then 6 else if acs.all acMay=false then 1 else (Hr (acs.map Ac.ba)).2
end Go.Proofs.YtapphbmlkdhnmaaGreat

/- The accounts: Shift. -/
namespace Go.Proofs.YtapphbmlkdhnmaaGreat
open Go.GV
attribute [local irreducible] A2 W Wq Wt

def a00:Ac:=⟨0,0⟩
/-- The accounts, of which the first have new balances. -/
def acZ (acs:List Ac) (z:Nat→Int) (k i:Nat):Ac:=if i<k then ⟨z i,(acs.getD i a00).re⟩ else acs.getD i a00
def acsZ (acs:List Ac) (z:Nat→Int) (k:Nat):List Ac:=(List.range acs.length).map (acZ acs z k)
def shA (acs:List Ac) (ys:List Int):List Ac:=if Xu (acs.map Ac.ba) ys=0 then List.zipWith (fun a y=>⟨a.ba+y,a.re⟩) acs ys else acs
/-- What comes back of money's Shift. -/
def shZ (acs:List Ac) (ys:List Int):List Int:=if Xu (acs.map Ac.ba) ys=0 then SB (acs.map Ac.ba) ys else []
structure HSt where
 i:Nat
 full:List Value
end Go.Proofs.YtapphbmlkdhnmaaGreat

/- Money, as the reference has it. -/
namespace Go.Proofs.YtapphbmlkdhnmaaGreat
open Go.GV
attribute [local irreducible] A2 W Wq Wt

theorem Xz {xs:List Int} {f:Int→Bool} {i:Nat} {x:Int} (hx:xs[i]? = some x) (h:∀ (k:Nat) (y:Int),k<i→xs[k]? = some y→f y=true) (hf:f x=true):∀ (k:Nat) (y:Int),k<i+1→xs[k]? = some y→f y=true:=fun k y hk hy=>by
 rcases Nat.lt_or_ge k i with h7 | h7
 ·exact h k y h7 hy
 ·obtain rfl:k=i:=by omega
  rw [hx] at hy
  cases hy
  exact hf
end Go.Proofs.YtapphbmlkdhnmaaGreat

/- Shifts, as the reference has them. -/
namespace Go.Proofs.YtapphbmlkdhnmaaGreat
open Go.GV
attribute [local irreducible] A2 W Wq Wt

def inM (x y:Int):Bool:=Fa x && Xt y
end Go.Proofs.YtapphbmlkdhnmaaGreat

/- The accounts, as the reference has them. -/
namespace Go.Proofs.YtapphbmlkdhnmaaGreat
open Go.GV
attribute [local irreducible] A2 W Wq Wt

end Go.Proofs.YtapphbmlkdhnmaaGreat

/- The accounts of the reference: Of; the laws' comparisons. -/
namespace Go.Proofs.YtapphbmlkdhnmaaGreat
open Go.GV
attribute [local irreducible] A2 W Wq Wt

theorem Zy {α:Type} {xs ys:List α} (hl:xs.length=ys.length) (h:∀ (k:Nat) (x y:α),k<xs.length→xs[k]? = some x→ys[k]? = some y→x=y):xs=ys:=by
 refine List.ext_getElem? fun i=>?_
 rcases Nat.lt_or_ge i xs.length with h7 | h7
 ·obtain ⟨x,hx⟩:=AC (l:=xs) (i:=i) h7
  obtain ⟨y,hy⟩:=AC (l:=ys) (i:=i) (by omega)
  rw [hx,hy,h i x y h7 hx hy]
 ·rw [List.getElem?_eq_none (by omega),List.getElem?_eq_none (by omega)]
end Go.Proofs.YtapphbmlkdhnmaaGreat

/- The accounts of the reference: Of; the dues, compared. -/
namespace Go.Proofs.YtapphbmlkdhnmaaGreat
open Go.GV
attribute [local irreducible] A2 W Wq Wt

end Go.Proofs.YtapphbmlkdhnmaaGreat

/- The dues of the reference: Of. -/
namespace Go.Proofs.YtapphbmlkdhnmaaGreat
open Go.GV
attribute [local irreducible] A2 W Wq Wt

end Go.Proofs.YtapphbmlkdhnmaaGreat

/- The dues of the reference: Of, whole. -/
namespace Go.Proofs.YtapphbmlkdhnmaaGreat
open Go.GV
attribute [local irreducible] A2 W Wq Wt

theorem Vg (ds:List Du):∀ v∈ds.flatMap Ee,Bz v=true:=fun v hv=>by
 obtain ⟨a,_,h⟩:=List.mem_flatMap.1 hv
 exact FN a v h
theorem MN (ds:List Du):(ds.flatMap Ee).length=ds.length*7:=by
 induction ds with
 | nil=>rfl
 | cons a ds ih =>
  rw [List.flatMap_cons,List.length_append,ih]
  show 7+ds.length*7=(ds.length+1)*7
  omega
end Go.Proofs.YtapphbmlkdhnmaaGreat

/- The dues: Pay. -/
namespace Go.Proofs.YtapphbmlkdhnmaaGreat
open Go.GV
attribute [local irreducible] A2 W Wq Wt

/-- What paying x at a due answers. -/
def pC (d:Du) (x:Int):Int:=if x<0 then 1 else if d.held=true then 14 else if d.am<x then 12 else 0
def pD (d:Du) (x:Int):Du:=if pC d x=0 then { d with am:=d.am - x } else d
def X1 (ds:List Du) (k:Int):Option Du:=ds.find? fun d=>d.id == k
/-- The dues once x has been paid at one. -/
def Vh:List Du→Int→Int→List Du
 | [],_,_=>[]
 | d::ds,k,x=>if d.id=k then (if d.am=x then ds else { d with am:=d.am - x }::ds) else d::Vh ds k x
def payC (ds:List Du) (k x:Int):Int:=match X1 ds k with
 | none=>11
 | some d=>pC d x
def payS (ds:List Du) (k x:Int):List Du:=if payC ds k x=0 then Vh ds k x else ds
def payF (bx:Nat):Value := .func (.func 139) #[] #[ptr bx]
end Go.Proofs.YtapphbmlkdhnmaaGreat

/- The dues: Pay, whole. -/
namespace Go.Proofs.YtapphbmlkdhnmaaGreat
open Go.GV
attribute [local irreducible] A2 W Wq Wt

end Go.Proofs.YtapphbmlkdhnmaaGreat

/- The dues of the reference: place. -/
namespace Go.Proofs.YtapphbmlkdhnmaaGreat
open Go.GV
attribute [local irreducible] A2 W Wq Wt

/-- Where a due stands. -/
structure PlD (ds:List Du) (k:Int) (i:Nat) (d:Du):Prop where
 at':ds[i]? = some d
 id:d.id=k
 fst:∀ (j:Nat) (e:Du),j<i→ds[j]? = some e→e.id≠k
theorem PlD.pay {ds:List Du} {k x:Int} {i:Nat} {d:Du} (h:PlD ds k i d):Vh ds k x=if d.am=x then ds.eraseIdx i else ds.set i { d with am:=d.am - x }:=by
 induction ds generalizing i with
 | nil=>have:=h.at'; cases this
 | cons y ds ih =>
  unfold Vh
  cases i with
  | zero =>
   have h1:=h.at'
   injection h1 with h1
   rw [h1,if_pos h.id]; rfl
  | succ i =>
   have h1:=h.fst 0 y (Nat.succ_pos _) rfl
   rw [if_neg h1,ih ⟨h.at',h.id,fun j e hj he=>h.fst (j+1) e (Nat.succ_lt_succ hj) he⟩]
   split <;> rfl
end Go.Proofs.YtapphbmlkdhnmaaGreat

/- The dues of the reference: remove. -/
namespace Go.Proofs.YtapphbmlkdhnmaaGreat
open Go.GV
attribute [local irreducible] A2 W Wq Wt

end Go.Proofs.YtapphbmlkdhnmaaGreat

/- The dues of the reference: Pay. -/
namespace Go.Proofs.YtapphbmlkdhnmaaGreat
open Go.GV
attribute [local irreducible] A2 W Wq Wt

end Go.Proofs.YtapphbmlkdhnmaaGreat

/- Dues that are open: Clone, IndexFunc. -/
namespace Go.Proofs.YtapphbmlkdhnmaaGreat
open Go.GV
attribute [local irreducible] A2 W Wq Wt

theorem Vi (a:Option Addr) (n c:Nat) (ds:List Du) (w:World) (R:Rd w a 7 Ee ds) (hn:ds.length=n) (hm:n≤1000000000) :
  Ret Tryz.prog 157 #[.slice a n c] w fun v w'=>Fresh w w' 62 7 v (ds.flatMap Ee):=by
 subst hn
 obtain ⟨w0,rfl⟩:∃ w0,w0=w:=⟨_,rfl⟩
 have H:=Ctx.start w0 []
 refine A1 (fn:=Tryz.f157) Tryz.func157 rfl [.slice a ds.length c] rfl (by kernel_rfl) ?_
 refine Ag (AJ rfl rfl (Ab (Aa (Aq (Ag (An rfl rfl (N4 rfl DY rfl (Ab (Aa (Ax _ rfl ?_ ?_))))))))))
 ·intro h1
  have ha:a=none:=by simpa using h1
  subst ha
  have hxs:ds=[]:=by
   cases ds with
   | nil=>rfl
   | cons x xs=>obtain ⟨b,o,h⟩:=R.some' (by simp); cases h
  subst hxs
  refine Ag (AJ rfl rfl (Ab (Aa (A9 (Al (AB (v:=(.slice _ _ _)) rfl rfl rfl ?_))))))
  exact Fresh.nil H _ _
 ·intro h1
  refine Av (Aa (Ag (Ha rfl DY D4 H ?_)))
  rintro b5 w H O
  refine An rfl rfl (DT rfl DY DY D4 ZS Ig rfl (by decide) (ds.flatMap Ee) rfl rfl H O (MN ds) (Vg ds) ((R.ext0 H.ext).app (fun _ _=>rfl) (by omega)) (by omega) ?_)
  rintro a7 c7 full7 w H O
  refine AJ rfl rfl (Ab (Aa (A9 (AB (v:=(.slice _ _ _)) rfl rfl rfl ?_))))
  exact H.fresh O
theorem QF (d:Du) (w:World):Ret Tryz.prog 158 #[Nq d] w fun v w'=>v = .bool d.held∧Ext [] w w':=by
 obtain ⟨w0,rfl⟩:∃ w0,w0=w:=⟨_,rfl⟩
 have H:=Ctx.start w0 []
 refine A1 (fn:=Tryz.f158) Tryz.func158 rfl [Nq d] rfl (by kernel_rfl) ?_
 refine Ag (Bs rfl (Ee d) (.agg _) rfl rfl H ?_)
 rintro b1 w - H
 refine Ai rfl rfl (Ab (Aa (Ag (Ah rfl YN rfl (AA rfl Hf rfl H at0 rfl (Ai rfl rfl (Ab (Aa (A9 (AB (v:=(.bool _)) rfl rfl rfl ?_))))))))))
 exact ⟨rfl,H.ext⟩
abbrev Aae:Value := .func (.func 158) #[] #[]
/-- The first that is held. -/
structure FstH (ds:List Du) (i:Nat):Prop where
 at':∃ d,ds[i]? = some d∧d.held=true
 fst:∀ (j:Nat) (e:Du),j<i→ds[j]? = some e→e.held=false
set_option maxRecDepth 20000 in
theorem Zz (a:Option Addr) (n c:Nat) (ds:List Du) (w:World) (R:Rd w a 7 Ee ds) (hn:ds.length=n) (hn2:n≤1000000) :
  Ret Tryz.prog 186 #[.slice a n c,Aae] w fun v w'=>Ext [] w w'∧((v = .int .i64 (-1)∧∀ d∈ds,d.held=false)∨∃ i:Nat,v = .int .i64 (i:Int)∧FstH ds i):=by
 subst hn
 obtain ⟨w0,rfl⟩:∃ w0,w0=w:=⟨_,rfl⟩
 have H:=Ctx.start w0 []
 refine A1 (fn:=Tryz.f186) Tryz.func186 rfl [.slice a ds.length c,.func (.func 158) #[] #[]] rfl (by kernel_rfl) ?_
 refine Ag (Af rfl rfl (Ab (Aa (Aq (Ag (An rfl rfl (AU rfl DY rfl (Ad rfl rfl (Ab (Aa (Au ?_)))))))))))
 refine Bi 524080 (α:=Nat) (fun i=>[(8,.int .i64 (i:Int))]) (fun i w'=>i≤ds.length∧Ctx w0 [] w' []∧∀ (j:Nat) (e:Du),j<i→ds[j]? = some e→e.held=false) (fun i=>ds.length - i) 0 rfl ?_ ?_ ?_
 ·exact ⟨rfl,trivial⟩
 ·exact ⟨Nat.zero_le _,H,fun j e h=>absurd h (Nat.not_lt_zero _)⟩
 ·clear H
  rintro i j w ⟨hi,H,hb⟩
  refine Ag (AN rfl rfl rfl (Ab (Aa (Aq (Ax _ rfl ?_ ?_)))))
  ·intro h1
   replace h1:=AF h1
   obtain ⟨d,hd2⟩:=AC (l:=ds) (i:=i) (by omega)
   refine Av (Aa (Aq (Au (Ag (Ad rfl rfl (Af rfl rfl (Ab (Aa (Ag (Cd rfl (.func _ _ _) rfl ?_))))))))))
   refine An rfl rfl (Ad rfl rfl (AZ R rfl DY D4 rfl rfl (by omega) (by omega) (by rfl) ?_))
   refine Cr _ rfl Iw D4 rfl rfl ((R.ext0 H.ext).row hd2 rfl) ?_
   refine Cs rfl rfl Wr (QF d _) rfl ?_
   rintro v w ⟨rfl,hx16⟩
   replace H:=H.call hx16
   refine Ab (Aa (Ax _ rfl ?_ ?_))
   ·intro h2
    refine Ag (Ad rfl rfl (Af rfl rfl (Ab (Aa (A9 (A4 (Al (Al (A4 (Al (AB (v:=(.int _ _)) rfl rfl rfl ?_)))))))))))
    exact ⟨H.ext,.inr ⟨i,rfl,⟨d,hd2,h2⟩,hb⟩⟩
   ·intro h2
    refine Av (A5 (Aa (Aw (Ap rfl rfl rfl (by omega) (by omega) ?_))))
    refine Ad rfl rfl (Ab (Aa ?_))
    refine ⟨i+1,rfl,⟨rfl,trivial⟩,⟨by omega,H,fun j e hj he=>?_⟩,by omega⟩
    rcases Nat.lt_or_ge j i with h7 | h7
    ·exact hb j e h7 he
    ·obtain rfl:j=i:=by omega
     rw [hd2] at he
     cases he
     exact h2
  ·intro h1
   replace h1:=AG h1
   refine Bd (Aj (Aj (AD (Aa (Ag (Af rfl rfl (Ab (Aa (A9 (AB (v:=(.int _ _)) rfl rfl rfl ?_))))))))))
   refine ⟨H.ext,.inl ⟨rfl,fun d hd=>?_⟩⟩
   obtain ⟨j,hj⟩:=List.mem_iff_getElem?.1 hd
   exact hb j d (by have:=CB hj; omega) hj
end Go.Proofs.YtapphbmlkdhnmaaGreat

/- Dues that are open: DeleteFunc, open. -/
namespace Go.Proofs.YtapphbmlkdhnmaaGreat
open Go.GV
attribute [local irreducible] A2 W Wq Wt

def opn (ds:List Du):List Du:=ds.filter fun d => !d.held
theorem NW:∀ (vs l:List Value) (o k:Nat),k≤o→(over l o vs).take k=l.take k
 | [],_,_,_,_=>rfl
 | v::vs,l,o,k,h=>by
  show (over (l.set o v) (o+1) vs).take k=_
  rw [NW vs (l.set o v) (o+1) k (by omega)]
  refine List.ext_getElem? fun j=>?_
  rw [List.getElem?_take,List.getElem?_take]
  split
  ·rw [List.getElem?_set_ne (by omega)]
  ·rfl
theorem OS.shrink {α:Type} {a:Option Addr} {n c s i:Nat} {full vs:List Value} {enc:α→List Value} {L:List α} {o:Nat} (O:OS a n c s full (L.flatMap enc)) (hs:∀ x∈L,(enc x).length=s) (hi:i≤n) (hL:L.length=n) (ho:vs=[]∨i*s≤o):OS a i c s (Go.GV.over full o vs) ((L.take i).flatMap enc):=by
 refine ⟨O.zero,O.none',by rw [E4]; exact O.len,Nat.le_trans hi O.le,?_⟩
 have h1:(Go.GV.over full o vs).take (i*s)=full.take (i*s):=by
  rcases ho with rfl | ho
  ·rfl
  ·exact NW _ _ _ _ ho
 rw [h1]
 have h2:full.take (i*s)=(full.take (n*s)).take (i*s):=by
  rw [List.take_take,Nat.min_eq_left (Nat.mul_le_mul_right _ hi)]
 rw [h2,O.pre]
 have h3:L.flatMap enc=(L.take i).flatMap enc++(L.drop i).flatMap enc:=by rw [← List.flatMap_append,List.take_append_drop]
 have h4:((L.take i).flatMap enc).length=i*s:=by
  rw [Ev fun z hz=>hs z (List.mem_of_mem_take hz),List.length_take,Nat.min_eq_left (by omega)]
 rw [h3]
 exact List.take_left' h4
theorem MO (ds:List Du) (d:Du):opn (ds++[d])=opn ds++if d.held=true then [] else [d]:=by
 unfold opn
 rw [List.filter_append]
 cases h:d.held <;> simp [h]
theorem TT {ds:List Du} (h:∀ d∈ds,d.held=false):opn ds=ds:=by
 unfold opn
 rw [List.filter_eq_self]
 intro d hd
 rw [h d hd]; rfl
structure DSt where
 i:Nat
 j:Nat
 L:List Du
 full:List Value
set_option maxRecDepth 20000 in
set_option maxHeartbeats 4000000 in
theorem Adv (a:Option Addr) (c:Nat) (full:List Value) (ds:List Du) (w:World) (O:OS a ds.length c 7 full (ds.flatMap Ee)) (hb:∀ y∈ent a 62 full,w.heap[y.1]? = some y.2) (hn2:ds.length≤1000000) :
  Ret Tryz.prog 156 #[.slice a ds.length c,Aae] w fun v w'=>∃ full',v = .slice a (opn ds).length c∧OS a (opn ds).length c 7 full' ((opn ds).flatMap Ee)∧Ctx w ((ent a 62 full).map (·.1)) w' (ent a 62 full'):=by
 obtain ⟨w0,rfl⟩:∃ w0,w0=w:=⟨_,rfl⟩
 have R:Rd w0 a 7 Ee ds:=OS.rd O hb (fun _ _=>rfl) (by omega)
 have H:Ctx w0 ((ent a 62 full).map (·.1)) w0 (ent a 62 full):=⟨Ext.refl _ _,hb,LY,fun x hx => .inl (List.mem_map_of_mem (f:=(·.1)) hx)⟩
 refine A1 (fn:=Tryz.f156) Tryz.func156 rfl [.slice a ds.length c,.func (.func 158) #[] #[]] rfl (by kernel_rfl) ?_
 refine Ag (AJ rfl rfl (Ab (Aa (Ag (An rfl rfl (Cd rfl (.func _ _ _) rfl ?_))))))
 refine Ao rfl Ab7 (Zz a ds.length c ds _ R rfl hn2) rfl ?_
 rintro v w ⟨hx10,hidx⟩
 replace H:=H.call hx10
 obtain ⟨pi,rfl,hpi⟩:∃ pi:Int,v = .int .i64 pi∧((pi = -1∧∀ d∈ds,d.held=false)∨∃ i:Nat,pi=(i:Int)∧FstH ds i):=hidx.elim (fun h=>⟨-1,h.1,.inl ⟨rfl,h.2⟩⟩) (fun ⟨i,h1,h2⟩=>⟨i,h1,.inr ⟨i,rfl,h2⟩⟩)
 refine Af rfl rfl (Ab (Aa (Aq (Ag (Ad rfl rfl (BX rfl rfl rfl (Ab (Aa (Ax _ rfl ?_ ?_)))))))))
 ·intro h1
  replace h1:=AF h1
  refine Ag (An rfl rfl (AJ rfl rfl (Ab (Aa (A9 (Al (AB (v:=(.slice _ _ _)) rfl rfl rfl ?_)))))))
  have hal:∀ d∈ds,d.held=false:=hpi.elim (fun h=>h.2) fun ⟨i,h,_⟩=>by omega
  rw [TT hal]
  exact ⟨full,rfl,O,H⟩
 ·intro h1
  replace h1:=AG h1
  obtain ⟨i,hpe,P⟩:∃ i:Nat,pi=(i:Int)∧FstH ds i:=hpi.elim (fun h=>absurd h.1 h1) id
  subst hpe
  obtain ⟨d0,hd0,hh0⟩:=P.at'
  have hil:=CB hd0
  obtain ⟨q,rfl⟩:=O.form (by omega)
  replace H:Ctx w0 [q] w [(q,Bl 62 full)]:=H
  have hop0:opn (ds.take i)=ds.take i:=TT fun d hd=>by
   obtain ⟨j,hj⟩:=List.mem_iff_getElem?.1 hd
   rw [List.getElem?_take] at hj
   split at hj
   ·exact P.fst j d (by assumption) hj
   ·cases hj
  have hst0:opn (ds.take (i+1))=ds.take i:=by
   rw [List.take_add_one,hd0]
   show opn (ds.take i++[d0])=_
   rw [MO,if_pos hh0,hop0,List.append_nil]
  refine Av (Aa (Aq (Ag (Ad rfl rfl (Ap rfl rfl rfl (by omega) (by omega) ?_)))))
  refine Af rfl rfl (Ab (Aa (Au (Bi 68719411424 (α:=DSt) (fun t=>[(5,.int .i64 (t.i:Int)),(6,.int .i64 (t.j:Int))]) (fun t w'=>t.i<t.j∧t.j≤ds.length∧t.L.length=ds.length∧t.L.take t.i=opn (ds.take t.j)∧(∀ p,t.j≤p→t.L[p]? = ds[p]?)∧OS (some ⟨q,0,none⟩) ds.length c 7 t.full (t.L.flatMap Ee)∧Ctx w0 [q] w' [(q,Bl 62 t.full)]) (fun t=>ds.length - t.j) ⟨i,i+1,ds,full⟩ rfl ?_ ?_ ?_))))
  ·exact ⟨rfl,rfl,trivial⟩
  ·exact ⟨Nat.lt_succ_self _,by dsimp only; omega,rfl,hst0.symm,fun p _=>rfl,O,H⟩
  ·clear H
   rintro ⟨i,j,L,fu⟩ jj w ⟨hij,hj,hL,hT,hS,O1,H⟩; dsimp only at hij hj hL hT hS O1 H; dsimp only
   have hOl:=O1.len
   have hOle:=O1.le
   refine Aq (Ag (Ad rfl rfl (An rfl rfl (AU rfl DY rfl (AN rfl rfl rfl (Ab (Aa (Ax _ rfl ?_ ?_))))))))
   ·intro h2
    replace h2:=AF h2
    obtain ⟨d,hdj⟩:=AC (l:=ds) (i:=j) (by omega)
    have hLd:L[j]? = some d:=by rw [hS j (Nat.le_refl _),hdj]
    have R1:Rd w (some ⟨q,0,none⟩) 7 Ee L:=O1.rd (t:=62) (fun y hy=>by have hy:=List.mem_singleton.1 hy; rw [hy]; exact H.get at0) (fun _ _=>rfl) (by decide)
    have htk:ds.take (j+1)=ds.take j++[d]:=by rw [List.take_add_one,hdj]; rfl
    refine Av (Aa (Aq (Au (Ag (An rfl rfl (Ad rfl rfl (AZ R1 rfl DY D4 rfl rfl (by omega) (by omega) (by omega) ?_)))))))
    refine Cr _ rfl Iw D4 rfl rfl (R1.row hLd rfl) ?_
    refine Bm rfl Ig H ?_
    rintro b7 w - H
    refine BD rfl D4 rfl rfl rfl (by exact FN _) H at0 rfl ?_
    rintro w H
    refine Ab (Aa (Ag (Cd rfl (.func _ _ _) rfl ?_)))
    refine Bh rfl Iw D4 rfl H at0 rfl (Cs rfl rfl Wr (QF d _) rfl ?_)
    rintro v w ⟨rfl,hx28⟩
    replace H:=H.call hx28
    refine Bu rfl rfl (Ab (Aa (Ax _ rfl ?_ ?_)))
    ·intro h3
     replace h3:=Bp h3
     have h3':¬ d.held=true:=by simpa using h3
     obtain ⟨y,hy⟩:=AC (l:=L) (i:=i) (by omega)
     have O2:=OS.over O1 (fun _=>rfl) hy d
     refine Ag (An rfl rfl (Ad rfl rfl (Bh rfl Iw D4 rfl H at0 rfl (AZ R1 rfl DY D4 rfl rfl (by omega) (by omega) (by omega) ?_))))
     refine H7 (vs:=Ee d) rfl D4 rfl rfl rfl (FN d) H at1 (by show 0+(i:Int).toNat*7+7≤_; omega) ?_
     rintro w H
     replace H:Ctx w0 [q] w [(b7,Bl 62 (Ee d)),(q,Bl 62 (over fu (i*7) (Ee d)))]:=by rw [show i*7=0+((i:Int)).toNat*7 by omega]; exact H
     refine Ab (Aa (Aw (Ad rfl rfl (Ap rfl rfl rfl (by omega) (by omega) ?_))))
     refine Af rfl rfl (Ab (A5 (Aa (Aw (Ad rfl rfl (Ap rfl rfl rfl (by omega) (by omega) ?_))))))
     refine Af rfl rfl (Ab (Aa ?_))
     refine ⟨⟨i+1,j+1,L.set i d,over fu (i*7) (Ee d)⟩,rfl,⟨rfl,rfl,trivial⟩,⟨by dsimp only; omega,by dsimp only; omega,by dsimp only; rw [List.length_set]; exact hL,?_,fun p hp=>?_,O2,?_⟩,by dsimp only; omega⟩
     ·dsimp only
      rw [htk,MO,if_neg h3',← hT,List.take_add_one,List.getElem?_set_self (by omega)]
      congr 1
      refine List.ext_getElem? fun z=>?_
      rw [List.getElem?_take,List.getElem?_take]
      split
      ·rw [List.getElem?_set_ne (by omega)]
      ·rfl
     ·dsimp only at hp ⊢
      rw [List.getElem?_set_ne (by omega)]
      exact hS p (by omega)
     ·exact H.tail
    ·intro h3
     replace h3:=Bq h3
     have h3':d.held=true:=by simpa using h3
     refine Av (A5 (Aa (Aw (Ad rfl rfl (Ap rfl rfl rfl (by omega) (by omega) ?_)))))
     refine Af rfl rfl (Ab (Aa ?_))
     refine ⟨⟨i,j+1,L,fu⟩,rfl,⟨rfl,rfl,trivial⟩,⟨by dsimp only; omega,by dsimp only; omega,hL,?_,fun p hp=>hS p (by dsimp only at hp; omega),O1,H.tail⟩,by dsimp only; omega⟩
     dsimp only
     rw [htk,MO,if_pos h3',List.append_nil]
     exact hT
   ·intro h2
    replace h2:=AG h2
    obtain rfl:j=ds.length:=by omega
    rw [List.take_length] at hT
    have hlen:(opn ds).length=i:=by rw [← hT,List.length_take]; omega
    obtain ⟨o',ho',ho2⟩:∃ o',J5 (some ⟨q,0,none⟩) c i 7=some ⟨q,o',none⟩∧((c=i∧o'=0)∨o'=i*7):=by
     unfold J5
     by_cases h:c=i
     ·rw [if_pos h]; exact ⟨0,rfl,.inl ⟨h,rfl⟩⟩
     ·rw [if_neg h]; exact ⟨0+i*7,(by show some (Addr.add _ _)=_; rw [Cx]),.inr (Nat.zero_add _)⟩
    refine Bd (Aj (Aj (AD (Aa (Ag (An rfl rfl (Ad rfl rfl (EU rfl DY D4 rfl rfl (by omega) (by omega) ?_))))))))
    refine K5 (b:=q) (o:=o') (n:=ds.length - i) (c:=c - i) (s:=7) rfl DY Ig rfl (by simp [Bz]) (show Value.slice (J5 (some ⟨q,0,none⟩) c i 7) (ds.length - i) (c - i)=_ by rw [ho']) H at0 (by omega) ?_
    rintro w H
    refine Ab (Aa (Ag (An rfl rfl (Ad rfl rfl (EV rfl DY D4 rfl rfl (by omega) (by omega) ?_)))))
    refine AJ rfl rfl (Ab (Aa (A9 (AB (v:=(.slice _ _ _)) rfl rfl rfl ?_))))
    have O3:=OS.shrink (i:=i) (o:=o') (vs:=(List.replicate (ds.length - i) [Value.int .u64 0,.int .i64 0,.int .i64 0,.int .i64 0,.int .i64 0,.int .i64 0,.bool false]).flatten) O1 (fun _ _=>rfl) (by omega) hL (ho2.elim (fun h=>by omega) fun h => .inr (by omega))
    rw [hT] at O3
    rw [hlen]
    exact ⟨_,rfl,O3,H⟩
end Go.Proofs.YtapphbmlkdhnmaaGreat

/- Dues that are open; may a round be built? -/
namespace Go.Proofs.YtapphbmlkdhnmaaGreat
open Go.GV
attribute [local irreducible] A2 W Wq Wt

theorem Z0 (a:Option Addr) (n c:Nat) (ds:List Du) (w:World) (R:Rd w a 7 Ee ds) (hn:ds.length=n) (hm:n≤1000000) :
  Ret Tryz.prog 105 #[.slice a n c] w fun v w'=>Fresh w w' 62 7 v ((opn ds).flatMap Ee):=by
 subst hn
 obtain ⟨w0,rfl⟩:∃ w0,w0=w:=⟨_,rfl⟩
 refine A1 (fn:=Tryz.f105) Tryz.func105 rfl [.slice a ds.length c] rfl (by kernel_rfl) ?_
 refine Ag (AJ rfl rfl (Ab (Aa (Ag (An rfl rfl (Ao rfl Abs (Vi a ds.length c ds _ R rfl (by omega)) rfl ?_))))))
 rintro v w F
 obtain ⟨a4,n4,c4,f4,rfl,O4,hb4⟩:=F.ex
 have hl4:=O4.llen
 rw [MN] at hl4
 obtain rfl:ds.length=n4:=by omega
 refine Ao rfl Abr (Adv a4 c4 f4 ds _ O4 (fun y hy=>(hb4 y hy).1) hm) rfl ?_
 rintro v w ⟨f5,rfl,O5,H5⟩
 refine AJ rfl rfl (Ab (Aa (A9 (AB (v:=(.slice _ _ _)) rfl rfl rfl ?_))))
 refine ⟨⟨_,_,_,f5,rfl,O5,fun x hx=>⟨H5.blk x hx,?_⟩⟩,F.ext.then H5.ext fun x hx=>?_⟩
 ·rcases H5.own x hx with h | h
  ·obtain ⟨y,hy,hyx⟩:=List.mem_map.1 h
   rw [← hyx]
   exact (hb4 y hy).2
  ·exact Nat.le_trans F.ext.size h
 ·obtain ⟨y,hy,rfl⟩:=List.mem_map.1 hx
  exact .inr (hb4 y hy).2
/-- The dues with numbers from 1 on. -/
def Ef:Nat→List Du→List Du
 | _,[]=>[]
 | i,d::ds=>{ d with id:=(i:Int)+1 }::Ef (i+1) ds
theorem NX (i:Nat) (ds:List Du):(Ef i ds).length=ds.length:=by
 induction ds generalizing i with
 | nil=>rfl
 | cons d ds ih=>show (Ef (i+1) ds).length+1=ds.length+1; rw [ih]
theorem Pt (i:Nat) (ds es:List Du):Ef i (ds++es)=Ef i ds++Ef (i+ds.length) es:=by
 induction ds generalizing i with
 | nil=>rfl
 | cons d ds ih =>
  show _::Ef (i+1) (ds++es)=_::(Ef (i+1) ds++Ef (i+(ds.length+1)) es)
  rw [ih,show i+1+ds.length=i+(ds.length+1) by omega]
theorem SF {ds:List Du} {i:Nat} {d:Du} (h:ds[i]? = some d):Ef 0 (ds.take (i+1))=Ef 0 (ds.take i)++[{ d with id:=(i:Int)+1 }]:=by
 have hl:=CB h
 rw [List.take_add_one,h]
 show Ef 0 (ds.take i++[d])=_
 rw [Pt,List.length_take,Nat.min_eq_left (by omega),Nat.zero_add]; rfl
theorem X2 {ds:List Du}:∀ (i:Nat) (d:Du),d∈Ef i ds→(i:Int)<d.id∧d.id≤i+ds.length:=by
 induction ds with
 | nil=>intro i d h; cases h
 | cons x ds ih =>
  intro i d h
  rcases List.mem_cons.1 h with rfl | h
  ·dsimp only [List.length_cons]; omega
  ·have:=ih (i+1) d h
   rw [List.length_cons]; omega
theorem Vj {ds:List Du}:∀ (i:Nat),Jl ((i:Int)+ds.length+1) i (Ef i ds)=ds.all Fs:=by
 induction ds with
 | nil=>intro i; rfl
 | cons d ds ih =>
  intro i
  have h:=ih (i+1)
  show ((Fs d && (decide ((i:Int)<(i:Int)+1) && decide ((i:Int)+1<_))) && Jl _ ((i:Int)+1) (Ef (i+1) ds))=(Fs d && ds.all Fs)
  rw [← h,decide_eq_true (show (i:Int)<(i:Int)+1 by omega),decide_eq_true (show (i:Int)+1<(i:Int)+((d::ds).length:Nat)+1 by rw [List.length_cons]; omega),show ((i:Int)+((d::ds).length:Nat)+1)=(((i+1:Nat):Int)+ds.length+1) by rw [List.length_cons]; omega]
  simp
/-- May such a round be built? -/
def CV (rs:List Int) (ds:List Du):Bool :=
 decide (rs.length≤16) && (!decide ((Hr rs).2=1) && (ds.all (fun d=>decide (max d.fr d.to<rs.length)) && decide (ofC (Ef 0 ds) (ds.length+1)=0)))
end Go.Proofs.YtapphbmlkdhnmaaGreat

/- May a round be built: the walk. -/
namespace Go.Proofs.YtapphbmlkdhnmaaGreat
open Go.GV
attribute [local irreducible] A2 W Wq Wt

theorem Vk {rs:List Int} {ds:List Du} {i:Nat} {d:Du} (hd:ds[i]? = some d) (h:¬ max d.fr d.to<rs.length):CV rs ds=false:=by
 unfold CV
 have:ds.all (fun d=>decide (max d.fr d.to<rs.length))=false:=by
  rw [List.all_eq_false]
  exact ⟨d,List.mem_of_getElem? hd,by simpa using h⟩
 rw [this]
 simp
set_option maxRecDepth 20000 in
set_option maxHeartbeats 4000000 in
theorem Vl (a b:Option Addr) (n c m e:Nat) (rs:List Int) (ds:List Du) (w:World) (R:Rd w a 1 I1 rs) (hn:rs.length=n) (hn2:n≤1000000) (Rd':Rd w b 7 Ee ds) (hm:ds.length=m) (hm2:m≤1000000) :
  Ret Tryz.prog 104 #[.slice a n c,.slice b m e] w fun v w'=>v = .bool (CV rs ds)∧Ext [] w w':=by
 subst hn hm
 obtain ⟨w0,rfl⟩:∃ w0,w0=w:=⟨_,rfl⟩
 have H:=Ctx.start w0 []
 obtain ⟨tt,htt⟩:∃ tt,tt=Hr rs:=⟨_,rfl⟩
 refine A1 (fn:=Tryz.f104) Tryz.func104 rfl [.slice a rs.length c,.slice b ds.length e] rfl (by kernel_rfl) ?_
 refine Ag (Ai rfl rfl (Ab (Aa (Aq (Ag (An rfl rfl (AU rfl AR rfl (C0 rfl rfl rfl (Ab (Aa (Ax _ rfl ?_ ?_)))))))))))
 ·intro h1
  replace h1:=AF h1
  refine Ag (Ai rfl rfl (Ab (Aa (A9 (Al (AB (v:=(.bool _)) rfl rfl rfl ?_))))))
  exact ⟨congrArg Value.bool (by unfold CV; rw [decide_eq_false (show ¬ rs.length≤16 by omega)]; rfl),H.ext⟩
 ·intro h1
  replace h1:=AG h1
  have h1':decide (rs.length≤16)=true:=decide_eq_true (by omega)
  refine Av (Aa (Aq (Ag (An rfl rfl (Ao rfl Wm (TS a rs.length c rs _ R rfl hn2) rfl ?_)))))
  rintro v w ⟨rfl,rfl⟩
  rw [← htt]
  refine BG rfl rfl (A7 rfl rfl rfl (A7 rfl rfl rfl (Af rfl rfl (Af rfl rfl (Ab (Aa (Ag (Ad rfl rfl (BX rfl rfl rfl (Ab (Aa ?_)))))))))))
  refine Ax _ rfl ?_ ?_
  ·intro h2
   replace h2:=AF h2
   refine Ag (Ai rfl rfl (Ab (Aa (A9 (Al (AB (v:=(.bool _)) rfl rfl rfl ?_))))))
   exact ⟨congrArg Value.bool (by unfold CV; rw [← htt,h2,h1']; rfl),H.ext⟩
  ·intro h2
   replace h2:=AG h2
   refine Av (Aa (Ag (AJ rfl rfl (Ab (Aa (Aq (Ag (An rfl rfl (AU rfl DY rfl (Ad rfl rfl (Ab (Aa ?_))))))))))))
   refine Au (Bi 70368727401360 (α:=LSt) (fun t=>[(7,.slice t.a t.i t.c),(24,.int .i64 (t.i:Int))]) (fun t w'=>t.i≤ds.length∧OS t.a t.i t.c 7 t.full ((Ef 0 (ds.take t.i)).flatMap Ee)∧Ctx w0 [] w' (ent t.a 62 t.full)∧∀ (j:Nat) (d:Du),j<t.i→ds[j]? = some d→max d.fr d.to<rs.length) (fun t=>ds.length - t.i) ⟨0,none,0,[]⟩ rfl ?_ ?_ ?_)
   ·exact ⟨rfl,rfl,trivial⟩
   ·exact ⟨Nat.zero_le _,OS.nil,H,fun j d h=>absurd h (Nat.not_lt_zero _)⟩
   ·clear H
    rintro ⟨i,a2,c2,full⟩ jj w ⟨hi,O,H,hb⟩; dsimp only at hi O H hb; dsimp only
    refine Ag (AN rfl rfl rfl (Ab (Aa (Aq (Ax _ rfl ?_ ?_)))))
    ·intro h3
     replace h3:=AF h3
     obtain ⟨d,hd⟩:=AC (l:=ds) (i:=i) (by omega)
     obtain ⟨d',hd'⟩:∃ d':Du,d'={ d with id:=(i:Int)+1 }:=⟨_,rfl⟩
     refine Av (Aa (Aq (Au (Ag (Ad rfl rfl (AZ Rd' rfl DY D4 rfl rfl (by omega) (by omega) (by rfl) ?_))))))
     refine Cr _ rfl Iw D4 rfl rfl ((Rd'.ext0 H.ext).row hd rfl) ?_
     refine Bm rfl Ig H ?_
     rintro b9 w - H
     refine Af rfl rfl (BD rfl D4 rfl rfl rfl (by exact FN _) H at0 rfl ?_)
     rintro w H
     refine Ab (Aa (Aq (Ag (Ah rfl Ly rfl (AA rfl BH rfl H at0 rfl (Ah rfl Lz rfl (AA rfl BH rfl H at0 rfl (Lt rfl rfl rfl ?_))))))))
     refine An rfl rfl (AU rfl AR rfl (CD rfl rfl rfl (Ab (Aa (Ax _ rfl ?_ ?_)))))
     ·intro h4
      replace h4:=AF h4
      refine Ag (Ai rfl rfl (Ab (Aa (A9 (Al (A4 (Al (Al (A4 (Al (AB (v:=(.bool _)) rfl rfl rfl ?_)))))))))))
      exact ⟨congrArg Value.bool (Vk hd (show ¬ max d.fr d.to<rs.length by omega)).symm,H.ext⟩
     ·intro h4
      replace h4:=AG h4
      refine Av (Aa (Ag (Ad rfl rfl (D3 rfl rfl Gu FH (by omega) (by omega) ?_))))
      refine Fz rfl rfl rfl (by omega) (by omega) ?_
      refine Ah rfl IY rfl (Cj (.int _ _) rfl AY rfl rfl rfl H at0 (by (simp; done)) ?_)
      rintro w H
      refine Ab (Aa ?_)
      replace H:Ctx w0 [] w ((b9,Bl 62 (Ee d'))::ent a2 62 full):=by rw [hd']; exact H
      refine Aw (An rfl rfl (Bh rfl Iw D4 rfl H at0 rfl (DC _ (.agg _) rfl DY D4 Ig rfl (by decide) (by decide) rfl rfl rfl H ?_)))
      rintro b43 w - H
      refine DM (L:=[_]) rfl DY DY D4 ZS Ig rfl (by decide) rfl rfl H O rfl (by simp [Bz]) (by omega) ?_
      rintro a' c' full' w H O
      refine AJ rfl rfl (Ab (A5 (Aa (Aw (Ap rfl rfl rfl (by omega) (by omega) ?_)))))
      refine Ad rfl rfl (Ab (Aa ?_))
      refine ⟨⟨i+1,a',c',full'⟩,rfl,⟨rfl,rfl,trivial⟩,⟨by dsimp only; omega,?_,H.tail,fun j x hj hx=>?_⟩,by dsimp only; omega⟩
      ·dsimp only
       rw [SF hd,← hd',List.flatMap_append]
       exact O
      ·rcases Nat.lt_or_ge j i with h7 | h7
       ·exact hb j x h7 hx
       ·obtain rfl:j=i:=by dsimp only at hj; omega
        rw [hd] at hx
        cases hx
        omega
    ·intro h3
     replace h3:=AG h3
     obtain rfl:i=ds.length:=by omega
     rw [List.take_length] at O
     have hal:ds.all (fun d=>decide (max d.fr d.to<rs.length))=true:=by
      rw [List.all_eq_true]
      intro d hd
      obtain ⟨j,hj⟩:=List.mem_iff_getElem?.1 hd
      exact decide_eq_true (hb j d (CB hj) hj)
     have RO:Rd w a2 7 Ee (Ef 0 ds):=OS.rd O (fun y hy=>H.blk y hy) (fun _ _=>rfl) (by omega)
     have hbr:CV rs ds=decide (ofC (Ef 0 ds) (ds.length+1)=0):=by
      unfold CV
      rw [h1',hal,← htt,decide_eq_false h2]; rfl
     obtain ⟨cd,hcd⟩:∃ cd,cd=ofC (Ef 0 ds) (ds.length+1):=⟨_,rfl⟩
     rw [hbr,← hcd]
     refine Bd (Aj (Aj (AD (Aa (Ag (An rfl rfl (An rfl rfl (AU rfl DY rfl (D3 rfl rfl Gu FH (by omega) (by omega) ?_)))))))))
     refine Fz rfl rfl rfl (by omega) (by omega) ?_
     refine Ao rfl ca_57 (Adu a2 ds.length c2 (Ef 0 ds) (ds.length+1) _ RO (NX 0 ds) (by omega) (by omega) (fun d hd=>by have:=X2 0 d hd; omega)) rfl ?_
     rintro v w ⟨p,rfl,hp1,hp2,hx52⟩
     obtain ⟨pp,rfl⟩:∃ pp,p = .pointer pp:=by by_cases hz:ofC (Ef 0 ds) (ds.length+1)=0; (obtain ⟨bd,_,_,e1,_⟩:=hp2 hz; exact ⟨_,e1⟩); exact ⟨none,hp1 hz⟩
     replace H:=H.call hx52
     rw [← hcd]
     refine BG rfl rfl (A7 rfl rfl rfl (A7 rfl rfl rfl (Dr rfl rfl (Af rfl rfl (Ab (Aa (Ag (Ad rfl rfl (BX rfl rfl rfl (Ai rfl rfl ?_))))))))))
     refine Ab (Aa (A9 (AB (v:=(.bool _)) rfl rfl rfl ?_)))
     exact ⟨rfl,H.ext⟩
end Go.Proofs.YtapphbmlkdhnmaaGreat

/- A round's edges, one by one. -/
namespace Go.Proofs.YtapphbmlkdhnmaaGreat
open Go.GV
attribute [local irreducible] A2 W Wq Wt

def Pu (d:Du):Ed:=⟨d.fr,d.to,d.am,-d.we⟩
def Lp (rs:List Int):List Ed:=(List.range (2*rs.length)).map fun j=>if j % 2=0 then ⟨rs.length,(j / 2:Nat),rs.getD (j / 2) 0,0⟩ else ⟨(j / 2:Nat),rs.length,4503599627370496,0⟩
def Dg (rs:List Int) (ds:List Du) (net:Bool):List Ed:=ds.map Pu++if net=true then [] else Lp rs
theorem X3 {rs:List Int} {i:Nat} {x:Int} (h:rs[i]? = some x):(Lp rs)[2*i]? = some ⟨rs.length,i,x,0⟩:=by
 have hl:=CB h
 unfold Lp
 rw [Dl (by omega),if_pos (by omega),show 2*i / 2=i by omega,Bn h]
theorem Z1 {rs:List Int} {i:Nat} (h:i<rs.length):(Lp rs)[2*i+1]? = some ⟨i,rs.length,4503599627370496,0⟩:=by
 unfold Lp
 rw [Dl (by omega),if_neg (by omega),show (2*i+1) / 2=i by omega]
theorem TU (rs:List Int):(Lp rs).length=2*rs.length:=by unfold Lp; simp
def edV (e:Ed):List Value:=[.agg (Bv e).toArray]
structure RndK (b1 b2 b3:Nat) (a b:Option Addr) (n c m e:Nat) (rs:List Int) (ds:List Du) (net:Bool) (w:World):Prop where
 h1:w.heap[b1]? = some (Bl 23 [.slice b m e])
 h2:w.heap[b2]? = some (Bl 4 [.bool net])
 h3:w.heap[b3]? = some (Bl 29 [.slice a n c])
 R:Rd w a 1 I1 rs
 Rd':Rd w b 7 Ee ds
set_option maxRecDepth 20000 in
set_option maxHeartbeats 4000000 in
theorem SG {b1 b2 b3:Nat} {a b:Option Addr} {n c m e:Nat} {rs:List Int} {ds:List Du} {net:Bool} (hn:rs.length=n) (hm:ds.length=m) (hn2:n≤1000000) (hm2:m≤1000000) (hw:∀ d∈ds,-1000000000≤d.we∧d.we≤1000000000) :
  Mk Tryz.prog 162 #[ptr b1,ptr b2,ptr b3] [] (fun _ w=>RndK b1 b2 b3 a b n c m e rs ds net w) ((Dg rs ds net).map edV):=by
 subst hn hm
 intro l w J E hJ0 hJs hEs hK hY
 obtain ⟨M0,hJ0⟩:=hJ0
 obtain ⟨w0,rfl⟩:∃ w0,w0=w:=⟨_,rfl⟩
 have hat1:∀ (i:Nat) (d:Du),ds[i]? = some d→((Dg rs ds net).map edV)[i]? = some (edV (Pu d)):=fun i d hd=>by
  unfold Dg
  have hl:=CB hd
  rw [List.getElem?_map,List.getElem?_append_left (by rw [List.length_map]; exact hl),List.getElem?_map,hd]; rfl
 have hat2:net=false→∀ (j:Nat) (x:Ed),(Lp rs)[j]? = some x→((Dg rs ds net).map edV)[ds.length+j]? = some (edV x):=fun h0 j x hx=>by
  unfold Dg
  rw [h0,List.getElem?_map,List.getElem?_append_right (by rw [List.length_map]; omega),List.length_map,show ds.length+j - ds.length=j by omega]
  show ((Lp rs)[j]?).map edV=_
  rw [hx]; rfl
 have hlen:((Dg rs ds net).map edV).length=ds.length+if net=true then 0 else 2*rs.length:=by
  unfold Dg
  rw [List.length_map,List.length_append,List.length_map]
  split
  ·rfl
  ·rw [TU]
 refine A1 (fn:=Tryz.f162) Tryz.func162 rfl [.func (.yield l) #[] #[],.pointer (some ⟨b1,0,none⟩),.pointer (some ⟨b2,0,none⟩),.pointer (some ⟨b3,0,none⟩)] rfl (by kernel_rfl) ?_
 have K0:=(hK _ _ _ hJ0).2
 have H:=Ctx.start w0 []
 refine Aq (Ag (AX rfl ag_23 rfl ((by rw [Ay K0.h1]; rfl)) ?_))
 refine AU rfl DY rfl (Ad rfl rfl (Ab (Aa (Au (Bi 1073737792 (α:=Nat) (fun i=>[(12,.int .i64 (i:Int))]) (fun i w'=>i≤ds.length∧∃ M,J i M w') (fun i=>ds.length - i) 0 rfl ?_ ?_ ?_)))))
 ·exact ⟨rfl,trivial⟩
 ·exact ⟨Nat.zero_le _,M0,hJ0⟩
 ·clear H
  rintro i j w ⟨hi,M,hJ⟩
  have KK:=(hK _ _ _ hJ).2
  have R:=KK.Rd'
  obtain ⟨w1,rfl⟩:∃ w1,w1=w:=⟨_,rfl⟩
  have H:=Ctx.start w1 []
  refine Ag (AN rfl rfl rfl (Ab (Aa (Aq (Ax _ rfl ?_ ?_)))))
  ·intro h1
   replace h1:=AF h1
   obtain ⟨d,hd⟩:=AC (l:=ds) (i:=i) (by omega)
   have hwd:=hw d (List.mem_of_getElem? hd)
   refine Av (Aa (Aq (Au (Ag (AZ R rfl DY D4 rfl rfl (by omega) (by omega) (by rfl) ?_)))))
   refine Cr _ rfl Iw D4 rfl rfl ((R.ext0 H.ext).row hd rfl) ?_
   refine Bm rfl Ig H ?_
   rintro b6 w - H
   refine BD rfl D4 rfl rfl rfl (by exact FN _) H at0 rfl ?_
   rintro w H
   refine Ab (Aa (Ag (Cd rfl (.func _ _ _) rfl ?_)))
   refine Ah rfl Ly rfl (AA rfl BH rfl H at0 rfl (Ah rfl Lz rfl (AA rfl BH rfl H at0 rfl (Ah rfl L4 rfl (AA rfl Bw rfl H at0 rfl (Ah rfl Pb rfl (AA rfl Bw rfl H at0 rfl (EN rfl rfl (by omega) (by omega) ?_))))))))
   refine CC (Bv (Pu d)) rfl Mz DH (by kernel_rfl) ?_
   have hY1:=hY i (edV (Pu d)) M _ (hat1 i d hd) (hJs _ _ _ _ hJ H.ext)
   refine FD (vs:=edV (Pu d)) rfl rfl hY1 rfl ?_
   rintro u w hu
   obtain ⟨bb,rfl,hu1,hu0⟩:∃ bb,u = .bool bb∧(bb=true→∃ M,J (i+1) M w)∧(bb=false→E w):=hu.elim (fun h=>⟨true,h.1,fun _=>let ⟨M',h1,_⟩:=h.2; ⟨M',h1⟩,fun h=>by cases h⟩) (fun h=>⟨false,h.1,(fun h=>by cases h),fun _=>h.2⟩)
   refine Bu rfl rfl (Ab (Aa (Ax _ rfl ?_ ?_)))
   ·intro h2
    replace h2:=Bp h2
    refine A9 (A4 (Al (Al (A4 (Al (EM rfl rfl ?_))))))
    exact .inr (hu0 (by simpa using h2))
   ·intro h2
    replace h2:=Bq h2
    refine Av (A5 (Aa (Aw (Ap rfl rfl rfl (by omega) (by omega) ?_))))
    refine Ad rfl rfl (Ab (Aa ?_))
    exact ⟨i+1,rfl,⟨rfl,trivial⟩,⟨by omega,hu1 (by simpa using h2)⟩,by omega⟩
  ·intro h1
   replace h1:=AG h1
   obtain rfl:i=ds.length:=by omega
   refine Bd (Aj (Aj (AD (Aa (Aq (Ag (AX rfl Hf rfl ((H.old0 (by rw [Ay KK.h2]; rfl))) ?_)))))))
   refine Ab (Aa (Ax _ rfl ?_ ?_))
   ·intro h2
    refine A9 (Al (EM rfl rfl ?_))
    exact .inl ⟨M,by rw [hlen,if_pos h2]; exact hJ⟩
   ·intro h2
    refine Av (Aa (Ag (AX rfl BF rfl ((H.old0 (by rw [Ay KK.h3]; rfl))) ?_)))
    refine AU rfl AR rfl (Af rfl rfl (Ab (Aa (Ag (AX rfl BF rfl ((H.old0 (by rw [Ay KK.h3]; rfl))) ?_)))))
    refine AU rfl AR rfl (Ad rfl rfl (Ab (Aa (Au (Bi 72057559678190336 (α:=Nat) (fun i=>[(35,.int .i64 (i:Int))]) (fun i w'=>i≤rs.length∧∃ M,J (ds.length+2*i) M w') (fun i=>rs.length - i) 0 rfl ?_ ?_ ?_)))))
    ·exact ⟨rfl,trivial⟩
    ·exact ⟨Nat.zero_le _,M,hJ⟩
    ·clear H
     rintro i j2 w ⟨hi,M,hJ⟩
     have KK:=(hK _ _ _ hJ).2
     have R:=KK.R
     obtain ⟨w1,rfl⟩:∃ w1,w1=w:=⟨_,rfl⟩
     have H:=Ctx.start w1 []
     refine Ag (AN rfl rfl rfl (Ab (Aa (Aq (Ax _ rfl ?_ ?_)))))
     ·intro h3
      replace h3:=AF h3
      obtain ⟨x,hx⟩:=AC (l:=rs) (i:=i) (by omega)
      refine Av (Aa (Aq (Au (Ag (Ad rfl rfl (AZ R rfl AR B2 rfl rfl (by omega) (by omega) (by rfl) ?_))))))
      refine AX rfl Bw rfl (((R.ext0 H.ext).fld hx rfl (j:=0) rfl)) ?_
      refine Af rfl rfl (Af rfl rfl (Ab (Aa (Ag (Cd rfl (.func _ _ _) rfl ?_)))))
      refine Ad rfl rfl (Ad rfl rfl (Ad rfl rfl (CC (Bv ⟨rs.length,i,x,0⟩) rfl Mz DH (by kernel_rfl) ?_)))
      have hY1:=hY _ (edV ⟨rs.length,i,x,0⟩) M _ (hat2 h2 _ _ (X3 hx)) (hJs _ _ _ _ hJ H.ext)
      refine FD (vs:=edV ⟨rs.length,i,x,0⟩) rfl rfl hY1 rfl ?_
      rintro u w hu
      clear H
      obtain ⟨bb,rfl,hu1,hu0⟩:∃ bb,u = .bool bb∧(bb=true→∃ M,J (ds.length+2*i+1) M w)∧(bb=false→E w):=hu.elim (fun h=>⟨true,h.1,fun _=>let ⟨M',h1,_⟩:=h.2; ⟨M',h1⟩,fun h=>by cases h⟩) (fun h=>⟨false,h.1,(fun h=>by cases h),fun _=>h.2⟩)
      refine Bu rfl rfl (Ak rfl rfl (A8 47 rfl ?_ ?_))
      ·intro h4
       replace h4:=Bp h4
       refine Ae rfl (Ae rfl (Ae rfl (Ae rfl (Ae rfl (Ae rfl (Am rfl rfl (.bool _) rfl (Ab (Aa (CM rfl (A9 (A4 (Al (Al (A4 (EM rfl rfl ?_)))))))))))))))
       exact .inr (hu0 (by simpa using h4))
      ·intro h4
       replace h4:=Bq h4
       refine Cd rfl (.func _ _ _) rfl ?_
       refine Ad rfl rfl (Ad rfl rfl (CC (Bv ⟨i,rs.length,4503599627370496,0⟩) rfl Mz DH (by kernel_rfl) ?_))
       obtain ⟨M2,hJ2⟩:∃ M,J (ds.length+2*i+1) M w:=hu1 (by simp_all)
       have hY2:=hY _ (edV ⟨i,rs.length,4503599627370496,0⟩) M2 _ (hat2 h2 _ _ (Z1 (by omega))) hJ2
       refine FD (vs:=edV ⟨i,rs.length,4503599627370496,0⟩) rfl rfl hY2 rfl ?_
       rintro u w hu
       obtain ⟨bb,rfl,hv1,hv0⟩:∃ bb,u = .bool bb∧(bb=true→∃ M,J (ds.length+2*i+1+1) M w)∧(bb=false→E w):=hu.elim (fun h=>⟨true,h.1,fun _=>let ⟨M',h1,_⟩:=h.2; ⟨M',h1⟩,fun h=>by cases h⟩) (fun h=>⟨false,h.1,(fun h=>by cases h),fun _=>h.2⟩)
       refine Bu rfl rfl (A3 rfl rfl (.bool _) rfl (Ab (Aa (Ax _ rfl ?_ ?_))))
       ·intro h5
        replace h5:=Bp h5
        refine A9 (A4 (Al (Al (A4 (EM rfl rfl ?_)))))
        exact .inr (hv0 (by simpa using h5))
       ·intro h5
        replace h5:=Bq h5
        refine Av (A5 (Aa (Aw (Ap rfl rfl rfl (by omega) (by omega) ?_))))
        refine Ad rfl rfl (Ab (Aa ?_))
        exact ⟨i+1,rfl,⟨rfl,trivial⟩,⟨by omega,by rw [show ds.length+2*(i+1)=ds.length+2*i+1+1 by omega]; exact hv1 (by simpa using h5)⟩,by omega⟩
     ·intro h3
      replace h3:=AG h3
      refine Bd (Aj (Aj (AD (CJ rfl rfl ?_))))
      obtain rfl:i=rs.length:=by omega
      exact .inl ⟨M,by rw [hlen,if_neg (by rw [h2]; decide)]; exact hJ⟩
end Go.Proofs.YtapphbmlkdhnmaaGreat

/- Rounds: their edges; comparisons of edges and numbers. -/
namespace Go.Proofs.YtapphbmlkdhnmaaGreat
open Go.GV
attribute [local irreducible] A2 W Wq Wt

abbrev U1 (x:Int):List Value:=[Fb x]
instance:DecidableEq Ed:=fun x y=>if h:x.f=y.f∧x.t=y.t∧x.cap=y.cap∧x.cost=y.cost then isTrue (by cases x; cases y; simp_all) else isFalse fun e=>h (by subst e; exact ⟨rfl,rfl,rfl,rfl⟩)
theorem Kj (x y:Ed):decide (x=y)=true↔Bv x=Bv y:=by
 obtain ⟨a,b,c,d⟩:=x
 obtain ⟨a',b',c',d'⟩:=y
 simp [Bv]
theorem Vm (a b:Option Addr) (n c m d:Nat) (net:Bool) (w:World):Ret Tryz.prog 116 #[.slice a n c,.slice b m d,.bool net] w fun v w'=>∃ b1 b2 b3,v = .func (.func 162) #[] #[ptr b1,ptr b2,ptr b3]∧Ctx w [] w' [(b2,Bl 4 [.bool net]),(b1,Bl 23 [.slice b m d]),(b3,Bl 29 [.slice a n c])]:=by
 obtain ⟨w0,rfl⟩:∃ w0,w0=w:=⟨_,rfl⟩
 have H:=Ctx.start w0 []
 refine A1 (fn:=Tryz.f116) Tryz.func116 rfl [.slice a n c,.slice b m d,.bool net] rfl (by kernel_rfl) ?_
 refine Ag (Bs rfl _ (.slice _ _ _) rfl rfl H ?_)
 rintro b3 w - H
 refine Bs rfl _ (.slice _ _ _) rfl rfl H ?_
 rintro b4 w - H
 refine Bs rfl _ (.bool _) rfl rfl H ?_
 rintro b5 w - H
 refine BW rfl .nilFunc rfl ?_
 refine Ab (Aa (Ag (C1 rfl [.pointer _,.pointer _,.pointer _] rfl (BW rfl (.func _ _ _) rfl ?_))))
 refine Ab (Aa (A9 (AB (v:=(.func _ _ _)) rfl rfl rfl ?_)))
 exact ⟨_,_,_,rfl,H⟩
end Go.Proofs.YtapphbmlkdhnmaaGreat

/- Dues that are open, as the reference has them. -/
namespace Go.Proofs.YtapphbmlkdhnmaaGreat
open Go.GV
attribute [local irreducible] A2 W Wq Wt

end Go.Proofs.YtapphbmlkdhnmaaGreat

/- What a round pays. -/
namespace Go.Proofs.YtapphbmlkdhnmaaGreat
open Go.GV
attribute [local irreducible] A2 W Wq Wt

/-- How many are paid. -/
def cutK (k:Int) (n:Nat):Nat:=(max 0 (min k (n:Int))).toNat
end Go.Proofs.YtapphbmlkdhnmaaGreat

/- Dues and accounts, looked up. -/
namespace Go.Proofs.YtapphbmlkdhnmaaGreat
open Go.GV
attribute [local irreducible] A2 W Wq Wt

section
variable {P:Program} {r:Option Nat} {ops rest:List Oper} {Q:Exit→Env→World→Prop} {e:Env} {w:World} {dst:Option Tmp} {ty:TypeId} {pos:String} {af:Array Edge} {g:Option (Nat × Bool)}
end
/-- The due of a number, and whether there is one. -/
def getD7 (ds:List Du) (k:Int):Du:=(X1 ds k).getD d00
end Go.Proofs.YtapphbmlkdhnmaaGreat

/- May a round be built, as the reference has it. -/
namespace Go.Proofs.YtapphbmlkdhnmaaGreat
open Go.GV
attribute [local irreducible] A2 W Wq Wt

def dueB (n:Nat) (d:Du):Bool:=Fs d && (decide (d.fr<n) && decide (d.to<n))
def r19B (rs:List Int) (ds:List Du):Bool:=(decide (rs.length≤16) && decide (ds.length≤64)) && (rs.all Fa && (ds.all (dueB rs.length) && decide ((Hr (ds.map Du.am)).2=0)))
theorem X4 (ds:List Du):∀ i,(Ef i ds).map Du.am=ds.map Du.am:=by
 induction ds with
 | nil=>intro i; rfl
 | cons d ds ih=>intro i; show d.am::(Ef (i+1) ds).map Du.am=d.am::ds.map Du.am; rw [ih]
theorem X5 (rs:List Int):decide ((Hr rs).2=1) = !rs.all Fa:=by
 unfold Hr
 cases h:rs.all Fa with
 | false=>rw [if_pos rfl]; rfl
 | true =>
  rw [if_neg (by decide)]
  split <;> rfl
theorem Adw (rs:List Int) (ds:List Du) (hl:ds.length≤1000000):r19B rs ds=CV rs ds:=by
 have h1:decide (ofC (Ef 0 ds) (ds.length+1)=0)=(decide (ds.length≤64) && (ds.all Fs && decide ((Hr (ds.map Du.am)).2=0))):=by
  have ha:=Vj (ds:=ds) 0
  rw [show (((0:Nat):Int)+ds.length+1)=(ds.length:Int)+1 by omega] at ha
  have ham:(Ef 0 ds).map (·.am)=ds.map Du.am:=X4 ds 0
  unfold ofC
  rw [NX,ham,show Jl ((ds.length:Int)+1) 0 (Ef 0 ds)=ds.all Fs from ha]
  by_cases h64:64<ds.length
  ·rw [if_pos h64,decide_eq_false (show ¬ ds.length≤64 by omega)]; rfl
  ·rw [if_neg h64,decide_eq_true (show ds.length≤64 by omega),Bool.true_and,if_neg (by rw [decide_eq_true (show 1≤(ds.length:Int)+1 by omega),decide_eq_true (show (ds.length:Int)+1≤4611686018427387904 by omega)]; decide)]
   cases hm:ds.all Fs with
   | false=>rw [if_pos rfl]; rfl
   | true=>rw [if_neg (by decide),Bool.true_and]
 have h2:ds.all (dueB rs.length)=(ds.all (fun d=>decide (max d.fr d.to<rs.length)) && ds.all Fs):=by
  rw [Bool.eq_iff_iff]
  simp only [Bool.and_eq_true,List.all_eq_true,decide_eq_true_eq,dueB]
  constructor
  ·intro h
   exact ⟨fun d hd=>by have:=h d hd; omega,fun d hd=>(h d hd).1⟩
  ·intro h d hd
   have:=h.1 d hd
   exact ⟨h.2 d hd,by omega,by omega⟩
 unfold r19B CV
 rw [h1,h2,X5]
 cases decide (rs.length≤16) <;> cases decide (ds.length≤64) <;> cases rs.all Fa <;> cases ds.all (fun d=>decide (max d.fr d.to<rs.length)) <;> cases ds.all Fs <;> rfl
end Go.Proofs.YtapphbmlkdhnmaaGreat

/- Accounts, looked up. -/
namespace Go.Proofs.YtapphbmlkdhnmaaGreat
open Go.GV
attribute [local irreducible] A2 W Wq Wt

def inA (acs:List Ac) (k:Int):Bool:=decide (0≤k) && decide (k<acs.length)
def getA (acs:List Ac) (k:Int):Ac:=if inA acs k=true then acs.getD k.toNat a00 else a00
end Go.Proofs.YtapphbmlkdhnmaaGreat

/- The dues: Add, where nothing stands against it. -/
namespace Go.Proofs.YtapphbmlkdhnmaaGreat
open Go.GV
attribute [local irreducible] A2 W Wq Wt

section
variable {P:Program} {r:Option Nat} {ops rest:List Oper} {Q:Exit→Env→World→Prop} {e:Env} {w:World} {dst:Option Tmp} {ty:TypeId} {pos:String} {af:Array Edge} {g:Option (Nat × Bool)}
end
end Go.Proofs.YtapphbmlkdhnmaaGreat

/- Nets, as the reference has them. -/
namespace Go.Proofs.YtapphbmlkdhnmaaGreat
open Go.GV
attribute [local irreducible] A2 W Wq Wt

def Kk (N k:Int):Bool:=decide (0≤k) && decide (k<N)
theorem QG (N:Int) (a:Option Addr) (n c:Nat) (k:Int) (w:World):Ret Tryz.prog 124 #[CG N a n c,.int .i64 k] w fun v w'=>v = .bool (Kk N k)∧Ext [] w w':=by
 obtain ⟨w0,rfl⟩:∃ w0,w0=w:=⟨_,rfl⟩
 have H:=Ctx.start w0 []
 refine A1 (fn:=Tryz.f124) Tryz.func124 rfl [CG N a n c,.int .i64 k] rfl (by kernel_rfl) ?_
 refine Ag (Bs rfl [.int .i64 N,.slice a n c] (.agg _) rfl rfl H ?_)
 rintro b2 w - H
 refine Ai rfl rfl (Ab (Aa (Ag (Ad rfl rfl (CD rfl rfl rfl (Ak rfl rfl (A8 7 rfl ?_ ?_)))))))
 ·intro h1
  replace h1:=AF h1
  refine Ad rfl rfl (Ah rfl Dn rfl (AA rfl BH rfl H at0 rfl (AN rfl rfl rfl (Am rfl rfl (.bool _) rfl (Ai rfl rfl (Ab (Aa (A9 (AB (v:=(.bool _)) rfl rfl rfl ?_)))))))))
  exact ⟨congrArg Value.bool (by unfold Kk; rw [Bool.eq_iff_iff]; simp_all; try omega),H.ext⟩
 ·intro h2
  replace h2:=AG h2
  refine Ae rfl (Ae rfl (Ae rfl (Ae rfl (A3 rfl rfl (.bool _) rfl (Ai rfl rfl (Ab (Aa (A9 (AB (v:=(.bool _)) rfl rfl rfl ?_)))))))))
  exact ⟨congrArg Value.bool (by unfold Kk; rw [Bool.eq_iff_iff]; simp_all; try omega),H.ext⟩
end Go.Proofs.YtapphbmlkdhnmaaGreat

/- What is left when open dues are paid, one by one: plain law. -/
namespace Go.Proofs.YtapphbmlkdhnmaaGreat
open Go.GV

theorem NY {xs:List Int}:(Hr xs).2=0↔(∀ x∈xs,Fa x=true)∧EE xs≤4503599627370496:=by
 unfold Hr
 cases h:xs.all Fa with
 | false =>
  rw [if_pos rfl]
  refine ⟨fun h=>by simp at h,fun h2=>?_⟩
  rw [List.all_eq_true.2 h2.1] at h; cases h
 | true =>
  rw [if_neg (by decide)]
  rw [List.all_eq_true] at h
  split
  ·rename_i h3; exact ⟨fun _=>⟨h,h3⟩,fun _=>rfl⟩
  ·rename_i h3; exact ⟨fun h=>by simp at h,fun h4=>absurd h4.2 h3⟩
/-- What is left when the open ones are paid. -/
def FT:List Du→List Int→List Du
 | [],_=>[]
 | d::ds,[]=>d::ds
 | d::ds,x::xs=>if d.held=true then d::FT ds (x::xs) else if d.am=x then FT ds xs else { d with am:=d.am - x }::FT ds xs
theorem NZ (ds:List Du):FT ds []=ds:=by cases ds <;> rfl
theorem SH {d:Du} (h:d.held=true) (ds:List Du) (xs:List Int):FT (d::ds) xs=d::FT ds xs:=by
 cases xs with
 | nil=>rw [NZ,NZ]
 | cons x xs=>show (if d.held=true then _ else _)=_; rw [if_pos h]
theorem SJ {d:Du} (h:¬ d.held=true) (ds:List Du) (x:Int) (xs:List Int):FT (d::ds) (x::xs)=(if d.am=x then [] else [{ d with am:=d.am - x }])++FT ds xs:=by
 show (if d.held=true then _ else _)=_
 rw [if_neg h]
 split <;> rfl
theorem QH (d:Du) (ds:List Du):opn (d::ds)=(if d.held=true then [] else [d])++opn ds:=by
 unfold opn
 rw [List.filter_cons]
 cases d.held <;> rfl
/-- What is paid may be. -/
def PayIn (os:List Du) (xs:List Int):Prop:=os.length=xs.length∧∀ (i:Nat) (d:Du) (x:Int),os[i]? = some d→xs[i]? = some x→0≤x∧x≤d.am
theorem PayIn.tail {d:Du} {x:Int} {os:List Du} {xs:List Int} (h:PayIn (d::os) (x::xs)):(0≤x∧x≤d.am)∧PayIn os xs :=
 ⟨h.2 0 d x rfl rfl,by have:=h.1; simp only [List.length_cons] at this; omega,fun i e y he hy=>h.2 (i+1) e y he hy⟩
theorem PayIn.cons {d:Du} {os:List Du} {xs:List Int} (h:PayIn (d::os) xs):∃ x xs',xs=x::xs':=by
 cases xs with
 | nil=>have:=h.1; simp at this
 | cons x xs=>exact ⟨x,xs,rfl⟩
/-- Pays, one by one, each right. -/
def Aaf (ds:List Du):List (Du × Int)→Prop
 | []=>True
 | p::ps=>(X1 ds p.1.id=some p.1∧p.1.held=false∧0≤p.2∧p.2≤p.1.am)∧Aaf (Vh ds p.1.id p.2) ps
def payA (ds:List Du):List (Du × Int)→List Du
 | []=>ds
 | p::ps=>payA (Vh ds p.1.id p.2) ps
theorem Kl {d:Du} (h:Fs d=true):(0≤d.fr∧d.fr<16)∧(0≤d.to∧d.to<16)∧d.fr≠d.to∧(1≤d.am∧d.am≤4503599627370496)∧(1≤d.we∧d.we≤1000)∧0≤d.un:=by
 unfold Fs Fa NV at h
 simp only [Bool.and_eq_true,decide_eq_true_eq,Bool.not_eq_true',decide_eq_false_iff_not] at h
 exact ⟨h.1.1,h.1.2.1,h.1.2.2,⟨h.2.1,h.2.2.1.2⟩,⟨h.2.2.2.1,h.2.2.2.2.1⟩,h.2.2.2.2.2⟩
/-- Amounts stay small. -/
def AmOk (ds:List Du):Prop:=∀ d∈ds,0≤d.am∧d.am≤4503599627370496
end Go.Proofs.YtapphbmlkdhnmaaGreat

/- What flows in a round, and what that shifts: plain law. -/
namespace Go.Proofs.YtapphbmlkdhnmaaGreat
open Go.GV

theorem TV (rs:List Int) (os:List Du) (net:Bool):(Dg rs os net).length=os.length+if net=true then 0 else 2*rs.length:=by
 unfold Dg
 rw [List.length_append,List.length_map]
 split
 ·rfl
 ·rw [TU]
/-- What dues may be in a round of n banks. -/
def X6 (n:Nat) (d:Du):Prop:=Fs d=true∧d.fr<n∧d.to<n
theorem Oa {n:Nat}:∀ {os:List Du},(∀ d∈os,X6 n d)→((((os.map Pu).map EG).sum:Nat):Int)≤1000*EE (os.map Du.am)
 | [],_=>by show (0:Int)≤1000*0; omega
 | d::os,h=>by
  have ih:=Oa (os:=os) fun e he=>h e (List.mem_cons_of_mem _ he)
  have hm:=Kl (h d (List.mem_cons_self ..)).1
  rw [List.map_cons,List.map_cons,List.sum_cons,List.map_cons,DE]
  have h1:EG (Pu d)≤d.am.toNat*1000:=Nat.mul_le_mul_left _ (by show (-d.we).natAbs≤1000; omega)
  have h2:((d.am.toNat:Nat):Int)=d.am:=Int.toNat_of_nonneg (by omega)
  have h3:((EG (Pu d):Nat):Int)≤d.am*1000:=by omega
  rw [Int.natCast_add,Int.mul_add]; omega
theorem Vn {rs:List Int} {os:List Du} {net:Bool} (hn:rs.length≤16) (hm:os.length≤64) (hrs:∀ x∈rs,Fa x=true) (hos:∀ d∈os,X6 rs.length d) (hsum:EE (os.map Du.am)≤4503599627370496):BV ((rs.length+1:Nat):Int) (Dg rs os net)=true:=by
 have hl:=TV rs os net
 have hE:(Dg rs os net).length≤200:=by rw [hl]; split <;> omega
 have hall:(Dg rs os net).all (D9 ((rs.length+1:Nat):Int))=true:=by
  rw [List.all_eq_true]
  intro e he
  unfold Dg at he
  rcases List.mem_append.1 he with he | he
  ·obtain ⟨d,hd,rfl⟩:=List.mem_map.1 he
   obtain ⟨h1,h2,h3⟩:=hos d hd
   have:=Kl h1
   unfold D9 Gz Pu
   simp only [Bool.and_eq_true,decide_eq_true_eq]
   omega
  ·split at he
   ·cases he
   ·unfold Lp at he
    obtain ⟨j,hj,rfl⟩:=List.mem_map.1 he
    rw [List.mem_range] at hj
    obtain ⟨r,hr⟩:=AC (l:=rs) (i:=j / 2) (by omega)
    have hr2:=Hs.1 (hrs r (List.mem_of_getElem? hr))
    unfold D9 Gz
    rw [Bn hr]
    split
    ·simp only [Bool.and_eq_true,decide_eq_true_eq]; omega
    ·simp only [Bool.and_eq_true,decide_eq_true_eq]; omega
 have hp:DI (Dg rs os net)≤4611686018427387904:=by
  unfold DI Dg
  rw [List.map_append,List.sum_append]
  have h1:=Oa hos
  have h2:((if net=true then [] else Lp rs).map EG).sum=0:=by
   split
   ·rfl
   ·unfold Lp
    rw [List.map_map]
    have:∀ l:List Nat,(l.map (EG ∘ fun j=>if j % 2=0 then (⟨rs.length,(j / 2:Nat),rs.getD (j / 2) 0,0⟩:Ed) else ⟨(j / 2:Nat),rs.length,4503599627370496,0⟩)).sum=0:=by
     intro l
     induction l with
     | nil=>rfl
     | cons j l ih =>
      rw [List.map_cons,List.sum_cons,ih]
      show EG (if j % 2=0 then _ else _)+0=0
      split <;> rfl
    exact this _
  rw [h2]; omega
 unfold BV
 rw [hall,decide_eq_true hE,decide_eq_true hp,decide_eq_true (show (1:Int)≤((rs.length+1:Nat):Int) by omega),decide_eq_true (show ((rs.length+1:Nat):Int)≤40 by omega)]; rfl
theorem gr_f {N:Int} {es:List Ed} {i:Nat} {e:Ed} (h:es[i]? = some e):(grE N es).f i=e.f.toNat:=by show (es.getD i e0).f.toNat=_; rw [Bn h]
theorem gr_t {N:Int} {es:List Ed} {i:Nat} {e:Ed} (h:es[i]? = some e):(grE N es).t i=e.t.toNat:=by show (es.getD i e0).t.toNat=_; rw [Bn h]
theorem X7 {N:Int} {es:List Ed} {i:Nat} {e:Ed} (h:es[i]? = some e):(grE N es).co i=e.cost:=by show (es.getD i e0).cost=_; rw [Bn h]
/-- What is paid to a bank, less what it pays. -/
def byK (rs:List Int) (os:List Du) (net:Bool) (fl:List Int) (k:Nat):Int:=E7 (grE ((rs.length+1:Nat):Int) (Dg rs os net)) (flE fl) os.length k
/-- What a round that may be built says. -/
structure Bright (rs:List Int) (ds:List Du):Prop where
 n16:rs.length≤16
 may:∀ x∈rs,Fa x=true
 m64:ds.length≤64
 due:∀ d∈ds,X6 rs.length d
 tot:EE (ds.map Du.am)≤4503599627370496
theorem MP {rs:List Int} {ds:List Du} (hl:ds.length≤1000000):CV rs ds=true↔Bright rs ds:=by
 rw [← Adw rs ds hl]
 unfold r19B
 simp only [Bool.and_eq_true,decide_eq_true_eq,List.all_eq_true,dueB]
 constructor
 ·rintro ⟨⟨h1,h2⟩,h3,h4,h5⟩
  exact ⟨h1,h3,h2,fun d hd=>⟨(h4 d hd).1,(h4 d hd).2.1,(h4 d hd).2.2⟩,(NY.1 h5).2⟩
 ·rintro ⟨h1,h3,h2,h4,h5⟩
  refine ⟨⟨h1,h2⟩,h3,fun d hd=>⟨(h4 d hd).1,(h4 d hd).2.1,(h4 d hd).2.2⟩,NY.2 ⟨fun x hx=>?_,h5⟩⟩
  obtain ⟨d,hd,rfl⟩:=List.mem_map.1 hx
  have:=(Kl (h4 d hd).1).2.2.2.1
  exact Hs.2 ⟨by omega,this.2⟩
theorem TW {ds:List Du} {d:Du} (h:d∈opn ds):d∈ds∧d.held=false:=by
 unfold opn at h
 rw [List.mem_filter] at h
 exact ⟨h.1,by simpa using h.2⟩
theorem TX (ds:List Du):(opn ds).length≤ds.length:=List.length_filter_le _ _
theorem Z3 {ds:List Du} (h:∀ d∈ds,0≤d.am):EE ((opn ds).map Du.am)≤EE (ds.map Du.am):=by
 induction ds with
 | nil=>exact Int.le_refl _
 | cons d ds ih =>
  have h0:=h d (List.mem_cons_self ..)
  have ih:=ih fun e he=>h e (List.mem_cons_of_mem _ he)
  rw [QH,List.map_cons,DE]
  split
  ·rw [List.nil_append]; omega
  ·show EE (d.am::(opn ds).map Du.am)≤_
   rw [DE]; omega
theorem Bright.open' {rs:List Int} {ds:List Du} (h:Bright rs ds):Bright rs (opn ds) :=
 ⟨h.n16,h.may,Nat.le_trans (TX ds) h.m64,fun d hd=>h.due d (TW hd).1,Int.le_trans (Z3 fun d hd=>by have:=(Kl (h.due d hd).1).2.2.2.1; omega) h.tot⟩
theorem Bright.right {rs:List Int} {ds:List Du} (h:Bright rs ds) (net:Bool):BV ((rs.length+1:Nat):Int) (Dg rs (opn ds) net)=true :=
 Vn h.n16 h.open'.m64 h.may h.open'.due h.open'.tot
end Go.Proofs.YtapphbmlkdhnmaaGreat
