/- Part 8 of the proof. -/
import Derived.Test.YtdagmpmdcgedcaaGreatPart2
import Derived.Test.YtdagmpmdcgedcaaGreatPart7
import Derived.Test.YtdagmpmdcgedcaaGreatPart4
import Derived.Test.YtdagmpmdcgedcaaGreatPart6
import Derived.Test.YtdagmpmdcgedcaaGreatPart3
namespace Go.Proofs.YtdagmpmdcgedcaaGreat
open Go.GV
attribute [local irreducible] AB W Wq Wt
theorem Vh (x:Nat) (w:World) (hx:x≤4503599627370496:=by omega):Ret Tryz.prog 205 #[.int .u64 (x:Int)] w fun v w'=>∃ r:Nat,v = .int .i64 (r:Int)∧x<2 ^ r∧r≤64∧(0<x→2 ^ r≤2*x)∧w=w':=by
 refine Aw (fn:=Tryz.f205) Tryz.func205 U [.int .u64 (x:Int)] U (by kernel_rfl) ?_;refine Af (Ad U (Ab (Aa (Aq (Ap _ U ?_ ?_)))))
 ·intro h;cases h
 ·intro h;refine Au (Aa (Af (Ae U (Al YS (T7 x hx w) U ?_))));rintro v w ⟨r,rfl,h1,h2,h3,rfl⟩;refine Ad U (Ab (Aa (A4 (AD (v:=(.int _ _)) U U U ?_))));exact ⟨r,rfl,h1,h2,h3,rfl⟩
theorem Aec (l:Nat) (w:World) (h0:0<l:=by omega) (hl:l≤1000000000:=by omega):Ret Tryz.prog 257 #[.int .i64 (l:Int)] w fun v w'=>∃ r:Nat,v = .int .u64 (r:Int)∧0<r∧r≤2*l∧w=w':=by
 refine Aw (fn:=Tryz.f257) Tryz.func257 U [.int .i64 (l:Int)] U (by kernel_rfl) ?_;refine Af (Ad U (Ab (Aa (Af (Ae U (DM U OM RK ?_))))));refine Al UK (Vh l w) U ?_;rintro v w ⟨r,rfl,h1,h2,h3,rfl⟩;refine U3 (a:=1) (n:=r) U U U h2 ?_;refine Ad U (Ab (Aa (A4 (AD (v:=(.int _ _)) U U U ?_))));have h4:=h3 h0;have h5:=Nat.two_pow_pos r;exact ⟨2 ^ r,congrArg (Value.int .u64) (by rw [Nat.one_mul,Nat.mod_eq_of_lt (by omega)]),h5,h4,rfl⟩
theorem ZY {x y:Nat} (hx:x<18446744073709551616) (hy:y<18446744073709551616):x ^^^ y<18446744073709551616:=Nat.xor_lt_two_pow (n:=64) hx hy
section
variable {w:World} {q n c m s:Nat} {f:Nat→Int}
set_option maxRecDepth 20000 in
theorem Aed {z:Nat} (hs:w.heap[s]? = some (Bl 286 [.int .u64 (z:Int)])) (hz:z<18446744073709551616) :
  Ret Tryz.prog 258 #[ptr s] w fun v w'=>∃ z':Nat,v = .int .u64 (z':Int)∧z'<18446744073709551616∧Ctx w [s] w' [(s,Bl 286 [.int .u64 (z':Int)])]:=by
 obtain ⟨w0,rfl⟩:∃ w0,w0=w:=⟨_,rfl⟩;have H:=Ctx.start1 hs;refine Aw (fn:=Tryz.f258) Tryz.func258 U [.pointer (some ⟨s,0,none⟩)] U (by kernel_rfl) ?_;have b1:=Nat.mod_lt (z*2 ^ 13) (show 0<18446744073709551616 by decide);obtain ⟨y1,hy1⟩:∃ y1,y1=z*2 ^ 13 % 18446744073709551616:=⟨_,rfl⟩;rw [← hy1] at b1;refine Af (Ad U (Ab (Aa (Eb 9 Bs (by kernel_rfl) U U ?_))));refine B4 U (Bb U (Cn Lf U (by rintro _ rfl; exact H.drew) at0 U ?_));refine B4 U (Bb U (Cn Lf U (by rintro _ rfl; exact H.drew) at0 U ?_));refine Qg (a:=z) (n:=13) U U U (by decide) ?_;rw [← hy1];refine Mx (a:=z) (b:=y1) U U U hz b1 ?_;refine Bb U (BW ?_);replace H:=H.drew;refine Cp (.int _ _) RJ U U U H at0 (by (simp; done)) ?_;rintro w H;refine Ab (Aa ?_);obtain ⟨z1,hz1⟩:∃ z1,z1=z ^^^ y1:=⟨_,rfl⟩;have c1:=ZY hz b1;rw [← hz1] at c1;replace H:Ctx w0 [s] w [(s,Bl 286 [.int .u64 (z1:Int)])]:=by rw [hz1]; exact H
 have b2:z1 / 2 ^ 7<18446744073709551616:=Nat.lt_of_le_of_lt (Nat.div_le_self _ _) c1;obtain ⟨y2,hy2⟩:∃ y2,y2=z1 / 2 ^ 7:=⟨_,rfl⟩;rw [← hy2] at b2;refine Eb 9 Bs (by kernel_rfl) U U ?_;refine B4 U (Bb U (Cn Lf U (by rintro _ rfl; exact H.drew) at0 U ?_));refine B4 U (Bb U (Cn Lf U (by rintro _ rfl; exact H.drew) at0 U ?_));refine WT (a:=z1) (n:=7) U U U (by decide) ?_;rw [← hy2];refine Mx (a:=z1) (b:=y2) U U U c1 b2 ?_;refine Bb U (BW ?_);replace H:=H.drew;refine Cp (.int _ _) RJ U U U H at0 (by (simp; done)) ?_;rintro w H;refine Ab (Aa ?_);obtain ⟨z2,hz2⟩:∃ z2,z2=z1 ^^^ y2:=⟨_,rfl⟩;have c2:=ZY c1 b2;rw [← hz2] at c2;replace H:Ctx w0 [s] w [(s,Bl 286 [.int .u64 (z2:Int)])]:=by rw [hz2]; exact H
 have b3:=Nat.mod_lt (z2*2 ^ 17) (show 0<18446744073709551616 by decide);obtain ⟨y3,hy3⟩:∃ y3,y3=z2*2 ^ 17 % 18446744073709551616:=⟨_,rfl⟩;rw [← hy3] at b3;refine Eb 9 Bs (by kernel_rfl) U U ?_;refine B4 U (Bb U (Cn Lf U (by rintro _ rfl; exact H.drew) at0 U ?_));refine B4 U (Bb U (Cn Lf U (by rintro _ rfl; exact H.drew) at0 U ?_));refine Qg (a:=z2) (n:=17) U U U (by decide) ?_;rw [← hy3];refine Mx (a:=z2) (b:=y3) U U U c2 b3 ?_;refine Bb U (BW ?_);replace H:=H.drew;refine Cp (.int _ _) RJ U U U H at0 (by (simp; done)) ?_;rintro w H;refine Ab (Aa (Af (Ay U (A9 U (AM Lf U H at0 U (Ad U (Ab (Aa (A4 (AD (v:=(.int _ _)) U U U ?_))))))))));exact ⟨z2 ^^^ y3,rfl,ZY c2 b3,H⟩
set_option maxRecDepth 20000 in
set_option maxHeartbeats 2000000 in
theorem ZZ {a b:Nat} (hd:w.heap[q]? = some (Bl 28 (CB f m))) (hn:n≤m) (hm:n≤1000000000)  (hab:a<b:=by omega) (hb:b≤n:=by omega):
  Ret Tryz.prog 232 #[.slice (some ⟨q,0,none⟩) n c,.int .i64 (a:Int),.int .i64 (b:Int)] w fun v w'=>v = .tuple #[]∧∃ g,Sw a b f g∧Ctx w [q] w' [(q,Bl 28 (CB g m))]:=by
 obtain ⟨w0,rfl⟩:∃ w0,w0=w:=⟨_,rfl⟩;have H:=Ctx.start1 hd;obtain ⟨l,rfl⟩:∃ l,b=a+l:=⟨b - a,by omega⟩;have hl:((a+l:Nat):Int) - (a:Int)=(l:Int):=by omega
 refine Aw (fn:=Tryz.f232) Tryz.func232 U [.slice (some ⟨q,0,none⟩) n c,.int .i64 (a:Int),.int .i64 ((a+l:Nat):Int)] U (by kernel_rfl) ?_;refine Af (Ae U (Ae U (Br U U ?_)));rw [hl];refine Ad U (Ab (Aa (Af (Ae U (C4 U U (Ab (Aa (Ap _ U ?_ ?_))))))))
 ·intro h1;replace h1:=AJ h1;refine Af (Ae U (DM U OM Ajd ?_));refine AX Ajf H ?_;rintro b7 w - H;refine Cp (.int _ _) RJ U U U H at0 (by decide) ?_;rintro w H;refine Ab (Aa (Af (Ae U (Al Aip (Aec l _) U ?_))));rintro v w ⟨M,rfl,hM0,hM,rfl⟩;refine Ad U (Ab (Aa (Af (Ae U (Ae U (JK U U (show _≤(9223372036854775807:Int) by omega) ?_))))));refine DE U U ?_;refine Ax U U ?_;refine Br U U ?_;rw [show (a:Int)+(l:Int) / 4*2 - 1=((a+l / 4*2 - 1:Nat):Int) by omega]
  refine Ad U (Ab (Aa (A0 (Bt 36893488147351995904 (α:=Nat × (Nat→Int) × Nat) (fun t=>[(9,.int .i64 (t.1:Int))]) (fun t w'=>a≤t.1∧t.1≤a+l / 4*2+2∧t.2.2<18446744073709551616∧Sw a (a+l) f t.2.1∧Ctx w0 [q] w' [(b7,Bl 286 [.int .u64 (t.2.2:Int)]),(q,Bl 28 (CB t.2.1 m))]) (fun t=>a+l / 4*2+2 - t.1) (a+l / 4*2 - 1,f,l) U ?_ ?_ ?_))))
  ·exact ⟨rfl,trivial⟩
  ·exact ⟨by dsimp only; omega,by dsimp only; omega,by dsimp only; omega,.refl _,H⟩
  ·rintro ⟨i,g,z⟩ j0 w ⟨hi1,hi2,hz,hS,H⟩; dsimp only at hi1 hi2 hz hS H; dsimp only;refine Aq (Af (Ae U (Ae U (Ae U (JK U U (show _≤(9223372036854775807:Int) by omega) ?_)))));refine DE U U ?_;refine Ax U U ?_;refine Ax U U ?_;refine KW U U (Ab (Aa (Ap _ U ?_ ?_)))
   ·intro h2;replace h2:=AJ h2;refine Au (Aa (Aq (A0 (Af (Al Aiq (Aed (H.get at0) hz) U ?_)))));rintro v w ⟨z2,rfl,hz2,H2⟩;replace H:=Ctx.back (L1:=[_]) (L2:=[_]) H H2;refine Ae U (KZ U U U ?_);rw [show (M:Int) - 1=((M - 1:Nat):Int) by omega];refine Jk (a:=z2) (b:=M - 1) U U U (ha:=hz2) ?_;have hand:z2 &&& (M - 1)≤M - 1:=Nat.and_le_right;refine G3 U U RK OM ?_;refine Ad U (Ab (Aa (Aq (Af (Ae U (Ae U (C4 U U (Ab (Aa ?_)))))))));obtain ⟨r,hr⟩:∃ r,r=z2 &&& (M - 1):=⟨_,rfl⟩;have hr2:r≤M - 1:=by rw [hr]; exact Nat.and_le_right
    rw [← hr];refine F8 123145302311936 (α:=Nat) (fun r=>[(10,.int .i64 (r:Int))]) (fun r w'=>r<l∧Ctx w0 [q] w' [(b7,Bl 286 [.int .u64 (z2:Int)]),(q,Bl 28 (CB g m))]) U ?_ ?_
    ·skip
     refine Ap _ U ?_ ?_
     ·intro h3;replace h3:=AJ h3;refine Az (Ae U (Ae U (Br U U ?_)));refine Ad U (Ab (Aa ?_));exact ⟨r - l,rfl,⟨congrArg (Value.int .i64) (by omega),trivial⟩,by omega,H⟩
     ·intro h3;replace h3:=AK h3;refine Au (Aa ?_);exact ⟨r,rfl,⟨rfl,trivial⟩,by omega,H⟩
    ·rintro r2 j1 w ⟨hr3,H⟩;refine ER [([0,1,2,3,4,5,6,7,8,9,10,11,12,13,14,15,16],17),([18],19)] (fun z=>z.heap[q]? = some (Bl 28 (CB (g) m))) [17,19] Bs (by kernel_rfl) (H.drew.get at1) ?_;refine AF U U ?_;refine B2 U (Be U (B2 U (Be U (Be U (Eg U U ?_)))));refine B2 U (Be U (Be U (Eg U U ?_)));refine AH Bx Bp U U ?_;refine B0 B5 U (fun _ hx=>(Cy hx)) ?_;refine B2 U (Be U (AH Bx Bp U U ?_));refine B0 B5 U (fun _ hx=>(Cy hx)) ?_;refine AH Bx Bp U U ?_;refine AP ?_;replace H:=H.drew;refine Cc (i) (fun z => .int .u64 (if z=i then (g) (a+r2) else (g) z)) (.int _ _) Bp U U U H at1 (by omega) (by rw [if_pos rfl]; exact congrArg (fun z=>Value.int .u64 ((g) z)) (by omega)) (fun z _ hz=>by rw [if_neg hz]) ?_;rintro w H
     refine Ab (Bz U (AF U U ?_));refine AH Bx Bp U U ?_;refine AP (Cc (a+r2) (fun z => .int .u64 (sw (g) (i) (a+r2) z)) (.int _ _) Bp U U U H at1 (by omega) (by rw [DL]; exact congrArg (fun z=>Value.int .u64 ((g) z)) (by omega)) (fun z _ hz=>by rw [DH hz]) ?_);rintro w H;refine Ab (Bz U (BH (A5 (Aa (Az (Ae U (Ax U U ?_)))))));refine Ad U (Ab (Aa ?_));exact ⟨(i+1,sw g i (a+r2),z2),rfl,⟨rfl,trivial⟩,⟨by dsimp only; omega,by dsimp only; omega,hz2,hS.step i (a+r2) ⟨by omega,by omega⟩ ⟨by omega,by omega⟩,H⟩,by dsimp only; omega⟩
   ·intro h2;replace h2:=AK h2;refine Bq (Am (Am (AG (CF U U ?_))));exact ⟨rfl,g,hS,H.tail⟩
 ·intro h1;replace h1:=AK h1;refine Au (CF U U ?_);exact ⟨rfl,f,.refl _,H⟩
end
end Go.Proofs.YtdagmpmdcgedcaaGreat
namespace Go.Proofs.YtdagmpmdcgedcaaGreat
open Go.GV
attribute [local irreducible] AB W Wq Wt
structure PQ (f g:Nat→Int) (a b a' b':Nat):Prop where
 ha:a≤a'
 hab:a'≤b'
 hb:b'≤b
 sw:Sw a b f g
 out:∀ x y,a≤x→x<y→y<b→¬ (a'≤x∧y<b')→g x≤g y
 lb:0<a'→∀ x,a'≤x→x<b'→g (a' - 1)≤g x
section
variable {f g g':Nat→Int} {a b a' b':Nat}
theorem PQ.swap (h:PQ f g a b a' b') (s:Sw a' b' g g'):PQ f g' a b a' b':=by
 refine ⟨h.ha,h.hab,h.hb,h.sw.trans (s.mono h.ha h.hb),fun x y hx hxy hy hn=>?_,fun h0 x hx hxb=>?_⟩
 ·by_cases ix:a'≤x∧x<b'
  ·obtain ⟨x2,h1,h2,h3⟩:=s.mem x ix.1 ix.2;rw [h3,s.out y (.inr (by omega))];exact h.out x2 y (Nat.le_trans h.ha h1) (by omega) hy (by omega)
  ·rw [s.out x (by omega)]
   by_cases iy:a'≤y∧y<b'
   ·obtain ⟨y2,h1,h2,h3⟩:=s.mem y iy.1 iy.2;rw [h3];exact h.out x y2 hx (by omega) (Nat.lt_of_lt_of_le h2 h.hb) (by omega)
   ·rw [s.out y (by omega)];exact h.out x y hx hxy hy hn
 ·obtain ⟨x2,h1,h2,h3⟩:=s.mem x hx hxb;rw [h3,s.out (a' - 1) (.inl (by omega))];exact h.lb h0 x2 h1 h2
theorem PQ.done (h:PQ f g a b a' b') (s:JE g a' b'):JE g a b:=fun x y hx hxy hy=>by
 by_cases hn:a'≤x∧y<b'
 ·exact s x y hn.1 hxy hn.2
 ·exact h.out x y hx hxy hy hn
theorem PQ.eq {i:Nat} (h:PQ f g a b a' b') (h0:0<a') (hle:g a'≤g (a' - 1)) (hi:a'<i) (hi2:i≤b') (h1:∀ x,a'≤x→x<i→g x≤g a') (h2:∀ y,i≤y→y<b'→g a'<g y):PQ f g a b i b':=by
 refine ⟨by have:=h.ha; omega,hi2,h.hb,h.sw,fun x y hx hxy hy hn=>?_,fun _ x hx hxb=>?_⟩
 ·by_cases hin:a'≤x∧y<b'
  ·have hxi:x<i:=by omega
   have hx1:=h1 x hin.1 hxi
   rcases Nat.lt_or_ge y i with h3 | h3
   ·have:=h.lb h0 y (by omega) hin.2;omega
   ·have:=h2 y h3 hin.2;omega
  ·exact h.out x y hx hxy hy hin
 ·have e1:=h1 (i - 1) (by omega) (by omega);have e2:=h2 x hx hxb;omega
theorem PartU.sw {mid lo hi:Nat} (p:PartU g a' mid b') (s:Sw lo hi g g') (h:(a'≤lo∧hi≤mid)∨(mid<lo∧hi≤b')):PartU g' a' mid b':=by
 have hm:g' mid=g mid:=s.out mid (by omega);refine ⟨fun x hx hxm=>?_,fun y hy hyb=>?_⟩
 ·rw [hm]
  by_cases ix:lo≤x∧x<hi
  ·obtain ⟨x2,h1,h2,h3⟩:=s.mem x ix.1 ix.2;rw [h3]; exact p.le x2 (by omega) (by omega)
  ·rw [s.out x (by omega)]; exact p.le x hx hxm
 ·rw [hm]
  by_cases iy:lo≤y∧y<hi
  ·obtain ⟨y2,h1,h2,h3⟩:=s.mem y iy.1 iy.2;rw [h3]; exact p.ge y2 (by omega) (by omega)
  ·rw [s.out y (by omega)]; exact p.ge y hy hyb
theorem PQ.right {mid:Nat} (h:PQ f g a b a' b') (hm1:a'≤mid) (hm2:mid<b') (p:PartU g a' mid b') (s:JE g a' mid):PQ f g a b (mid+1) b':=by
 refine ⟨by have:=h.ha; omega,by omega,h.hb,h.sw,fun x y hx hxy hy hn=>?_,fun _ x hx hxb=>p.ge x (by omega) hxb⟩
 by_cases hin:a'≤x∧y<b'
 ·rcases Nat.lt_or_ge y mid with h1 | h1
  ·exact s x y hin.1 hxy h1
  ·have hxm:x≤mid:=by omega
   have e1:g x≤g mid:=by
    rcases Nat.lt_or_ge x mid with h2 | h2
    ·exact p.le x hin.1 h2
    ·rw [show x=mid by omega]; exact Int.le_refl _
   rcases Nat.lt_or_ge mid y with h2 | h2
   ·exact Int.le_trans e1 (p.ge y h2 hin.2)
   ·rw [show y=mid by omega]; exact e1
 ·exact h.out x y hx hxy hy hin
theorem PQ.left {mid:Nat} (h:PQ f g a b a' b') (hm1:a'≤mid) (hm2:mid<b') (p:PartU g a' mid b') (s:JE g (mid+1) b'):PQ f g a b a' mid:=by
 refine ⟨h.ha,hm1,by have:=h.hb; omega,h.sw,fun x y hx hxy hy hn=>?_,fun h0 x hx hxb=>h.lb h0 x hx (by omega)⟩
 by_cases hin:a'≤x∧y<b'
 ·rcases Nat.lt_or_ge mid x with h1 | h1
  ·exact s x y h1 hxy hin.2
  ·have hym:mid≤y:=by omega
   have e1:g x≤g mid:=by
    rcases Nat.lt_or_ge x mid with h2 | h2
    ·exact p.le x hin.1 h2
    ·rw [show x=mid by omega]; exact Int.le_refl _
   rcases Nat.lt_or_ge mid y with h2 | h2
   ·exact Int.le_trans e1 (p.ge y h2 hin.2)
   ·rw [show y=mid by omega]; exact e1
 ·exact h.out x y hx hxy hy hin
end
structure QSt where
 a:Nat
 b:Nat
 lim:Nat
 t8:Bool
 t9:Bool
 g:Nat→Int
set_option maxRecDepth 20000 in
set_option maxHeartbeats 8000000 in
theorem Ajs {q n c m:Nat} (hn:n≤m) (hm:n≤1000000000):∀ (Z:Nat) {w:World} {f:Nat→Int} {a b lim:Nat},b - a<Z→w.heap[q]? = some (Bl 28 (CB f m))→a≤b→b≤n→lim≤1000→(0<a→∀ x,a≤x→x<b→f (a - 1)≤f x) →
  Ret Tryz.prog 204 #[.slice (some ⟨q,0,none⟩) n c,.int .i64 (a:Int),.int .i64 (b:Int),.int .i64 (lim:Int)] w fun v w'=>v = .tuple #[]∧∃ g,Sw a b f g∧JE g a b∧Ctx w [q] w' [(q,Bl 28 (CB g m))]:=by
 intro Z
 induction Z with
 | zero=>intro w f a b lim h; omega
 | succ Z ih =>
 intro w f a b lim hZ hd hab hb hlim hLB;obtain ⟨w0,rfl⟩:∃ w0,w0=w:=⟨_,rfl⟩;have H:=Ctx.start1 hd;refine Aw (fn:=Tryz.f204) Tryz.func204 U [.slice (some ⟨q,0,none⟩) n c,.int .i64 (a:Int),.int .i64 (b:Int),.int .i64 (lim:Int)] U (by kernel_rfl) ?_;refine Af (Ai U (Ab (Aa (Af (Ai U (Ab (Aa (A0 (Bt 21778071482940061661655974875633165532942 (α:=QSt) (fun t=>[(1,.int .i64 (t.a:Int)),(2,.int .i64 (t.b:Int)),(3,.int .i64 (t.lim:Int)),(8,.bool t.t8),(9,.bool t.t9)]) (fun t w'=>t.lim≤1000∧PQ f t.g a b t.a t.b∧Ctx w0 [q] w' [(q,Bl 28 (CB t.g m))]) (fun t=>t.b - t.a) ⟨a,b,lim,true,true,f⟩ U ?_ ?_ ?_)))))))))
 ·exact ⟨rfl,rfl,rfl,rfl,rfl,trivial⟩
 ·exact ⟨hlim,⟨Nat.le_refl _,hab,Nat.le_refl _,.refl _,fun x y h1 h2 h3 h4=>absurd ⟨h1,h3⟩ h4,hLB⟩,H⟩
 ·rintro ⟨a',b',lim,t8,t9,g⟩ j0 w ⟨hlim,P,H⟩; dsimp only at hlim P H; dsimp only;have hP1:=P.ha;have hP2:=P.hab;have hP3:=P.hb;refine A0 (Af (Ae U (Ae U (Br U U ?_))));refine Ad U (Ab (Aa (Aq (Af (Ae U (KW U U (Ab (Aa (Ap _ U ?_ ?_)))))))))
  ·intro h1;replace h1:=AJ h1;refine Af (A3 U (Ae U (Ae U (Al YU (Sd (a:=a') (b:=b') (H.get at0) hP2 hn hm) U ?_))));rintro rv w ⟨rfl,g2,s2,o2,H2⟩;replace H:=Ctx.back (L1:=[_]) (L2:=[]) H H2;refine Ab (Aa (A4 (Ao (AA (Ao (AA (FA U U ?_)))))));exact ⟨rfl,g2,(P.swap s2).sw,(P.swap s2).done o2,H⟩
  ·intro h1;replace h1:=AK h1;refine Au (Aa (Aq (Af (Ae U (Cf U U (Ab (Aa (Ap _ U ?_ ?_))))))))
   ·intro h2;replace h2:=AJ h2;refine Af (A3 U (Ae U (Ae U (Al Ah7 (T9 (a:=a') (b:=b') (H.get at0) hn hm) U ?_))));rintro rv w ⟨rfl,g2,s2,o2,H2⟩;replace H:=Ctx.back (L1:=[_]) (L2:=[]) H H2;refine Ab (Aa (A4 (Ao (AA (Ao (AA (FA U U ?_)))))));exact ⟨rfl,g2,(P.swap s2).sw,(P.swap s2).done o2,H⟩
   ·intro h2;replace h2:=AK h2;refine Au (Aa (Aq (Af (AE U (BA U (Ab (Aa (F8 4329327034376 (α:=Nat × (Nat→Int)) (fun t=>[(3,.int .i64 (t.1:Int))]) (fun t w'=>t.1≤1000∧PQ f t.2 a b a' b'∧Ctx w0 [q] w' [(q,Bl 28 (CB t.2 m))]) U ?_ ?_))))))))
    ·skip
     refine Ap _ U ?_ ?_
     ·intro h3;replace h3:=BE h3;refine Af (A3 U (Ae U (Ae U (Al Ah8 (ZZ (a:=a') (b:=b') (H.get at0) hn hm) U ?_))));rintro rv w ⟨rfl,g2,s2,H2⟩;replace H:=Ctx.back (L1:=[_]) (L2:=[]) H H2;refine Ab (Aa (Az (Ae U (Br U U ?_))));refine Ad U (Ab (Aa ?_));exact ⟨(lim - 1,g2),rfl,⟨congrArg (Value.int .i64) (by dsimp only; omega),trivial⟩,by dsimp only; omega,P.swap s2,H⟩
     ·intro h3;replace h3:=BF h3;refine Au (Aa ?_);exact ⟨(lim,g),rfl,⟨rfl,trivial⟩,hlim,P,H⟩
    ·rintro ⟨lim,g⟩ j1 w ⟨hlim,P,H⟩; dsimp only at hlim P H; dsimp only;refine Af (A3 U (Ae U (Ae U (Al Ah9 (ZX (a:=a') (b:=b') (H.get at0) hn hm) U ?_))));rintro rv w ⟨p,hint,hp1,hp2,rfl,hx46⟩;replace H:=H.call hx46;refine BM U (A6 U U (A6 U U (Ad U (Ad U (Ab (Aa (Aq (Af (Ae U (Cf U U ?_))))))))));refine Ab (Aa (F8 2303591209400014848 (α:=Nat × Int × (Nat→Int)) (fun t=>[(11,.int .i64 (t.1:Int)),(12,.int .i64 t.2.1)]) (fun t w'=>a'≤t.1∧t.1<b'∧PQ f t.2.2 a b a' b'∧Ctx w0 [q] w' [(q,Bl 28 (CB t.2.2 m))]) U ?_ ?_))
     ·skip
      refine Ap _ U ?_ ?_
      ·intro h4;replace h4:=AJ h4;refine Af (A3 U (Ae U (Ae U (Al Aia (Vf (a:=a') (b:=b') (H.get at0) hn hm) U ?_))));rintro rv w ⟨rfl,g2,s2,H2⟩;replace H:=Ctx.back (L1:=[_]) (L2:=[]) H H2;refine Ab (Aa (Af (Ae U (Br U U ?_))));refine Ae U (Ae U (Br U U ?_));refine Br U U ?_;refine Ad U (Ab (Aa (Az (Ad U (Ab (Aa ?_))))));exact ⟨(b' - 1 - (p - a'),1,g2),rfl,⟨congrArg (Value.int .i64) (by dsimp only; omega),rfl,trivial⟩,by dsimp only; omega,by dsimp only; omega,P.swap s2,H⟩
      ·intro h4;replace h4:=AK h4;refine Au (Aa ?_);exact ⟨(p,hint,g),rfl,⟨rfl,rfl,trivial⟩,hp1,hp2,P,H⟩
     ·rintro ⟨p,hint,g⟩ j2 w ⟨hp1,hp2,P,H⟩; dsimp only at hp1 hp2 P H; dsimp only;refine Aq (DC 587989967349491957760 (α:=Bool) (fun t=>[(68,.bool t)]) (fun _ w'=>Ctx w0 [q] w' [(q,Bl 28 (CB g m))]) U ?_ ?_)
      ·skip
       refine Az (AE U (AE U (AY 62 U ?_ ?_)))
       ·intro h1;refine AE U (AN U (.bool _) U (AE U (AY 65 U ?_ ?_)))
        ·intro h2;refine Ae U (Cf U U (AN U (.bool _) U (Ab (Aa ?_))));exact ⟨_,rfl,⟨rfl,trivial⟩,H⟩
        ·intro h3;refine Ah U (Ah U (AU U (.bool _) U (Ab (Aa ?_))));exact ⟨_,rfl,⟨rfl,trivial⟩,H⟩
       ·intro h4;refine Ah U (AU U (.bool _) U (AE U (Ah U (Ah U (AU U (.bool _) U (Ab (Aa ?_)))))));exact ⟨_,rfl,⟨rfl,trivial⟩,H⟩
      ·rintro t68 j3 w H;refine F8 8854437155380584775680 (α:=Nat→Int) (fun _=>[]) (fun g w'=>PQ f g a b a' b'∧Ctx w0 [q] w' [(q,Bl 28 (CB g m))]) U ?_ ?_
       ·skip
        refine Ap _ U ?_ ?_
        ·intro h5;refine Af (A3 U (Ae U (Ae U (Al Aib (Vg (a:=a') (b:=b') (H.get at0) hn hm P.lb) U ?_))));rintro rv w ⟨t72,g2,rfl,s2,o2,H2⟩;replace H:=Ctx.back (L1:=[_]) (L2:=[]) H H2;refine Ab (Aa (Ap _ U ?_ ?_))
         ·intro h6;refine A4 (Ao (AA (Ao (AA (FA U U ?_)))));exact ⟨rfl,g2,(P.swap s2).sw,(P.swap s2).done (o2 h6),H⟩
         ·intro h6;refine Au (Aa ?_);exact ⟨g2,rfl,trivial,P.swap s2,H⟩
        ·intro h5;refine Au (Aa ?_);exact ⟨g,rfl,trivial,P,H⟩
       ·rintro g j4 w ⟨P,H⟩;have hP1:=P.ha;have hP3:=P.hb;have e1:((a':Int) - 1).toNat=a' - 1:=by omega
        refine Aq (DC 309475565088379329434353664 (α:=Unit) (fun _=>[(87,.bool (decide (0<a'∧¬ g (a' - 1)<g p)))]) (fun _ w'=>Ctx w0 [q] w' [(q,Bl 28 (CB g m))]) U ?_ ?_)
        ·skip
         refine FC 12 Bs (by kernel_rfl) U U ?_;refine Bh U (Qe U U U (CU U (Dw 75 U ?_ ?_)))
         ·intro h5;replace h5:=AJ h5;refine Cz U (Bh U (D8 U U ?_));refine Bf Bx Bp U U ?_;refine BX B5 U (by rintro _ rfl; exact ((Cy (H.drew.get at0)))) ?_;refine Cz U (Bh U (Bf Bx Bp U U ?_));refine BX B5 U (by rintro _ rfl; exact ((Cy (H.drew.get at0)))) ?_;refine BW ?_;replace H:=H.drew;refine Al FU (EX _ _ _) U ?_;rintro v w ⟨rfl,rfl⟩;rw [e1,Int.toNat_natCast];refine BA U (AN U (.bool _) U (Ab (Aa ?_)));exact ⟨(),rfl,⟨congrArg Value.bool (by clear P ih hLB; rw [Bool.eq_iff_iff]; simp_all; try omega),trivial⟩,H⟩
         ·intro h6;replace h6:=AK h6;refine A2 U (A2 U (A2 U (A2 U (A2 U (A2 U (A2 U (A2 U (A2 U (BW ?_)))))))));replace H:=H.drew;refine Ah U (Ah U (AU U (.bool _) U (Ab (Aa ?_))));exact ⟨(),rfl,⟨congrArg Value.bool (by clear P ih hLB; rw [Bool.eq_iff_iff]; simp_all; try omega),trivial⟩,H⟩
        ·rintro - j5 w H;refine Ap _ U ?_ ?_
         ·intro h7;have h7:=of_decide_eq_true h7;refine Af (A3 U (Ae U (Ae U (Ae U (Al Aic (X2 (a:=a') (b:=b') (p:=p) (H.get at0) hn hm ⟨hp1,hp2⟩) U ?_)))));rintro rv w ⟨i,g2,rfl,s2,hi1,hi2,hga,o1,o2,H2⟩;replace H:=Ctx.back (L1:=[_]) (L2:=[]) H H2;refine Ad U (Ab (Aa (Af (Ae U (Ad U (Ab (Aa (Bq (Am (AG (Aa ?_)))))))))));have P2:=P.swap s2;have hout:=s2.out (a' - 1) (.inl (by omega));exact ⟨⟨i,b',lim,t8,t9,g2⟩,rfl,⟨rfl,rfl,rfl,rfl,rfl,trivial⟩,⟨hlim,P2.eq h7.1 (by rw [hga,hout]; omega) hi1 hi2 o1 o2,H⟩,by dsimp only; omega⟩
         ·intro h7;refine Au (Aa (Af (A3 U (Ae U (Ae U (Ae U (Al Aid (Se (a:=a') (b:=b') (p:=p) (H.get at0) hn hm ⟨hp1,hp2⟩) U ?_)))))));rintro rv w ⟨mid,t,g2,rfl,s2,hm1,hm2,PP,H2⟩;replace H:=Ctx.back (L1:=[_]) (L2:=[]) H H2;refine BM U (A6 U U (A6 U U (Ad U (Ai U (Ab (Aa ?_))))));have P2:=P.swap s2;refine Af (AE U (Ai U (Ab (Aa (Af (Ae U (Ae U (Br U U ?_))))))));refine Ae U (Ae U (Br U U ?_));refine Ad U (Ad U (Ab (Aa (Af (Ae U (JK U U (show _≤(9223372036854775807:Int) by omega) ?_))))));refine Ad U (Ab (Aa (Af (Ae U (Ae U (Bj U U (Ab (Aa (Ap _ U ?_ ?_)))))))))
          ·intro h8;replace h8:=AJ h8;refine Af (Ae U (Ae U (C4 U U (Ai U (Ab (Aa (Af (A3 U (Ae U (Ae U ?_))))))))));refine Ae U (Al R5 (ih (a:=a') (b:=mid) (lim:=lim) (f:=g2) (by omega) (H.get at0) hm1 (by omega) hlim (fun h0 x hx hxb=>P2.lb h0 x hx (by omega))) U ?_);rintro rv w ⟨rfl,g3,s3,o3,H2⟩;replace H:=Ctx.back (L1:=[_]) (L2:=[]) H H2;refine Ab (Aa (Az (Ae U (Ax U U ?_))));refine Ad U (Ab (A5 (Aa ?_)));have P3:=P2.swap (s3.mono (Nat.le_refl _) (by omega));exact ⟨⟨mid+1,b',lim,_,t,g3⟩,rfl,⟨rfl,rfl,rfl,rfl,rfl,trivial⟩,⟨hlim,P3.right hm1 hm2 (PartU.sw PP s3 (.inl ⟨Nat.le_refl _,Nat.le_refl _⟩)) o3,H⟩,by dsimp only; omega⟩
          ·intro h8;replace h8:=AK h8;refine Af (Ae U (Ae U (C4 U U (Ai U (Ab (Aa (Af (A3 U (Ae U (Ax U U ?_))))))))));rw [show (mid:Int)+1=((mid+1:Nat):Int) by omega];refine Ae U (Ae U (Al R5 (ih (a:=mid+1) (b:=b') (lim:=lim) (f:=g2) (by omega) (H.get at0) (by omega) (by omega) hlim (fun _ x hx hxb=>PP.ge x (by omega) hxb)) U ?_));rintro rv w ⟨rfl,g3,s3,o3,H2⟩;replace H:=Ctx.back (L1:=[_]) (L2:=[]) H H2;refine Ab (Aa (Az (Ae U (Ad U (Ab (A5 (Aa ?_)))))));have P3:=P2.swap (s3.mono (by omega) (Nat.le_refl _));have P4:=P3.left hm1 hm2 (PartU.sw PP s3 (.inr ⟨by omega,Nat.le_refl _⟩)) o3;exact ⟨⟨a',mid,lim,_,t,g3⟩,rfl,⟨rfl,rfl,rfl,rfl,rfl,trivial⟩,⟨hlim,P4,H⟩,by show mid - a'<b' - a'; omega⟩
set_option maxRecDepth 20000 in
theorem Aaa {q n c m:Nat} {w:World} {f:Nat→Int} (hd:w.heap[q]? = some (Bl 28 (CB f m))) (hn:n≤m) (hm:n≤1000000000) :
  Ret Tryz.prog 162 #[.slice (some ⟨q,0,none⟩) n c] w fun v w'=>v = .tuple #[]∧∃ g,(tab g n).Perm (tab f n)∧JE g 0 n∧Ctx w [q] w' [(q,Bl 28 (CB g m))]:=by
 obtain ⟨w0,rfl⟩:∃ w0,w0=w:=⟨_,rfl⟩;refine Aw (fn:=Tryz.f162) Tryz.func162 U [.slice (some ⟨q,0,none⟩) n c] U (by kernel_rfl) ?_;refine Af (A3 U (Bi Bx U (Ad U (Ab (Aa (Az (A3 U (Ae U (Ae U (DM U OM RK ?_))))))))));refine Al UK (Vh n _) U ?_;rintro v w ⟨r,rfl,h1,h2,h3,rfl⟩;refine Al R5 (Ajs hn hm (n+1) (a:=0) (b:=n) (lim:=r) (by omega) hd (Nat.zero_le _) (Nat.le_refl _) (by omega) (fun h=>absurd h (Nat.lt_irrefl _))) U ?_;rintro rv w ⟨rfl,g,s,o,H⟩;refine Ab (CF U U ?_);exact ⟨rfl,g,s.perm (Nat.le_refl _),o,H⟩
theorem Vi (c:Nat) (w:World):Ret Tryz.prog 162 #[.slice none 0 c] w fun v w'=>v = .tuple #[]∧w=w':=by
 have ins:∀ w,Ret Tryz.prog 230 #[.slice none 0 c,.int .i64 0,.int .i64 0] w fun v w'=>v = .tuple #[]∧w=w':=fun w=>by
  refine Aw (fn:=Tryz.f230) Tryz.func230 U [.slice none 0 c,.int .i64 0,.int .i64 0] U (by kernel_rfl) ?_;refine Af (Ae U (Ax U U ?_));refine Ad U (Ab (Aa (A0 (Bt 562949953420480 (α:=Unit) (fun _=>[(6,.int .i64 1)]) (fun _ w'=>w=w') (fun _=>0) () U ?_ ?_ ?_))))
  ·exact ⟨rfl,trivial⟩
  ·rfl
  ·rintro - j0 w rfl;refine Aq (Af (Ae U (Ae U (Bj U U (Ab (Aa (Ap _ U ?_ ?_)))))))
   ·intro h1;replace h1:=AJ h1;omega
   ·intro h1;replace h1:=AK h1;refine Bq (Am (Am (AG (CF U U ?_))));exact ⟨rfl,rfl⟩
 have pdq:∀ (r:Nat) (w:World),Ret Tryz.prog 204 #[.slice none 0 c,.int .i64 0,.int .i64 0,.int .i64 (r:Int)] w fun v w'=>v = .tuple #[]∧w=w':=fun r w=>by
  refine Aw (fn:=Tryz.f204) Tryz.func204 U [.slice none 0 c,.int .i64 0,.int .i64 0,.int .i64 (r:Int)] U (by kernel_rfl) ?_;refine Af (Ai U (Ab (Aa (Af (Ai U (Ab (Aa (A0 (Bt 21778071482940061661655974875633165532942 (α:=Unit) (fun _=>[(1,.int .i64 0),(2,.int .i64 0),(3,.int .i64 (r:Int)),(8,.bool true),(9,.bool true)]) (fun _ w'=>w=w') (fun _=>0) () U ?_ ?_ ?_)))))))))
  ·exact ⟨rfl,rfl,rfl,rfl,rfl,trivial⟩
  ·rfl
  ·rintro - j0 w rfl;refine A0 (Af (Ae U (Ae U (Br U U ?_))));refine Ad U (Ab (Aa (Aq (Af (Ae U (KW U U (Ab (Aa (Ap _ U ?_ ?_)))))))))
   ·intro h1;replace h1:=AJ h1;refine Af (A3 U (Ae U (Ae U (Al YU (ins _) U ?_))));rintro v w ⟨rfl,rfl⟩;refine Ab (Aa (A4 (Ao (AA (Ao (AA (FA U U ?_)))))));exact ⟨rfl,rfl⟩
   ·intro h1;replace h1:=AK h1;omega
 refine Aw (fn:=Tryz.f162) Tryz.func162 U [.slice none 0 c] U (by kernel_rfl) ?_;refine Af (A3 U (Bi Bx U (Ad U (Ab (Aa (Az (A3 U (Ae U (Ae U (DM U OM RK ?_))))))))));refine Al UK (Vh 0 _) U ?_;rintro v w ⟨r,rfl,h1,h2,h3,rfl⟩;refine Al R5 (pdq r _) U ?_;rintro v w ⟨rfl,rfl⟩;refine Ab (CF U U ?_);exact ⟨rfl,rfl⟩
end Go.Proofs.YtdagmpmdcgedcaaGreat
namespace Go.Proofs.YtdagmpmdcgedcaaGreat
open Go.GV
attribute [local irreducible] AB W Wq Wt
def CY (x:Int):Bool:=decide (0≤x) && decide (x≤4503599627370496)
theorem Jz (x:Int) (w:World):Ret Tryz.prog 130 #[.int .i64 x] w fun v w'=>v = .bool (CY x)∧w=w':=by
 obtain ⟨w0,rfl⟩:∃ w0,w0=w:=⟨_,rfl⟩;refine Aw (fn:=Tryz.f130) Tryz.func130 U [.int .i64 x] U (by kernel_rfl) ?_;refine Af (Ai U (Ab (Aa (Af (Ae U (C4 U U (AE U (AY 5 U ?_ ?_))))))))
 ·intro h1;replace h1:=AJ h1;refine Ae U (KW U U (AN U (.bool _) U (Ai U (Ab (Aa (A4 (AD (v:=(.bool _)) U U U ?_)))))));exact ⟨congrArg Value.bool (by unfold CY; rw [Bool.eq_iff_iff]; simp_all; try omega),rfl⟩
 ·intro h2;replace h2:=AK h2;refine Ah U (Ah U (AU U (.bool _) U (Ai U (Ab (Aa (A4 (AD (v:=(.bool _)) U U U ?_)))))));exact ⟨congrArg Value.bool (by unfold CY; rw [Bool.eq_iff_iff]; simp_all; try omega),rfl⟩
set_option maxRecDepth 20000 in
theorem Q5 (a:Option Addr) (n c:Nat) (xs:List Int) (w:World) (R:Rd w a 1 I1 xs) (hn:xs.length=n) (hn2:n≤1000000) :
  Ret Tryz.prog 191 #[.slice a n c] w fun v w'=>v = .bool (xs.all CY)∧w=w':=by
 subst hn;obtain ⟨w0,rfl⟩:∃ w0,w0=w:=⟨_,rfl⟩;refine Aw (fn:=Tryz.f191) Tryz.func191 U [.slice a xs.length c] U (by kernel_rfl) ?_;refine Af (Ai U (Ab (Aa (Aq (Af (A3 U (Bi Bg U (Ae U (Ab (Aa (A0 ?_)))))))))));refine Bt 32660 (α:=Nat) (fun i=>[(7,.int .i64 (i:Int))]) (fun i w'=>i≤xs.length∧w0=w'∧∀ (k:Nat) (x:Int),k<i→xs[k]? = some x→CY x=true) (fun i=>xs.length - i) 0 U ?_ ?_ ?_
 ·exact ⟨rfl,trivial⟩
 ·exact ⟨Nat.zero_le _,rfl,fun k x h=>absurd h (Nat.not_lt_zero _)⟩
 ·rintro i j w ⟨hi,rfl,hb⟩;refine Af (Bj U U (Ab (Aa (Aq (Ap _ U ?_ ?_)))))
  ·intro h1;replace h1:=AJ h1;obtain ⟨x,hx⟩:=A8 (l:=xs) (i:=i);refine Au (Aa (Aq (A0 (Af (AS R Bg B6 U U (by rfl) ?_)))));refine AZ Bw U ((R.fld hx U (j:=0) U)) ?_;refine Ad U (Ab (Aa (Af (Ae U (Al Jn (Jz x _) U ?_)))));rintro v w ⟨rfl,rfl⟩;refine BA U (Ab (Aa (Ap _ U ?_ ?_)))
   ·intro h2;replace h2:=BE h2;refine Af (Ai U (Ab (Aa (A4 (AA (Ao (Ao (AA (Ao (AD (v:=(.bool _)) U U U ?_))))))))));refine ⟨congrArg Value.bool ?_,rfl⟩;exact (Eh hx (show CY x=false by simpa using h2)).symm
   ·intro h2;replace h2:=BF h2;refine Au (A5 (Aa (Az (Ax U U ?_))));refine Ae U (Ab (Aa ?_));refine ⟨i+1,rfl,⟨rfl,trivial⟩,⟨by omega,rfl,fun k y hk hy=>?_⟩,by omega⟩
    rcases Nat.lt_or_ge k i with h7 | h7
    ·exact hb k y h7 hy
    ·obtain rfl:k=i:=by omega
     rw [hx] at hy;cases hy
     simpa using h2
  ·intro h1;replace h1:=AK h1;refine Bq (Am (Am (AG (Aa (Af (Ai U (Ab (Aa (A4 (AD (v:=(.bool _)) U U U ?_))))))))));exact ⟨congrArg Value.bool (Fe fun k x hk hx=>hb k x (by omega) hx).symm,rfl⟩
def Ch (xs:List Int):Int:=xs.foldl (·+·) 0
theorem X3 (xs:List Int):∀ a:Int,xs.foldl (·+·) a=a+Ch xs:=by
 induction xs with
 | nil=>intro a; show a=a+0; omega
 | cons x xs ih =>
  intro a;show xs.foldl (·+·) (a+x)=a+xs.foldl (·+·) (0+x);rw [ih,ih (0+x)]; omega
theorem IU {xs:List Int} {i:Nat} {x:Int} (h:xs[i]? = some x):Ch (xs.take (i+1))=Ch (xs.take i)+x:=by
 rw [List.take_add_one,h];unfold Ch;rw [List.foldl_append]; rfl
theorem BN (x:Int) (xs:List Int):Ch (x::xs)=x+Ch xs:=by
 show xs.foldl (·+·) (0+x)=_;rw [X3]; omega
theorem E7 (xs ys:List Int):Ch (xs++ys)=Ch xs+Ch ys:=by
 induction xs with
 | nil=>show Ch ys=0+_; omega
 | cons x xs ih=>rw [List.cons_append,BN,BN,ih]; omega
theorem X4 {xs ys:List Int} (h:xs.Perm ys):Ch xs=Ch ys:=by
 induction h with
 | nil=>rfl
 | cons x _ ih=>rw [BN,BN,ih]
 | swap x y l=>rw [BN,BN,BN,BN]; omega
 | trans _ _ h1 h2=>exact h1.trans h2
theorem GF {xs:List Int} (h:∀ x∈xs,0≤x):0≤Ch xs:=by
 induction xs with
 | nil=>exact Int.le_refl _
 | cons x xs ih =>
  rw [BN];have:=h x (List.mem_cons_self ..);have:=ih fun y hy=>h y (List.mem_cons_of_mem _ hy);omega
theorem TA (f:Nat→Int) (n:Nat):Ch (tab f n)=B7 f n:=by
 induction n with
 | zero=>rfl
 | succ n ih =>
  unfold tab at ih ⊢;rw [List.range_succ,List.map_append,E7,ih];show _+(0+f n)=B7 f n+f n;omega
def ED (xs:List Int):Int × Int:=if xs.all CY=false then (0,1) else if Ch xs≤4503599627370496 then (Ch xs,0) else (0,13)
theorem CE {x:Int}:CY x=true↔0≤x∧x≤4503599627370496:=by unfold CY; simp
set_option maxRecDepth 20000 in
set_option maxHeartbeats 2000000 in
theorem K9 (a:Option Addr) (n c:Nat) (xs:List Int) (w:World) (R:Rd w a 1 I1 xs) (hn:xs.length=n)  (hn2:n≤1000000:=by omega):
  Ret Tryz.prog 131 #[.slice a n c] w fun v w'=>v = .tuple #[.int .i64 (ED xs).1,.int .i64 (ED xs).2]∧w=w':=by
 subst hn;obtain ⟨w0,rfl⟩:∃ w0,w0=w:=⟨_,rfl⟩;refine Aw (fn:=Tryz.f131) Tryz.func131 U [.slice a xs.length c] U (by kernel_rfl) ?_;refine Af (Ad U (Ad U (Ab (Aa (Aq (Af (A3 U (Al YQ (Q5 a xs.length c xs _ R U hn2) U ?_))))))));rintro v w ⟨rfl,rfl⟩;refine BA U (Ab (Aa (Ap _ U ?_ ?_)))
 ·intro h1;replace h1:=BE h1;refine Af (Ad U (Ad U (Ab (Aa (A4 (Ao (BL (v1:=(.int _ _)) (v2:=(.int _ _)) U U U U ?_)))))));have h1':xs.all CY=false:=by simpa using h1
  exact ⟨by unfold ED; rw [if_pos h1'],rfl⟩
 ·intro h1;replace h1:=BF h1;have h1':xs.all CY=true:=by simpa using h1
  have hall:∀ (k:Nat) (x:Int),xs[k]? = some x→0≤x∧x≤4503599627370496:=fun k x hx=>CE.1 (List.all_eq_true.1 h1' x (List.mem_of_getElem? hx));have hpos:∀ x∈xs,0≤x:=fun x hx=>(CE.1 (List.all_eq_true.1 h1' x hx)).1;refine Au (Aa (Af (Ad U (Ab (Aa (Aq (Af (A3 U (Bi Bg U (Ae U (Ab (Aa ?_))))))))))));refine A0 (Bt 8384604 (α:=Nat) (fun i=>[(4,.int .i64 (Ch (xs.take i))),(12,.int .i64 (i:Int))]) (fun i w'=>i≤xs.length∧w0=w'∧Ch (xs.take i)≤4503599627370496) (fun i=>xs.length - i) 0 U ?_ ?_ ?_)
  ·exact ⟨rfl,rfl,trivial⟩
  ·exact ⟨Nat.zero_le _,rfl,by show (0:Int)≤_; omega⟩
  ·rintro i j w ⟨hi,rfl,hb⟩;have hs0:0≤Ch (xs.take i):=GF fun y hy=>hpos y (List.mem_of_mem_take hy);refine Af (Bj U U (Ab (Aa (Aq (Ap _ U ?_ ?_)))))
   ·intro h2;replace h2:=AJ h2;obtain ⟨x,hx⟩:=A8 (l:=xs) (i:=i);obtain ⟨hx0,hx1⟩:=hall i x hx;have hst:=IU hx;refine Au (Aa (Aq (A0 (Af (AS R Bg B6 U U (by rfl) ?_)))));refine AZ Bw U ((R.fld hx U (j:=0) U)) ?_;refine Ad U (Ab (Aa (Af (Ae U (Ae U (Ax U U ?_))))));rw [← hst];refine Ad U (Ab (Aa (Af (Ae U (Al Jn (Jz (Ch (xs.take (i+1))) _) U ?_)))));rintro v w ⟨rfl,rfl⟩;refine BA U (Ab (Aa (Ap _ U ?_ ?_)))
    ·intro h3;replace h3:=BE h3;refine Af (Ad U (Ad U (Ab (Aa (A4 (AA (Ao (Ao (AA (Ao (BL (v1:=(.int _ _)) (v2:=(.int _ _)) U U U U ?_)))))))))));have h4:CY (Ch (xs.take (i+1)))=false:=by simpa using h3
     have h5:¬ Ch (xs.take (i+1))≤4503599627370496:=fun h=>by
      rw [CE.2 ⟨by omega,h⟩] at h4; cases h4
     have h6:Ch xs=Ch (xs.take (i+1))+Ch (xs.drop (i+1)):=by rw [← E7,List.take_append_drop]
     have h7:=GF (xs:=xs.drop (i+1)) fun y hy=>hpos y (List.mem_of_mem_drop hy);exact ⟨by unfold ED; rw [if_neg (by rw [h1']; decide),if_neg (by omega)],rfl⟩
    ·intro h3;replace h3:=BF h3;refine Au (A5 (Aa (Az (Ax U U ?_))));refine Ae U (Ab (Aa ?_));have h4:CY (Ch (xs.take (i+1)))=true:=by simpa using h3
     exact ⟨i+1,rfl,⟨rfl,rfl,trivial⟩,⟨by omega,rfl,(CE.1 h4).2⟩,by omega⟩
   ·intro h2;replace h2:=AK h2;refine Bq (Am (Am (AG (Aa (Af (Ae U (Ad U (Ad U (Ab (Aa (A4 (BL (v1:=(.int _ _)) (v2:=(.int _ _)) U U U U ?_))))))))))));obtain rfl:i=xs.length:=by omega
    rw [List.take_length] at hb ⊢;exact ⟨by unfold ED; rw [if_neg (by rw [h1']; decide),if_pos hb],rfl⟩
end Go.Proofs.YtdagmpmdcgedcaaGreat
namespace Go.Proofs.YtdagmpmdcgedcaaGreat
open Go.GV
attribute [local irreducible] AB W Wq Wt
section
variable {P:Program} {r:Option Nat} {ops rest:List Oper} {Q:Exit→Env→World→Prop} {e:Env} {w:World} {dst:Option Tmp} {ty:TypeId} {pos:String} {af:Array Edge} {g:Option (Nat × Bool)}
theorem Aee {t t2:TypeId} {x y:Operand} {a b:Int} (hg:AV ⟨dst,.binOp .quo t x y t2,ty,pos,af,g⟩ ops e=true) (hx:ev e x = .int .i64 a) (hy:ev e y = .int .i64 b) (hb:0<b)
  (h:AB P r ops Q rest (put e dst (.int .i64 (a.tdiv b))) w) (h1: -9223372036854775808≤a.tdiv b:=by omega) (h2:a.tdiv b≤9223372036854775807:=by omega):AB P r ops Q (⟨dst,.binOp .quo t x y t2,ty,pos,af,g⟩::rest) e w :=
 B9 hg rfl (Cb hx hy (v := .int .i64 (a.tdiv b)) (by simp [binOp,Op.intDiv,show ¬ b=0 from by omega,CJ (k := .i64) (n:=a.tdiv b) h1 h2])) h
end
theorem tdm (t:Int):∃ q r,t.tdiv 4503599627370496=q∧t.tmod 4503599627370496=r∧t=4503599627370496*q+r ∧ -4503599627370496<r∧r<4503599627370496∧(-9007199254740992<t→t<9007199254740992 → -1≤q∧q≤1):=by
 refine ⟨_,_,rfl,rfl,?_⟩
 rcases Tp t 0 with h | h
 ·obtain ⟨s,rfl⟩:∃ s,t = -s:=⟨-t,by omega⟩;rw [Int.neg_tdiv,Int.neg_tmod,Int.tdiv_eq_ediv_of_nonneg (by omega),Int.tmod_eq_emod_of_nonneg (by omega)];exact ⟨by omega,by omega,by omega,fun h1 h2=>by omega⟩
 ·rw [Int.tdiv_eq_ediv_of_nonneg h,Int.tmod_eq_emod_of_nonneg h];exact ⟨by omega,by omega,by omega,fun h1 h2=>by omega⟩
def Gl (x:Int):Bool:=decide (-4503599627370496≤x) && decide (x≤4503599627370496)
def Ik (xs:List Int):Bool:=xs.all Gl && decide (Ch xs=0)
set_option maxRecDepth 20000 in
set_option maxHeartbeats 2000000 in
theorem Aab (a:Option Addr) (n c:Nat) (xs:List Int) (w:World) (R:Rd w a 1 I1 xs) (hn:xs.length=n) (hn2:n≤1000000) :
  Ret Tryz.prog 254 #[.slice a n c] w fun v w'=>v = .bool (Ik xs)∧w=w':=by
 subst hn;obtain ⟨w0,rfl⟩:∃ w0,w0=w:=⟨_,rfl⟩;refine Aw (fn:=Tryz.f254) Tryz.func254 U [.slice a xs.length c] U (by kernel_rfl) ?_;refine Af (Ai U (Ab (Aa (Af (Ad U (Ad U (Ab (Aa (Aq (Af (A3 U ?_)))))))))));refine Bi Bg U (Ae U (Ab (Aa (A0 (Bt 536870492 (α:=Nat × Int × Int) (fun t=>[(3,.int .i64 t.2.1),(4,.int .i64 t.2.2),(9,.int .i64 (t.1:Int))]) (fun t w'=>t.1≤xs.length∧w0=w'∧Ch (xs.take t.1)=4503599627370496*t.2.1+t.2.2 ∧ -4503599627370496<t.2.2∧t.2.2<4503599627370496 ∧ -(t.1:Int)≤t.2.1∧t.2.1≤t.1∧∀ (k:Nat) (x:Int),k<t.1→xs[k]? = some x→Gl x=true) (fun t=>xs.length - t.1) (0,0,0) U ?_ ?_ ?_)))))
 ·exact ⟨rfl,rfl,rfl,trivial⟩
 ·exact ⟨Nat.zero_le _,rfl,rfl,by dsimp only; omega,by dsimp only; omega,by dsimp only; omega,by dsimp only; omega,fun k x h=>absurd h (Nat.not_lt_zero _)⟩
 ·rintro ⟨i,hh,ll⟩ j w ⟨hi,rfl,hs,hl1,hl2,hh1,hh2,hb⟩; dsimp only at hi hs hl1 hl2 hh1 hh2 hb; dsimp only;refine Af (Bj U U (Ab (Aa (Aq (Ap _ U ?_ ?_)))))
  ·intro h1;replace h1:=AJ h1;obtain ⟨x,hx⟩:=A8 (l:=xs) (i:=i);refine Au (Aa (Aq (A0 (Af (AS R Bg B6 U U (by rfl) ?_)))));refine AZ Bw U ((R.fld hx U (j:=0) U)) ?_;refine Ad U (Ab (Aa (Aq (Af (BU (α:=Unit) 516096 (fun _=>[(18,.bool (!Gl x))]) (fun _ w'=>w'=w0) U ?_ ?_)))))
   ·refine Ae U (Bj U U (AE U (AY 15 U ?_ ?_)))
    ·intro h1;replace h1:=AJ h1;refine Ah U (Ah U (AN U (.bool _) U (Ab ?_)));exact ⟨rfl,(),rfl,⟨congrArg Value.bool (by unfold Gl; rw [Bool.eq_iff_iff]; simp_all; try omega),trivial⟩,rfl⟩
    ·intro h2;replace h2:=AK h2;refine Ae U (Cs U U (AU U (.bool _) U (Ab ?_)));exact ⟨rfl,(),rfl,⟨congrArg Value.bool (by unfold Gl; rw [Bool.eq_iff_iff]; simp_all; try omega),trivial⟩,rfl⟩
   rintro - j18 w hw;subst hw;refine Ap _ U ?_ ?_
   ·intro h2;replace h2:=BE h2;refine Af (Ai U (Ab (Aa (A4 (Ao (AA (Ao (Ao (AA (Ao (AD (v:=(.bool _)) U U U ?_)))))))))));refine ⟨congrArg Value.bool ?_,rfl⟩;unfold Ik;rw [Eh hx (show Gl x=false by simpa using h2)]; rfl
   ·intro h2;replace h2:=BF h2;have h2':Gl x=true:=by simpa using h2
    have h3 : -4503599627370496≤x∧x≤4503599627370496:=by unfold Gl at h2'; simpa using h2'
    have hst:=IU hx;obtain ⟨q,r,hq,hr,he,hr1,hr2,hq2⟩:=tdm (ll+x);have hq3:=hq2 (by omega) (by omega);refine Au (Aa (Af (Ae U (Ae U (Ax U U ?_)))));refine Ad U (Ab (Aa (Af (Ae U (Ae U (Aee U U U (by decide) ?_))))));rw [hq];refine Ax U U ?_;refine Ad U (Ab (Aa (Az (Ae U (Ac4 U U U (by decide) ?_)))));rw [hr];refine Ad U (Ab (A5 (Aa (Az (Ax U U ?_)))));refine Ae U (Ab (Aa ?_));refine ⟨(i+1,hh+q,r),rfl,⟨rfl,rfl,rfl,trivial⟩,⟨by dsimp only; omega,rfl,by dsimp only; omega,hr1,hr2,by dsimp only; omega,by dsimp only; omega,fun k y hk hy=>?_⟩,by dsimp only; omega⟩
    rcases Nat.lt_or_ge k i with h7 | h7
    ·exact hb k y h7 hy
    ·obtain rfl:k=i:=by dsimp only at hk; omega
     rw [hx] at hy;cases hy;exact h2'
  ·intro h1;replace h1:=AK h1;obtain rfl:i=xs.length:=by omega
   rw [List.take_length] at hs;have hall:xs.all Gl=true:=Fe fun k x hk hx=>hb k x hk hx;refine Bq (Am (Am (AG (Aa (Af (Ae U (Cf U U (AE U (AY 31 U ?_ ?_)))))))))
   ·intro h3;replace h3:=AJ h3;refine Ae U (Cf U U (AN U (.bool _) U (Ai U (Ab (Aa (A4 (AD (v:=(.bool _)) U U U ?_)))))));exact ⟨congrArg Value.bool (by unfold Ik; rw [hall,Bool.true_and,Bool.eq_iff_iff]; simp_all; try omega),rfl⟩
   ·intro h4;replace h4:=AK h4;refine Ah U (Ah U (AU U (.bool _) U (Ai U (Ab (Aa (A4 (AD (v:=(.bool _)) U U U ?_)))))));exact ⟨congrArg Value.bool (by unfold Ik; rw [hall,Bool.true_and,Bool.eq_iff_iff]; simp_all; try omega),rfl⟩
def CZ (xs ys:List Int):List Int:=List.zipWith (·+·) xs ys
def D7 (xs ys:List Int):Int :=
 if (decide (xs.length=ys.length) && (xs.all CY && Ik ys))=false then 1 else if (CZ xs ys).all (fun x=>decide (0≤x))=false then 12 else if (CZ xs ys).all CY=false then 13 else 0
theorem Kh {xs ys:List Int} {i:Nat} {x y:Int} (hx:xs[i]? = some x) (hy:ys[i]? = some y):(CZ xs ys)[i]? = some (x+y):=by
 unfold CZ; rw [List.getElem?_zipWith,hx,hy]
theorem Vj {xs ys:List Int} {i:Nat} {x y:Int} (hx:xs[i]? = some x) (hy:ys[i]? = some y):(CZ xs ys).take (i+1)=(CZ xs ys).take i++[x+y]:=by
 rw [List.take_add_one,Kh hx hy]; rfl
set_option maxRecDepth 20000 in
set_option maxHeartbeats 4000000 in
theorem X5 (a b:Option Addr) (n c m d:Nat) (xs ys:List Int) (w:World) (R:Rd w a 1 I1 xs) (hn:xs.length=n) (Ry:Rd w b 1 I1 ys) (hm:ys.length=m) (hm2:m≤1000000)  (hn2:n≤1000000:=by omega):
  Ret Tryz.prog 223 #[.slice a n c,.slice b m d] w fun v w'=>∃ v',v = .tuple #[v',.int .i64 (D7 xs ys)]∧(D7 xs ys≠0→v' = .slice none 0 0)∧(D7 xs ys=0→Fresh w w' 2 1 v' ((CZ xs ys).map Ee))∧Ext [] w w':=by
 subst hn hm;obtain ⟨w0,rfl⟩:∃ w0,w0=w:=⟨_,rfl⟩;have H:=Ctx.start w0 [];refine Aw (fn:=Tryz.f223) Tryz.func223 U [.slice a xs.length c,.slice b ys.length d] U (by kernel_rfl) ?_;refine Af (A1 U (Ad U (Ab (Aa (Aq (Af (BU (α:=Unit) 33553408 (fun _=>[(24,.bool (!(decide (xs.length=ys.length) && (xs.all CY && Ik ys))))]) (fun _ w'=>w'=w0) U ?_ ?_)))))))
 ·refine A3 U (Bi Bg U (A3 U (Bi Bg U (C9 U U (AE U (AY 15 U ?_ ?_))))))
  ·intro h1;replace h1:=CR h1;refine Ah U (Ah U (Ah U (AN U (.bool _) U (AE U (Ah U (Ah U (Ah U (AN U (.bool _) U (Ab ?_)))))))));exact ⟨rfl,(),rfl,⟨congrArg Value.bool (by generalize xs.all CY=A at *; generalize Ik ys=B at *; rw [Bool.eq_iff_iff]; simp_all; try omega),trivial⟩,rfl⟩
  ·intro h2;replace h2:=CS h2;refine A3 U (Al YQ (Q5 a xs.length c xs _ R U hn2) U ?_);rintro v w ⟨rfl,rfl⟩;refine BA U (AU U (.bool _) U (AE U (AY 20 U ?_ ?_)))
   ·intro h3;replace h3:=BE h3;refine Ah U (Ah U (Ah U (AN U (.bool _) U (Ab ?_))));exact ⟨rfl,(),rfl,⟨congrArg Value.bool (by generalize xs.all CY=A at *; generalize Ik ys=B at *; rw [Bool.eq_iff_iff]; simp_all; try omega),trivial⟩,rfl⟩
   ·intro h4;replace h4:=BF h4;refine A3 U (Al Aio (Aab b ys.length d ys _ Ry U hm2) U ?_);rintro v w ⟨rfl,rfl⟩;refine BA U (AU U (.bool _) U (Ab ?_));exact ⟨rfl,(),rfl,⟨congrArg Value.bool (by generalize xs.all CY=A at *; generalize Ik ys=B at *; rw [Bool.eq_iff_iff]; simp_all; try omega),trivial⟩,rfl⟩
 rintro - j24 w hw;subst w;refine Ap _ U ?_ ?_
 ·intro h1;replace h1:=BE h1;refine Af (A1 U (Ad U (Ab (Aa (A4 (Ao (BL (v1:=(.slice _ _ _)) (v2:=(.int _ _)) U U U U ?_)))))));have h1':D7 xs ys=1:=by unfold D7; rw [if_pos (by simpa using h1)]
  exact ⟨_,by rw [h1'],fun _=>rfl,(fun h=>by omega),H.ext⟩
 ·intro h1;replace h1:=BF h1;have h1':(decide (xs.length=ys.length) && (xs.all CY && Ik ys))=true:=by simpa using h1
  have h1c:¬ (decide (xs.length=ys.length) && (xs.all CY && Ik ys))=false:=by rw [h1']; decide
  have hE:=h1';simp only [Bool.and_eq_true,decide_eq_true_eq,List.all_eq_true] at hE;obtain ⟨hle,hma,hev⟩:=hE
  have hsm:∀ y∈ys,-4503599627370496≤y∧y≤4503599627370496:=fun y hy=>by
   unfold Ik at hev;simp only [Bool.and_eq_true,List.all_eq_true] at hev;have:=hev.1 y hy;unfold Gl at this
   simpa using this
  have hlen:(CZ xs ys).length=xs.length:=by unfold CZ; rw [List.length_zipWith]; omega
  refine Au (Aa (Af (A1 U (Ab (Aa (Af (Ad U (Ab (Aa (Aq (Af (A3 U ?_))))))))))));refine Bi Bg U (Ae U (Ab (Aa (A0 (Bt 1125899772625904 (α:=LSt × Int) (fun t=>[(6,.slice t.1.a t.1.i t.1.c),(7,.int .i64 t.2),(27,.int .i64 (t.1.i:Int))]) (fun t w'=>t.1.i≤xs.length∧OS t.1.a t.1.i t.1.c 1 t.1.full (((CZ xs ys).take t.1.i).map Ee)∧Ctx w0 [] w' (ent t.1.a 2 t.1.full)∧(∀ (k:Nat) (x:Int),k<t.1.i→(CZ xs ys)[k]? = some x→0≤x)∧((t.2=0∧∀ (k:Nat) (x:Int),k<t.1.i→(CZ xs ys)[k]? = some x→CY x=true)∨(t.2=13∧(CZ xs ys).all CY=false))) (fun t=>xs.length - t.1.i) (⟨0,none,0,[]⟩,0) U ?_ ?_ ?_)))))
  ·exact ⟨rfl,rfl,rfl,trivial⟩
  ·exact ⟨Nat.zero_le _,OS.nil,H,fun k x h=>absurd h (Nat.not_lt_zero _),.inl ⟨rfl,fun k x h=>absurd h (Nat.not_lt_zero _)⟩⟩
  ·rintro ⟨⟨i,a2,c2,full⟩,ov⟩ j w ⟨hi,O,H,hp,hov⟩; dsimp only at hi O H hp hov; dsimp only;refine Af (Bj U U (Ab (Aa (Aq (Ap _ U ?_ ?_)))))
   ·intro h2;replace h2:=AJ h2;obtain ⟨x,hx⟩:=A8 (l:=xs) (i:=i);obtain ⟨y,hy⟩:=A8 (l:=ys) (i:=i);have hx1:=CE.1 (hma x (List.mem_of_getElem? hx));have hy1:=hsm y (List.mem_of_getElem? hy);have hat:=Kh hx hy;have htk:=Vj hx hy;refine Au (Aa (Aq (A0 (Af (Ae U (AS R Bg B6 U U (by rfl) ?_))))));refine AZ Bw U (((R.ext0 H.ext).fld hx U (j:=0) U)) ?_;refine Ad U (Ad U (Ab (Aa (Af (Ae U (A3 U (Ae U (AS Ry Bg B6 U U (by rfl) ?_))))))));refine AZ Bw U (((Ry.ext0 H.ext).fld hy U (j:=0) U)) ?_;refine Ax U U ?_;refine Ad U (Ab (Aa (Aq (A0 (Af (Ae U (Bj U U (Ai U (Ab (Aa (Ap _ U ?_ ?_)))))))))))
    ·intro h3;replace h3:=AJ h3;refine Af (A1 U (Ad U (Ab (Aa (A4 (AA (Ao (AA (Ao (Ao (AA (Ao (BL (v1:=(.slice _ _ _)) (v2:=(.int _ _)) U U U U ?_)))))))))))))
     have h4:D7 xs ys=12:=by
      unfold D7;rw [if_neg h1c,if_pos (Eh hat (by simpa using h3))]
     exact ⟨_,by rw [h4],fun _=>rfl,(fun h=>by omega),H.ext⟩
    ·intro h3;replace h3:=AK h3
     have hp':∀ (k:Nat) (z:Int),k<i+1→(CZ xs ys)[k]? = some z→0≤z:=fun k z hk hz=>by
      rcases Nat.lt_or_ge k i with h7 | h7
      ·exact hp k z h7 hz
      ·obtain rfl:k=i:=by omega
       rw [hat] at hz; cases hz; omega
     have hO:((CZ xs ys).take (i+1)).map Ee=((CZ xs ys).take i).map Ee++[.int .i64 (x+y)]:=by rw [htk,List.map_append]; rfl
     refine Af (Ae U (Al Jn (Jz (x+y) _) U ?_));rintro v w ⟨rfl,rfl⟩;refine BA U (Ai U (Ab (Aa (Ap _ U ?_ ?_))))
     ·intro h4;replace h4:=BE h4;have h4':CY (x+y)=false:=by simpa using h4
      refine Az (Ad U (Ab (A5 (Aa (Az (A3 U (Ae U (Ct _ (.int _ _) Bg B6 EK U (by decide) (by decide) U U U H ?_))))))));rintro b47 w - H;refine CA (L:=[]) Bg Bg B6 Lg EK U (by decide) U U H O U (by simp [AO]) ?_;rintro a' c' full' w H O;refine A1 U (Ab (A5 (Aa (Az (Ax U U ?_)))));refine Ae U (Ab (Aa ?_));exact ⟨(⟨i+1,a',c',full'⟩,13),rfl,⟨rfl,rfl,rfl,trivial⟩,⟨by dsimp only; omega,by dsimp only; rw [hO]; exact O,H,hp',.inr ⟨rfl,Eh hat h4'⟩⟩,by dsimp only; omega⟩
     ·intro h4;replace h4:=BF h4;have h4':CY (x+y)=true:=by simpa using h4
      refine Au (A5 (Aa (Az (A3 U (Ae U (Ct _ (.int _ _) Bg B6 EK U (by decide) (by decide) U U U H ?_))))));rintro b47 w - H;refine CA (L:=[]) Bg Bg B6 Lg EK U (by decide) U U H O U (by simp [AO]) ?_;rintro a' c' full' w H O;refine A1 U (Ab (A5 (Aa (Az (Ax U U ?_)))));refine Ae U (Ab (Aa ?_));refine ⟨(⟨i+1,a',c',full'⟩,ov),rfl,⟨rfl,rfl,rfl,trivial⟩,⟨by dsimp only; omega,by dsimp only; rw [hO]; exact O,H,hp',?_⟩,by dsimp only; omega⟩
      rcases hov with ⟨h5,h6⟩ | h5
      ·refine .inl ⟨h5,fun k z hk hz=>?_⟩
       rcases Nat.lt_or_ge k i with h7 | h7
       ·exact h6 k z h7 hz
       ·obtain rfl:k=i:=by dsimp only at hk; omega
        rw [hat] at hz; cases hz; exact h4'
      ·exact .inr h5
   ·intro h2;replace h2:=AK h2;obtain rfl:i=xs.length:=by omega
    have hpa:¬ (CZ xs ys).all (fun x=>decide (0≤x))=false:=by
     rw [Fe fun k x hk hx=>decide_eq_true (hp k x (by omega) hx)]; decide
    rw [show (CZ xs ys).take xs.length=CZ xs ys by rw [← hlen,List.take_length]] at O;refine Bq (Am (Am (AG (Aa (Aq (Af (Ae U (C9 U U (Ab (Aa (Ap _ U ?_ ?_)))))))))))
    ·intro h3;replace h3:=CR h3
     rcases hov with ⟨h5,-⟩ | ⟨rfl,h6⟩
     ·exact absurd h5 h3
     ·refine Af (Ae U (A1 U (Ad U (Ab (Aa (A4 (Ao (BL (v1:=(.slice _ _ _)) (v2:=(.int _ _)) U U U U ?_))))))));have h4:D7 xs ys=13:=by unfold D7; rw [if_neg h1c,if_neg hpa,if_pos h6]
      exact ⟨_,by rw [h4],fun _=>rfl,(fun h=>by omega),H.ext⟩
    ·intro h3;replace h3:=CS h3;refine Au (Aa (Af (A3 U (A1 U (Ad U (Ab (Aa (A4 (BL (v1:=(.slice _ _ _)) (v2:=(.int _ _)) U U U U ?_)))))))))
     have h4:D7 xs ys=0:=by
      unfold D7
      rcases hov with ⟨-,h6⟩ | ⟨h5,-⟩
      ·rw [if_neg h1c,if_neg hpa,if_neg (by rw [Fe fun k x hk hx=>h6 k x (by omega) hx]; decide)]
      ·omega
     exact ⟨_,by rw [h4],(fun h=>absurd h4 h),(fun _=>Ctx.fresh (L:=[]) H O),H.ext⟩
end Go.Proofs.YtdagmpmdcgedcaaGreat
namespace Go.Proofs.YtdagmpmdcgedcaaGreat
open Go.GV
attribute [local irreducible] AB W Wq Wt
structure DueK (b2 b:Nat) (o:Obj) (w:World):Prop where
 h2:w.heap[b2]? = some (Bl 163 [.map (some b)])
 hb:w.heap[b]? = some o
def Af7 (m:List (Int × Value)) (vis:List (Int × Value)) (v:List Value) (vis':List (Int × Value)):Prop:=∃ p,vis'=vis++[p]∧v=[.int .u64 p.1]∧p∈m∧vis.length<m.length
set_option maxRecDepth 20000 in
set_option maxHeartbeats 2000000 in
theorem Aac {b2 b:Nat} {o:Obj} {m:List (Int × Value)} (hM:CT .u64 m o):VE Tryz.prog 163 #[ptr b2] [] (fun _ w=>DueK b2 b o w) ([]:List (Int × Value)) (Af7 m) (fun vis=>vis.Perm m) (fun _=>True):=by
 intro l w _ J E hJ0 hJs hEs hK hY;obtain ⟨M0,hJ0⟩:=hJ0;obtain ⟨w0,rfl⟩:∃ w0,w0=w:=⟨_,rfl⟩;have H:=Ctx.start w0 [];refine Aw (fn:=Tryz.f163) Tryz.func163 U [.func (.yield l) #[] #[],.pointer (some ⟨b2,0,none⟩)] U (by kernel_rfl) ?_;have K0:=(hK _ _ _ hJ0).2;refine Af (AZ Fa U ((by rw [Aj K0.h2]; rfl)) ?_);refine Tb U Fx U H K0.hb hM ?_;rintro bi it w hV H;refine Ab (Aa (A0 ?_));have hbi:w0.heap.size≤bi:=(H.own (bi,it) (List.mem_cons_self ..)).elim (fun h=>by cases h) id;have hJ1:=hJs _ _ _ _ [] hJ0 (fun x hx=>by cases hx) H.ext
 have hM0:¬ M0 bi:=fun h=>by
  have:=(hK _ _ _ hJ0).1 bi h; omega
 refine Bt 16328 (α:=List (Int × Value) × Obj) (fun _=>[]) (fun z w'=>VisO .u64 b m z.1 o z.2∧∃ M,J z.1 M w'∧¬ M bi∧w'.heap[bi]? = some z.2) (fun z=>m.length - z.1.length) (([]:List (Int × Value)),it) U ?_ ?_ ?_
 ·exact trivial
 ·exact ⟨hV,M0,hJ1,hM0,H.get at0⟩
 ·rintro ⟨vis,it⟩ j w ⟨hV,M,hJ,hMb,hit⟩; dsimp only at hV hJ hit; dsimp only;have KK:=(hK _ _ _ hJ).2;obtain ⟨w1,rfl⟩:∃ w1,w1=w:=⟨_,rfl⟩;have H:=Ctx.start1 hit;have hT:∀ x∈[bi],¬ M x∧w0.heap.size≤x:=fun x hx=>by rw [List.mem_singleton] at hx; subst hx; exact ⟨hMb,hbi⟩
  refine Af (VG U (fun _=>rfl) U H KK.hb at0 hV ?_);rintro vs more it' w hc H
  skip
  refine Ab (Aa (Aq (Ap _ U ?_ ?_)))
  ·intro h1;obtain ⟨p,hV'⟩:∃ p,VisO .u64 b m (vis++[p]) o it':=hc.elim (fun h=>by rw [h.1] at h1; cases h1) fun h=>h.2;have hJw:=hJs _ _ _ _ [bi] hJ hT H.ext;have KR:=(hK _ _ _ hJw).2;have hle:=hV'.le;rw [List.length_append] at hle;have hst:Af7 m vis [.int .u64 p.1] (vis++[p]):=⟨p,rfl,rfl,hV'.mem p (by simp),by simp at hle; omega⟩;refine Au (Aa (A0 (Af (Tc U U H KR.hb at0 hV' ?_))));refine A6 U U (Ad U (Ab (Aa ?_)));have hY1:=hY vis [.int .u64 p.1] (vis++[p]) M w hst hJw;refine Af (Da U (.func _ _ _) U ?_);refine Ae U (G6 (vs:=[.int .u64 p.1]) U hY1 U ?_);rintro u w hu
   obtain ⟨bb,rfl,hu1,hu0⟩:∃ bb,u = .bool bb∧(bb=true→∃ M,J (vis++[p]) M w∧¬ M bi∧w.heap[bi]? = some it')∧(bb=false→E w):=hu.elim (fun h=>⟨true,h.1,fun _=>let ⟨M',h1,g⟩:=h.2; ⟨M',h1,fun hx=>(g.new _ hx).elim hMb (fun h=>by have:=H.lt at0; omega),g.to (H.get at0) hMb⟩,fun h=>by cases h⟩) (fun h=>⟨false,h.1,(fun h=>by cases h),fun _=>h.2⟩);refine BA U (Ab (Aa (Ap _ U ?_ ?_)))
   ·intro h2;replace h2:=BE h2;refine A4 (AA (Ao (AA (FA U U ?_))));exact .inr (hu0 (by simpa using h2))
   ·intro h2;replace h2:=BF h2;refine Au (A5 (Aa ?_));exact ⟨(vis++[p],it'),rfl,trivial,⟨hV',hu1 (by simpa using h2)⟩,by dsimp only; rw [List.length_append]; simp; simp at hle; omega⟩
  ·intro h1;obtain ⟨hp,rfl⟩:vis.Perm m∧it'=it:=hc.elim (fun h=>h.2) fun h=>by rw [h.1] at h1; cases h1
   refine Bq (Am (Am (AG (CF U U ?_))));exact .inl ⟨vis,M,hp,hJs _ _ _ _ [bi] hJ hT H.ext⟩
end Go.Proofs.YtdagmpmdcgedcaaGreat
namespace Go.Proofs.YtdagmpmdcgedcaaGreat
open Go.GV
attribute [local irreducible] AB W Wq Wt
def GG (x:Int):Value := .int .u64 x
structure FreshU (w w':World) (v:Value) (l:List Int):Prop where
 ex:∃ a n c full,v = .slice a n c∧OS a n c 1 full (l.map GG)∧(∀ x∈full,∃ z,x=GG z)∧∀ x∈ent a 28 full,w'.heap[x.1]? = some x.2∧w.heap.size≤x.1
 ext:Ext [] w w'
def Wl (bk:Nat):Value := .func (.func 163) #[] #[ptr bk]
theorem Aef {b:Nat} (w:World):Ret Tryz.prog 100 #[.map (some b)] w fun v w'=>∃ bk,v=Wl bk∧w'.heap[bk]? = some (Bl 163 [.map (some b)])∧w.heap.size≤bk∧Ext [] w w':=by
 obtain ⟨w0,rfl⟩:∃ w0,w0=w:=⟨_,rfl⟩;have H:=Ctx.start w0 [];refine Aw (fn:=Tryz.f100) Tryz.func100 U [.map (some b)] U (by kernel_rfl) ?_;refine Af (Bv _ (.map _) U U H ?_);rintro b1 w - H;refine CG U .nilFunc U ?_;refine Ab (Aa (Af (BQ [.pointer _] U (CG U (.func _ _ _) U ?_))));refine Ab (Aa (A4 (AD (v:=(.func _ _ _)) U U U ?_)));exact ⟨_,rfl,H.get at0,(H.own _ (List.mem_cons_self ..)).elim (fun h=>by cases h) id,H.ext⟩
def appJ (w0:World) (bk b bb k:Nat) (o:Obj) (vis:List (Int × Value)) (M:Mt) (w:World):Prop :=
 ∃ a c full,(M=fun y=>y∈((bb,Bl 48 [.slice a vis.length c])::ent a 28 full).map (·.1))∧Ctx w0 [] w ((bb,Bl 48 [.slice a vis.length c])::ent a 28 full) ∧
  OS a vis.length c 1 full (vis.map fun p=>GG p.1)∧(∀ x∈full,∃ z,x=GG z)∧DueK bk b o w∧∀ y∈((bb,Bl 48 [.slice a vis.length c])::ent a 28 full).map (·.1),y≠k∧y≠k+1
set_option maxRecDepth 20000 in
set_option maxHeartbeats 2000000 in
theorem X6 {bk b:Nat} {o:Obj} {m:List (Int × Value)} (hM:CT .u64 m o) (hm:m.length≤1000000) (w:World) (K:DueK bk b o w) :
  Ret Tryz.prog 203 #[.slice none 0 0,Wl bk] w fun v w'=>∃ vis:List (Int × Value),vis.Perm m∧FreshU w w' v (vis.map (·.1)):=by
 obtain ⟨w0,rfl⟩:∃ w0,w0=w:=⟨_,rfl⟩;have H:=Ctx.start w0 [];have lk:=Ba K.h2;have lb:=Ba K.hb;refine He (fn:=Tryz.f203) Tryz.func203 U [.slice none 0 0,.func (.func 163) #[] #[.pointer (some ⟨bk,0,none⟩)]] U (by kernel_rfl) ?_;refine Af (Bv _ (.slice _ _ _) U U H ?_);rintro b2 w - H;refine A1 U (Ab (Aa (Aq (Af (Da U (.func _ _ _) U ?_)))));refine Ab (Aa (A0 ?_));obtain ⟨ws,rfl⟩:∃ z,z=w:=⟨_,rfl⟩;have hb2:=(H.own _ (List.mem_cons_self ..)).elim (fun h=>by cases h) id;have l2:=H.lt at0;have hsz:=H.size;dsimp only at hb2;have K2:DueK bk b o ws:=⟨H.ext.to K.h2 (by simp),H.ext.to K.hb (by simp)⟩
 refine Y7 (gf:=163) U Ag6 (Aac (b2:=bk) (b:=b) hM) (by kernel_rfl) (by kernel_rfl) (fun vis v vis' h=>by obtain ⟨p,-,rfl,-⟩:=h; rfl)
  (appJ w0 bk b b2 ws.heap.size o) (fun _=>False) (by simp) (fun _ _=>True.intro)
  (fun w2 hx2 _=>⟨_,none,0,[],rfl,H.call hx2,OS.nil,by simp,⟨hx2.to K2.h2 (by simp),hx2.to K2.hb (by simp)⟩,by simp [ent]; omega⟩)
  (fun vis M w' w'' T hJ hT hx=>?_) (fun _ _ h _=>h) (fun vis M w' hJ=>?_) ?_ ?_ (fun _ h _=>h.elim)
 ·obtain ⟨a,c,full,hMM,HJ,O,Z,KJ,hne⟩:=hJ;refine ⟨a,c,full,hMM,HJ.step hx (fun y hy hy2=>(hT _ hy2).1 (by rw [hMM]; exact List.mem_map_of_mem (f:=(·.1)) hy)) (fun x hx => .inr (by have:=(hT x hx).2; omega)),O,Z,⟨hx.to KJ.h2 (fun h=>by have:=(hT _ h).2; omega),hx.to KJ.hb (fun h=>by have:=(hT _ h).2; omega)⟩,hne⟩
 ·obtain ⟨a,c,full,hMM,HJ,O,Z,KJ,hne⟩:=hJ;refine ⟨fun x hx=>?_,KJ⟩;rw [hMM] at hx;obtain ⟨y,hy,rfl⟩:=List.mem_map.1 hx;exact ⟨Ba (HJ.blk y hy),hne _ hx⟩
 ·rintro vis v vis' M w ⟨p,rfl,rfl,hpm,hvl⟩ ⟨a,c,full,rfl,HJ,O,Z,KJ,hne⟩ hsz2;obtain ⟨w1,rfl⟩:∃ z,z=w:=⟨_,rfl⟩;refine Az (Ad U (Ab ?_));refine ⟨Ext.refl _ _,fun wB hxB=>?_⟩;have HB:=HJ.step hxB (fun y hy h=>(hne _ (List.mem_map_of_mem (f:=(·.1)) hy)).2 (List.mem_singleton.1 h)) (fun z hz => .inr (by rw [List.mem_singleton.1 hz]; omega));have KB:DueK bk b o wB:=⟨hxB.to KJ.h2 (by rw [List.mem_singleton]; omega),hxB.to KJ.hb (by rw [List.mem_singleton]; omega)⟩
  have hown:∀ y∈((b2,Bl 48 [.slice a vis.length c])::ent a 28 full).map (·.1),w0.heap.size≤y:=fun y hy=>by
   obtain ⟨z,hz,rfl⟩:=List.mem_map.1 hy;exact (HJ.own z hz).elim (fun h=>by cases h) id
  have hsB:=hxB.size;obtain ⟨w2,rfl⟩:∃ z,z=wB:=⟨_,rfl⟩;rw [← List.append_nil ((b2,Bl 48 [.slice a vis.length c])::ent a 28 full)] at HB;have H:=Ctx.lend (L1:=(b2,Bl 48 [.slice a vis.length c])::ent a 28 full) (L2:=[]) HB;obtain ⟨SS,hSS⟩:∃ SS,SS=((b2,Bl 48 [.slice a vis.length c])::ent a 28 full).map (·.1):=⟨_,rfl⟩;rw [← hSS] at H;refine A0 (Az (AM JR U H at0 U (Ae U (Ct _ (.int _ _) Bx Bp ON U (by decide) (by decide) U U U H ?_))));rintro b10 w - H;refine Th (L:=[_]) U Bx Bx Bp VJ ON U (by decide) U U H O U (by simp [AO]) ?_;rintro a' c' full' w H O Z2;refine Cp (.slice _ _ _) Af2 U U U H at0 (by (simp; done)) ?_;rintro w H;refine Ab (A5 ?_);have hl:(vis++[p]).length=vis.length+1:=by rw [List.length_append]; rfl
  rw [hSS] at H;have HE:=H.ext;refine ⟨_,⟨a',c',full',rfl,by rw [hl,← List.append_nil (_::ent a' _ full')]; exact Ctx.back HB H,by rw [hl,List.map_append]; exact O,fun x hx=>?_,⟨HE.to KB.h2 fun h=>by have:=hown _ h; omega,HE.to KB.hb fun h=>by have:=hown _ h; omega⟩,fun y hy=>?_⟩,fun y hy=>?_,_,HE,fun y hy => .inl hy⟩
  ·rcases Z2 x hx with h | h | h
   ·exact Z x h
   ·exact ⟨_,List.mem_singleton.1 h⟩
   ·exact ⟨_,List.mem_singleton.1 h⟩
  ·rw [hl] at hy;obtain ⟨z,hz,rfl⟩:=List.mem_map.1 hy
   rcases H.own z hz with h | h
   ·exact hne _ h
   ·omega
  ·rw [hl] at hy;obtain ⟨z,hz,rfl⟩:=List.mem_map.1 hy;exact (H.own z hz).imp id fun h=>by omega
 ·rintro vis M w hp ⟨a,c,full,rfl,HJ,O,Z,KJ,hne⟩ hD;have H:=HJ;refine A5 (Aa (Af (AM JR U H at0 U (A1 U (Ab (Aa (A4 (L9 (v:=(.slice _ _ _)) U U (Hf hD U fun wF hxF=>?_)))))))));have HF:=H.step hxF (fun y hy h=>(hne _ (List.mem_map_of_mem (f:=(·.1)) hy)).1 (List.mem_singleton.1 h)) (fun z hz => .inr (by rw [List.mem_singleton.1 hz]; omega));refine ⟨vis,hp,⟨a,vis.length,c,full,rfl,by rw [List.map_map]; exact O,Z,fun x hx=>⟨HF.blk x (List.mem_cons_of_mem _ hx),(HF.own x (List.mem_cons_of_mem _ hx)).elim (fun h=>by cases h) id⟩⟩,HF.ext⟩
end Go.Proofs.YtdagmpmdcgedcaaGreat
namespace Go.Proofs.YtdagmpmdcgedcaaGreat
open Go.GV
attribute [local irreducible] AB W Wq Wt
theorem Vk {bk b:Nat} {o:Obj} {m:List (Int × Value)} (hM:CT .u64 m o) (hm:m.length≤1000000) (w:World) (K:DueK bk b o w) :
  Ret Tryz.prog 161 #[Wl bk] w fun v w'=>∃ vis:List (Int × Value),vis.Perm m∧FreshU w w' v (vis.map (·.1)):=by
 obtain ⟨w0,rfl⟩:∃ w0,w0=w:=⟨_,rfl⟩;refine Aw (fn:=Tryz.f161) Tryz.func161 U [.func (.func 163) #[] #[.pointer (some ⟨bk,0,none⟩)]] U (by kernel_rfl) ?_;refine Af (A1 U (Ab (Aa (Af (Da U (.func _ _ _) U ?_)))));refine Al Aho (X6 hM hm _ K) U ?_;rintro v w ⟨vis,hp,F⟩;obtain ⟨a,n,c,full,rfl,O,Z,hb⟩:=F.ex;refine A1 U (Ab (Aa (A4 (AD (v:=(.slice _ _ _)) U U U ?_))));exact ⟨vis,hp,F⟩
theorem Aad {x y:Int} (h:GG x=GG y):x=y:=by unfold GG at h; injection h
theorem Wm:∀ (l:List Value),(∀ x∈l,∃ z,x=GG z)→∃ zs:List Int,l=zs.map GG
 | [],_=>⟨[],rfl⟩
 | x::l,h=>by
  obtain ⟨z,rfl⟩:=h x (List.mem_cons_self ..);obtain ⟨zs,rfl⟩:=Wm l fun y hy=>h y (List.mem_cons_of_mem _ hy);exact ⟨z::zs,rfl⟩
theorem Q6:∀ {l m:List Int},l.map GG=m.map GG→l=m
 | [],[],_=>rfl
 | [],_::_,h=>by cases h
 | _::_,[],h=>by cases h
 | x::l,y::m,h=>by
  simp only [List.map_cons,List.cons.injEq] at h;rw [Aad h.1,Q6 h.2]
theorem Pi (f:Nat→Int) (n:Nat):CB f n=(tab f n).map GG:=by unfold tab; rw [List.map_map]; rfl
theorem TB (f:Nat→Int) {n m:Nat} (h:n≤m):(tab f m).take n=tab f n:=by
 unfold tab;rw [← List.map_take,List.take_range,Nat.min_eq_left h]
theorem Ajt {g:Nat→Int} {n:Nat} (h:JE g 0 n):(tab g n).Pairwise (·≤·):=by
 rw [List.pairwise_iff_getElem];intro i j hi hj hij;rw [CV] at hi hj;have h1:=BT (f:=g) hi;have h2:=BT (f:=g) hj;rw [List.getElem?_eq_getElem (by rw [CV]; exact hi)] at h1;rw [List.getElem?_eq_getElem (by rw [CV]; exact hj)] at h2
 injection h1 with h1
 injection h2 with h2
 rw [h1,h2];exact h i j (Nat.zero_le _) hij hj
theorem sortF {a:Option Addr} {n c:Nat} {full:List Value} {l:List Int} (w:World) (O:OS a n c 1 full (l.map GG)) (Z:∀ x∈full,∃ z,x=GG z) (hb:∀ x∈ent a 28 full,w.heap[x.1]? = some x.2) (hn:n≤1000000000) :
  Ret Tryz.prog 162 #[.slice a n c] w fun v w'=>v = .tuple #[]∧∃ (full':List Value) (l':List Int),l'.Perm l∧l'.Pairwise (·≤·)∧OS a n c 1 full' (l'.map GG)∧(∀ x∈full',∃ z,x=GG z)∧(∀ x∈ent a 28 full',w'.heap[x.1]? = some x.2)∧Ext ((ent a 28 full).map (·.1)) w w':=by
 cases a with
 | none =>
  obtain rfl:n=0:=by have:=O.none' rfl; have:=O.le; omega
  have hl:l=[]:=by have:=O.llen; rw [List.length_map] at this; exact List.eq_nil_of_length_eq_zero (by omega)
  subst hl;refine Ret.mono (Vi c w) ?_;rintro v w' ⟨rfl,rfl⟩;exact ⟨rfl,full,[],List.Perm.refl _,.nil,O,Z,hb,Ext.refl _ _⟩
 | some p =>
  have hp:=O.zero p rfl;obtain ⟨q,o,sp⟩:=p;simp only [Addr.mk.injEq,true_and] at hp;obtain ⟨rfl,rfl⟩:=hp;obtain ⟨zs,rfl⟩:=Wm full Z;have hlen:=O.len;rw [List.length_map,Nat.mul_one] at hlen;have hpre:=O.pre;rw [Nat.mul_one,← List.map_take] at hpre;have hpre:=Q6 hpre;have hzs:tab (fun i=>zs.getD i 0) c=zs:=by rw [← hlen]; exact Ajm zs
  have hb0:w.heap[q]? = some (Bl 28 (CB (fun i=>zs.getD i 0) c)):=by
   rw [Pi,hzs];exact hb (q,Bl 28 (zs.map GG)) (List.mem_singleton.2 U)
  refine Ret.mono (Aaa (c:=c) hb0 O.le hn) ?_;rintro v w' ⟨rfl,g,hP,hS,H⟩;have hS0:((ent (some ⟨q,0,none⟩) 28 (zs.map GG)).map (·.1))=[q]:=by simp [ent]
  refine ⟨rfl,CB g c,tab g n,?_,Ajt hS,⟨O.zero,O.none',by simp,O.le,?_⟩,fun x hx=>?_,fun x hx=>?_,by rw [hS0]; exact H.ext⟩
  ·rw [← TB (fun i=>zs.getD i 0) O.le,hzs,hpre] at hP;exact hP
  ·rw [Nat.mul_one,Pi,← List.map_take,TB g O.le]
  ·rw [Pi,List.mem_map] at hx;obtain ⟨z,_,rfl⟩:=hx;exact ⟨z,rfl⟩
  ·simp only [ent,List.mem_singleton] at hx;subst hx;exact H.get at0
theorem X7 {bk b:Nat} {o:Obj} {m:List (Int × Value)} (hM:CT .u64 m o) (w:World) (K:DueK bk b o w)  (hm:m.length≤1000000:=by omega):
  Ret Tryz.prog 99 #[Wl bk] w fun v w'=>∃ l:List Int,l.Perm (m.map (·.1))∧l.Pairwise (·≤·)∧FreshU w w' v l:=by
 obtain ⟨w0,rfl⟩:∃ w0,w0=w:=⟨_,rfl⟩;refine Aw (fn:=Tryz.f99) Tryz.func99 U [.func (.func 163) #[] #[.pointer (some ⟨bk,0,none⟩)]] U (by kernel_rfl) ?_;refine Af (A1 U (Ab (Aa (Af (Da U (.func _ _ _) U ?_)))));refine Al Ag4 (Vk hM hm _ K) U ?_;rintro v w ⟨vis,hp,F⟩;obtain ⟨a,n,c,full,rfl,O,Z,hb⟩:=F.ex;have hx5:=F.ext;have hvn:=O.llen;have hvm:=hp.length_eq;rw [List.length_map,List.length_map] at hvn;refine A1 U (Ab (Aa (Af (A3 U (Al Ag5 (sortF _ O Z (fun x hx=>(hb x hx).1) (by omega)) U ?_)))));rintro v w ⟨rfl,full',l',hP,hS,O',Z',hb',hx7⟩;refine Ab (Aa (Af (A3 U (A1 U (Ab (Aa (A4 (AD (v:=(.slice _ _ _)) U U U ?_))))))));refine ⟨l',hP.trans (hp.map _),hS,⟨_,_,_,_,rfl,O',Z',fun x hx=>⟨hb' x hx,?_⟩⟩,hx5.then hx7 fun x hx=>?_⟩
 ·cases a with
  | none=>simp [ent] at hx
  | some p =>
   simp only [ent,List.mem_singleton] at hx;subst hx;exact (hb (p.block,Bl 28 full) (by simp [ent])).2
 ·obtain ⟨y,hy,rfl⟩:=List.mem_map.1 hx;exact .inr (hb y hy).2
end Go.Proofs.YtdagmpmdcgedcaaGreat
namespace Go.Proofs.YtdagmpmdcgedcaaGreat
open Go.GV
attribute [local irreducible] AB W Wq Wt
structure Du where
 id:Int
 fr:Int
 to:Int
 am:Int
 we:Int
 un:Int
 held:Bool
instance:DecidableEq Du:=fun x y=>if h:x.id=y.id∧x.fr=y.fr∧x.to=y.to∧x.am=y.am∧x.we=y.we∧x.un=y.un∧x.held=y.held then isTrue (by cases x; cases y; simp_all) else isFalse fun e=>h (by subst e; exact ⟨rfl,rfl,rfl,rfl,rfl,rfl,rfl⟩)
abbrev CO (d:Du):List Value:=[.int .u64 d.id,.int .i64 d.fr,.int .i64 d.to,.int .i64 d.am,.int .i64 d.we,.int .i64 d.un,.bool d.held]
abbrev FZ (d:Du):Value := .agg #[.int .u64 d.id,.int .i64 d.fr,.int .i64 d.to,.int .i64 d.am,.int .i64 d.we,.int .i64 d.un,.bool d.held]
theorem CQ (d:Du):∀ v∈CO d,AO v=true:=by simp [CO,AO]
def dm (ds:List Du):List (Int × Value):=ds.map fun d=>(d.id,FZ d)
theorem Aju {ds:List Du} {p:Int × Value} (h:p∈dm ds):∃ d∈ds,p=(d.id,FZ d):=by
 obtain ⟨d,hd,rfl⟩:=List.mem_map.1 h;exact ⟨d,hd,rfl⟩
def amV (p:Int × Value):Int:=match p.2 with
 | .agg vs=>match vs.toList with | [_,_,_,.int _ x,_,_,_]=>x | _=>0
 | _=>0
theorem Ajv (ds:List Du):(dm ds).map amV=ds.map (·.am):=by unfold dm; rw [List.map_map]; rfl
abbrev DU (b:Nat) (nx:Int):List Value:=[.map (some b),.int .u64 nx]
structure VSt where
 vis:List (Int × Value)
 it:Obj
 a:Option Addr
 c:Nat
 full:List Value
set_option maxRecDepth 20000 in
set_option maxHeartbeats 2000000 in
theorem Pj {bd b:Nat} {nx:Int} {o:Obj} {ds:List Du} (w:World) (hd:w.heap[bd]? = some (Bl 165 (DU b nx))) (hb:w.heap[b]? = some o) (hM:CT .u64 (dm ds) o)  (hn:ds.length≤1000000:=by omega):
  Ret Tryz.prog 134 #[ptr bd] w fun v w'=>∃ l:List Int,l.Perm (ds.map (·.am))∧Fresh w w' 2 1 v (l.map Ee):=by
 obtain ⟨w0,rfl⟩:∃ w0,w0=w:=⟨_,rfl⟩;have H:=Ctx.start w0 [];have hdl:(dm ds).length=ds.length:=by unfold dm; rw [List.length_map]
 refine Aw (fn:=Tryz.f134) Tryz.func134 U [.pointer (some ⟨bd,0,none⟩)] U (by kernel_rfl) ?_;refine Af (A1 U (Ab (Aa (Af (A1 U (Ab (Aa (Aq (Af (Ay U (A9 U ?_)))))))))));refine Ag DG U (AZ Fa U ((by rw [Aj hd]; rfl)) ?_);refine Tb U Fx U H hb hM ?_;rintro bi it w hV H;refine Ab (Aa (A0 (Bt 1046568 (α:=VSt) (fun t=>[(3,.slice t.a t.vis.length t.c)]) (fun t w'=>VisO .u64 b (dm ds) t.vis o t.it∧OS t.a t.vis.length t.c 1 t.full ((t.vis.map amV).map Ee)∧Ctx w0 [] w' ((bi,t.it)::ent t.a 2 t.full)) (fun t=>(dm ds).length - t.vis.length) ⟨[],it,none,0,[]⟩ U ?_ ?_ ?_)))
 ·exact ⟨rfl,trivial⟩
 ·exact ⟨hV,OS.nil,H⟩
 ·rintro ⟨vis,it,a,c,full⟩ j w ⟨hV,O,H⟩; dsimp only at hV O H; dsimp only;refine Af (VG U (fun _=>rfl) U H (H.ext.to hb (by simp)) at0 hV ?_);rintro vs more it' w hc H1;clear H;have H:Ctx w0 [] w ((bi,it')::ent a 2 full):=H1;clear H1
  skip
  refine Ab (Aa (Aq (Ap _ U ?_ ?_)))
  ·intro h1;obtain ⟨p,hV'⟩:∃ p,VisO .u64 b (dm ds) (vis++[p]) o it':=hc.elim (fun h=>by rw [h.1] at h1; cases h1) fun h=>h.2;obtain ⟨d,hd2,rfl⟩:=Aju (hV'.mem p (by simp));have hle:=hV'.le;rw [hdl] at hle;have hl1:(vis++[(d.id,FZ d)]).length=vis.length+1:=by rw [List.length_append]; rfl
   rw [hl1] at hle;refine Au (Aa (A0 (Af (Xe U U H (H.ext.to hb (by simp)) at0 hV' ?_))));refine A6 U U (AX Eu H ?_);rintro b5 w - H;refine Bm Ci U U U (by exact CQ _) H at0 U ?_;rintro w H;refine Ab (Aa (Az (A3 U (Ag Eo U (AM Bw U H at0 U (Ct _ (.int _ _) Bg B6 EK U (by decide) (by decide) U U U H ?_))))));rintro b18 w - H;refine CA (L:=[_,_]) Bg Bg B6 Lg EK U (by decide) U U H O U (by simp [AO]) ?_;rintro a' c' full' w H O;refine A1 U (Ab (A5 (Aa ?_)));exact ⟨⟨vis++[(d.id,FZ d)],it',a',c',full'⟩,rfl,⟨by dsimp only; rw [hl1]; rfl,trivial⟩,⟨hV',by dsimp only; rw [hl1,List.map_append,List.map_append]; exact O,H.tail⟩,by dsimp only; rw [hl1,hdl]; omega⟩
  ·intro h1;obtain ⟨hp,rfl⟩:vis.Perm (dm ds)∧it'=it:=hc.elim (fun h=>h.2) fun h=>by rw [h.1] at h1; cases h1
   refine Bq (Am (Am (AG (Aa (Af (A3 U (A1 U (Ab (Aa (A4 (AD (v:=(.slice _ _ _)) U U U ?_)))))))))));refine ⟨vis.map amV,?_,Ctx.fresh (L:=[_]) H O⟩;rw [← Ajv];exact hp.map _
end Go.Proofs.YtdagmpmdcgedcaaGreat
namespace Go.Proofs.YtdagmpmdcgedcaaGreat
open Go.GV
attribute [local irreducible] AB W Wq Wt
def d00:Du:=⟨0,0,0,0,0,0,false⟩
def JB (ds:List Du) (k:Int):Du:=(ds.find? fun d=>d.id == k).getD d00
theorem MK {d:Du}:∀ {ds:List Du},(ds.map (·.id)).Nodup→d∈ds→JB ds d.id=d
 | x::ds,hn,h=>by
  simp only [List.map_cons,List.nodup_cons] at hn;unfold JB
  by_cases e:x.id=d.id
  ·rcases List.mem_cons.1 h with rfl | h
   ·simp
   ·exact absurd (List.mem_map_of_mem (f:=(·.id)) h) (by rw [← e]; exact hn.1)
  ·rcases List.mem_cons.1 h with rfl | h
   ·exact absurd U e
   ·have:=MK hn.2 h;unfold JB at this;rw [List.find?_cons,show (x.id == d.id)=false by simpa using e];exact this
theorem Aae {ds:List Du} (hn:(ds.map (·.id)).Nodup):(ds.map (·.id)).map (JB ds)=ds:=by
 rw [List.map_map];have:ds.map (JB ds ∘ (·.id))=ds.map id:=List.map_congr_left fun d hd=>MK hn hd;rw [this,List.map_id]
theorem Wn {d:Du}:∀ {ds:List Du},(ds.map (·.id)).Nodup→d∈ds→Ej (dm ds) d.id=some (FZ d)
 | x::ds,hn,h=>by
  simp only [List.map_cons,List.nodup_cons] at hn;unfold dm Ej;rw [List.map_cons,List.find?_cons]
  by_cases e:x.id=d.id
  ·rcases List.mem_cons.1 h with rfl | h
   ·simp
   ·exact absurd (List.mem_map_of_mem (f:=(·.id)) h) (by rw [← e]; exact hn.1)
  ·rcases List.mem_cons.1 h with rfl | h
   ·exact absurd U e
   ·have:=Wn hn.2 h;unfold dm Ej at this;rw [show (x.id == d.id)=false by simpa using e];exact this
def Aaf (ds' ds:List Du):Prop:=ds'.Perm ds∧(ds'.map (·.id)).Pairwise (·<·)
theorem X8 {ds:List Du} {l:List Int} (hn:(ds.map (·.id)).Nodup) (hp:l.Perm ((dm ds).map (·.1))) (hs:l.Pairwise (·≤·)):Aaf (l.map (JB ds)) ds∧(l.map (JB ds)).map (·.id)=l:=by
 have h1:(dm ds).map (·.1)=ds.map (·.id):=by unfold dm; rw [List.map_map]; rfl
 rw [h1] at hp
 have h2:(l.map (JB ds)).map (·.id)=l:=by
  rw [List.map_map]
  have:l.map ((·.id) ∘ JB ds)=l.map id:=List.map_congr_left fun k hk=>by
   obtain ⟨d,hd,rfl⟩:=List.mem_map.1 (hp.mem_iff.1 hk);show (JB ds d.id).id=d.id;rw [MK hn hd]
  rw [this,List.map_id]
 refine ⟨⟨?_,?_⟩,h2⟩
 ·have:=hp.map (JB ds)
  rwa [Aae hn] at this
 ·rw [h2];have hnd:=hp.nodup_iff.2 hn;exact (hs.and (List.nodup_iff_pairwise_ne.1 hnd)).imp fun h=>by omega
theorem X9 {ds:List Du} {i:Nat} {d:Du} (h:ds[i]? = some d):(ds.take (i+1)).flatMap CO=(ds.take i).flatMap CO++CO d:=by
 rw [List.take_add_one,h,List.flatMap_append];simp
set_option maxRecDepth 20000 in
set_option maxHeartbeats 2000000 in
theorem LV {bd b:Nat} {nx:Int} {o:Obj} {ds:List Du} (w:World) (hd:w.heap[bd]? = some (Bl 165 (DU b nx))) (hb:w.heap[b]? = some o) (hM:CT .u64 (dm ds) o) (hnd:(ds.map (·.id)).Nodup)  (hn:ds.length≤1000000:=by omega):
  Ret Tryz.prog 50 #[ptr bd] w fun v w'=>∃ ds':List Du,Aaf ds' ds∧Fresh w w' 67 7 v (ds'.flatMap CO):=by
 obtain ⟨w0,rfl⟩:∃ w0,w0=w:=⟨_,rfl⟩;have H:=Ctx.start w0 [];have hdl:(dm ds).length=ds.length:=by unfold dm; rw [List.length_map]
 refine Aw (fn:=Tryz.f50) Tryz.func50 U [.pointer (some ⟨bd,0,none⟩)] U (by kernel_rfl) ?_;refine Af (A1 U (Ab (Aa (Aq (Af (Ay U (Co Ix U ?_)))))));refine Ab (Aa (Ap _ U ?_ ?_))
 ·intro h0;cases h0
 ·intro h0;refine Au (Aa (Af (A1 U (Ab (Aa (Aq (Af (Ay U (A9 U (Ag DG U (AZ Fa U ((by rw [Aj hd]; rfl)) ?_)))))))))));refine Al Agr (Aef (b:=b) _) U ?_;rintro v w ⟨bk,rfl,hbk,-,hx12⟩;replace H:=H.call hx12;refine Al ca_99 (X7 hM _ ⟨hbk,H.ext.to hb (by simp)⟩) U ?_;rintro v w ⟨l,hlp,hls,F⟩;obtain ⟨ak,nk,ck,fk,rfl,OK,ZK,hbl⟩:=F.ex;replace H:=H.call F.ext;refine Bi Bx U (Ae U (Ab (Aa (A0 ?_))));obtain ⟨w1,rfl⟩:∃ z,z=w:=⟨_,rfl⟩;have H0:=H.ext;replace H:=Ctx.start w1 [];have R:Rd w1 ak 1 (fun x=>[GG x]) l:=OK.rd1 fun x hx=>(hbl x hx).1;have hd1:=H0.to hd (by simp);have hb1:=H0.to hb (by simp);obtain ⟨hSD,hid⟩:=X8 hnd hlp hls;obtain ⟨ds',hds'⟩:∃ ds',ds'=l.map (JB ds):=⟨_,rfl⟩;rw [← hds'] at hSD hid;have hlen:ds'.length=l.length:=by rw [hds',List.length_map]
  have hll:l.length=nk:=by have:=OK.llen; rw [List.length_map] at this; omega
  have hle:l.length=ds.length:=by have:=hlp.length_eq; rw [List.length_map] at this; omega
  subst hll;refine Bt 536838184 (α:=LSt) (fun t=>[(3,.slice t.a t.i t.c),(15,.int .i64 (t.i:Int))]) (fun t w'=>t.i≤l.length∧OS t.a t.i t.c 7 t.full ((ds'.take t.i).flatMap CO)∧Ctx w1 [] w' (ent t.a 67 t.full)) (fun t=>l.length - t.i) ⟨0,none,0,[]⟩ U ?_ ?_ ?_
  ·exact ⟨rfl,rfl,trivial⟩
  ·exact ⟨Nat.zero_le _,OS.nil,H⟩
  ·rintro ⟨i,a,c,full⟩ j w ⟨hi,O,H⟩; dsimp only at hi O H; dsimp only;refine Af (Bj U U (Ab (Aa (Aq (Ap _ U ?_ ?_)))))
   ·intro h1;replace h1:=AJ h1;obtain ⟨k,hk⟩:=A8 (l:=l) (i:=i);obtain ⟨d,hdi⟩:=A8 (l:=ds') (i:=i)
    have hkd:k=d.id:=by
     have h7:(ds'.map (·.id))[i]? = some d.id:=by rw [List.getElem?_map,hdi]; rfl
     rw [hid,hk] at h7;injection h7
    subst hkd;have hmg:=Wn hnd (hSD.1.mem_iff.1 (List.mem_of_getElem? hdi));refine Au (Aa (Aq (A0 (Af (AS R Bx Bp U U (by rfl) ?_)))));refine AZ B5 U (((R.ext0 H.ext).fld hk U (j:=0) U)) ?_;refine Ad U (Ab (Aa (Az (A3 U (Ay U (A9 U (Ag DG U (AZ Fa U ((H.old0 (by rw [Aj hd1]; rfl))) ?_))))))));refine Ae U (U6 U Fx EV OQ U U (H.ext.to hb1 (by simp)) hM ?_);rw [hmg];rw [Option.getD_some];refine Ct _ (.agg _) CK Ci Eu U (by decide) (by decide) U U U H ?_;rintro b26 w - H;refine CA (L:=[]) CK CK Ci YF Eu U (by decide) U U H O U (by simp [AO]) ?_;rintro a' c' full' w H O;refine A1 U (Ab (A5 (Aa (Az (Ax U U ?_)))));refine Ae U (Ab (Aa ?_));exact ⟨⟨i+1,a',c',full'⟩,rfl,⟨rfl,rfl,trivial⟩,⟨by dsimp only; omega,by dsimp only; rw [X9 hdi]; exact O,H⟩,by dsimp only; omega⟩
   ·intro h1;replace h1:=AK h1;refine Bq (Am (Am (AG (Aa (Af (A3 U (A1 U (Ab (Aa (A4 (AD (v:=(.slice _ _ _)) U U U ?_)))))))))));obtain rfl:i=l.length:=by omega
    have FF:=Ctx.fresh (L:=[]) H O;rw [show ds'.take l.length=ds' by rw [← hlen,List.take_length]] at FF;obtain ⟨⟨a2,n2,c2,f2,e1,e2,e3⟩,e4⟩:=FF;exact ⟨ds',hSD,⟨a2,n2,c2,f2,e1,e2,fun x hx=>⟨(e3 x hx).1,Nat.le_trans H0.size (e3 x hx).2⟩⟩,H0.trans e4⟩
end Go.Proofs.YtdagmpmdcgedcaaGreat
namespace Go.Proofs.YtdagmpmdcgedcaaGreat
open Go.GV
attribute [local irreducible] AB W Wq Wt
def Q7 (x:Int):Bool:=decide (0≤x) && decide (x<16)
theorem TC (x:Int) (w:World):Ret Tryz.prog 192 #[.int .i64 x] w fun v w'=>v = .bool (Q7 x)∧w=w':=by
 obtain ⟨w0,rfl⟩:∃ w0,w0=w:=⟨_,rfl⟩;refine Aw (fn:=Tryz.f192) Tryz.func192 U [.int .i64 x] U (by kernel_rfl) ?_;refine Af (Ai U (Ab (Aa (Af (Ae U (C4 U U (AE U (AY 5 U ?_ ?_))))))))
 ·intro h1;replace h1:=AJ h1;refine Ae U (Bj U U (AN U (.bool _) U (Ai U (Ab (Aa (A4 (AD (v:=(.bool _)) U U U ?_)))))));exact ⟨congrArg Value.bool (by unfold Q7; rw [Bool.eq_iff_iff]; simp_all; try omega),rfl⟩
 ·intro h2;replace h2:=AK h2;refine Ah U (Ah U (AU U (.bool _) U (Ai U (Ab (Aa (A4 (AD (v:=(.bool _)) U U U ?_)))))));exact ⟨congrArg Value.bool (by unfold Q7; rw [Bool.eq_iff_iff]; simp_all; try omega),rfl⟩
def DY (d:Du):Bool:=(Q7 d.fr && (Q7 d.to && !decide (d.fr=d.to))) && (decide (1≤d.am) && (CY d.am && (decide (1≤d.we) && (decide (d.we≤1000) && decide (0≤d.un)))))
set_option maxRecDepth 20000 in
set_option maxHeartbeats 2000000 in
theorem Wo (d:Du) (w:World):Ret Tryz.prog 133 #[FZ d] w fun v w'=>v = .bool (DY d)∧Ext [] w w':=by
 obtain ⟨w0,rfl⟩:∃ w0,w0=w:=⟨_,rfl⟩;have H:=Ctx.start w0 [];refine Aw (fn:=Tryz.f133) Tryz.func133 U [FZ d] U (by kernel_rfl) ?_;refine Af (Bv (CO d) (.agg _) U U H ?_);rintro b1 w - H;refine Ai U (Ab (Aa (Aq (A0 (Aq (Af (Ag Gz U (AM Ca U H at0 U (Al YR (TC d.fr _) U ?_)))))))));rintro v w ⟨rfl,rfl⟩;refine BA U (Ai U (Ab (Aa (CX 3 U ?_ ?_))))
 ·intro h1;replace h1:=BE h1;refine Au (Aa (Dz U (Af (Ai U (Ab (Aa (A4 (AA (Ao (AD (v:=(.bool _)) U U U ?_))))))))));exact ⟨congrArg Value.bool (by unfold DY; rw [Bool.eq_iff_iff]; simp_all; try omega),H.ext⟩
 ·intro h2;replace h2:=BF h2;refine Af (Ag Ih U (AM Ca U H at0 U (Al YR (TC d.to _) U ?_)));rintro v w ⟨rfl,rfl⟩;refine BA U (Ai U (Ab (Aa (CX 3 U ?_ ?_))))
  ·intro h3;replace h3:=BE h3;refine Au (Aa (Dz U (Af (Ai U (Ab (Aa (A4 (AA (Ao (AD (v:=(.bool _)) U U U ?_))))))))));exact ⟨congrArg Value.bool (by unfold DY; rw [Bool.eq_iff_iff]; simp_all; try omega),H.ext⟩
  ·intro h4;replace h4:=BF h4;refine Az (Ag Gz U (AM Ca U H at0 U (Ag Ih U (AM Ca U H at0 U (Cf U U (Ai U (Ab (Aa (CX 3 U ?_ ?_)))))))))
   ·intro h5;replace h5:=AJ h5;refine Af (Ai U (Ab (Aa (A4 (AA (Ao (AD (v:=(.bool _)) U U U ?_)))))));exact ⟨congrArg Value.bool (by unfold DY; rw [Bool.eq_iff_iff]; simp_all; try omega),H.ext⟩
   ·intro h6;replace h6:=AK h6;refine Aq (Af (Ag Eo U (AM Bw U H at0 U (Bj U U (Ai U (Ab (Aa (CX 17 U ?_ ?_))))))))
    ·intro h7;replace h7:=AJ h7;refine Au (Aa (Dz U (Af (Ai U (Ab (Aa (A4 (AA (Ao (AD (v:=(.bool _)) U U U ?_))))))))));exact ⟨congrArg Value.bool (by unfold DY; rw [Bool.eq_iff_iff]; simp_all; try omega),H.ext⟩
    ·intro h8;replace h8:=AK h8;refine Af (Ag Eo U (AM Bw U H at0 U (Al Jn (Jz d.am _) U ?_)));rintro v w ⟨rfl,rfl⟩;refine BA U (Ai U (Ab (Aa (CX 17 U ?_ ?_))))
     ·intro h9;replace h9:=BE h9;refine Au (Aa (Dz U (Af (Ai U (Ab (Aa (A4 (AA (Ao (AD (v:=(.bool _)) U U U ?_))))))))));exact ⟨congrArg Value.bool (by unfold DY; rw [Bool.eq_iff_iff]; simp_all; try omega),H.ext⟩
     ·intro h10;replace h10:=BF h10;refine Af (Ag LM U (AM Bw U H at0 U (Bj U U (Ai U (Ab (Aa (CX 17 U ?_ ?_)))))))
      ·intro h11;replace h11:=AJ h11;refine Au (Aa (Dz U (Af (Ai U (Ab (Aa (A4 (AA (Ao (AD (v:=(.bool _)) U U U ?_))))))))));exact ⟨congrArg Value.bool (by unfold DY; rw [Bool.eq_iff_iff]; simp_all; try omega),H.ext⟩
      ·intro h12;replace h12:=AK h12;refine Af (Ag LM U (AM Bw U H at0 U (Cs U U (Ai U (Ab (Aa (CX 17 U ?_ ?_)))))))
       ·intro h13;replace h13:=AJ h13;refine Au (Aa (Dz U (Af (Ai U (Ab (Aa (A4 (AA (Ao (AD (v:=(.bool _)) U U U ?_))))))))));exact ⟨congrArg Value.bool (by unfold DY; rw [Bool.eq_iff_iff]; simp_all; try omega),H.ext⟩
       ·intro h14;replace h14:=AK h14;refine Az (Ag RG U (AM Bw U H at0 U (Bj U U (Ai U (Ab (Aa (CX 17 U ?_ ?_)))))))
        ·intro h15;replace h15:=AJ h15;refine Af (Ai U (Ab (Aa (A4 (AA (Ao (AD (v:=(.bool _)) U U U ?_)))))));exact ⟨congrArg Value.bool (by unfold DY; rw [Bool.eq_iff_iff]; simp_all; try omega),H.ext⟩
        ·intro h16;replace h16:=AK h16;refine Au (A5 (Aa (Af (Ai U (Ab (Aa (A4 (AD (v:=(.bool _)) U U U ?_))))))));exact ⟨congrArg Value.bool (by unfold DY; rw [Bool.eq_iff_iff]; simp_all; try omega),H.ext⟩
end Go.Proofs.YtdagmpmdcgedcaaGreat
namespace Go.Proofs.YtdagmpmdcgedcaaGreat
open Go.GV
attribute [local irreducible] AB W Wq Wt
def F7 (nx:Int):Int→List Du→Bool
 | _,[]=>true
 | ah,d::ds=>(DY d && (decide (ah<d.id) && decide (d.id<nx))) && F7 nx d.id ds
def Ki (ah:Int):List Du→Int
 | []=>ah
 | d::ds=>Ki d.id ds
theorem Kj (nx:Int):∀ (ah:Int) (ds es:List Du),F7 nx ah (ds++es)=(F7 nx ah ds && F7 nx (Ki ah ds) es)
 | _,[],_=>rfl
 | ah,d::ds,es=>by simp only [List.cons_append,F7,Ki,Kj nx d.id ds es,Bool.and_assoc]
theorem PJ (ah:Int) (ds:List Du) (d:Du):Ki ah (ds++[d])=d.id:=by
 induction ds generalizing ah with
 | nil=>rfl
 | cons x ds ih=>exact ih x.id
theorem J0 {nx:Int}:∀ {ah:Int} {ds:List Du},F7 nx ah ds=true→(∀ d∈ds,ah<d.id∧d.id≤Ki ah ds∧d.id<nx∧DY d=true)∧(ds.map (·.id)).Pairwise (·<·)∧ah≤Ki ah ds
 | _,[],_=>⟨fun _ h=>(by cases h),List.Pairwise.nil,Int.le_refl _⟩
 | ah,x::ds,h=>by
  simp only [F7,Bool.and_eq_true,decide_eq_true_eq] at h;obtain ⟨⟨hm,h1,h2⟩,h3⟩:=h;obtain ⟨i1,i2,i3⟩:=J0 h3;refine ⟨fun d hd=>?_,?_,?_⟩
  ·rcases List.mem_cons.1 hd with rfl | hd
   ·exact ⟨h1,i3,h2,hm⟩
   ·obtain ⟨a,b,c,e⟩:=i1 d hd;exact ⟨by omega,b,c,e⟩
  ·rw [List.map_cons,List.pairwise_cons];refine ⟨fun k hk=>?_,i2⟩;obtain ⟨d,hd,rfl⟩:=List.mem_map.1 hk;exact (i1 d hd).1
  ·show ah≤Ki x.id ds;omega
def ofC (ds:List Du) (nx:Int):Int :=
 if 64<ds.length then 6 else if (decide (1≤nx) && decide (nx≤4611686018427387904))=false then 1 else if F7 nx 0 ds=false then 1 else (ED (ds.map (·.am))).2
theorem Q8 {xs ys:List Int} (h:xs.Perm ys):ED xs=ED ys:=by
 have h1:xs.all CY=ys.all CY:=by
  rw [Bool.eq_iff_iff,List.all_eq_true,List.all_eq_true];exact ⟨fun g x hx=>g x (h.mem_iff.2 hx),fun g x hx=>g x (h.mem_iff.1 hx)⟩
 unfold ED;rw [h1,X4 h]
theorem Q9 {ds:List Du} {k:Int} (h:∀ d∈ds,d.id≠k):Ej (dm ds) k=none:=by
 induction ds with
 | nil=>rfl
 | cons x ds ih =>
  unfold dm Ej at ih ⊢;rw [List.map_cons,List.find?_cons,show (x.id == k)=false by simpa using h x (List.mem_cons_self ..)];exact ih fun d hd=>h d (List.mem_cons_of_mem _ hd)
theorem Aag (ds:List Du) (d:Du):dm ds++[(d.id,FZ d)]=dm (ds++[d]):=by unfold dm; rw [List.map_append]; rfl
theorem Aah {w:World} {b:Nat} {t:TypeId} {l:List Value} (h:w.heap[b]? = some (Bl t l)):∀ j v,l[j]? = some v→w.cell? ⟨b,0+j,none⟩=some v:=fun j v hv=>by rw [Aj h,Nat.zero_add]; exact hv
structure OSt where
 i:Nat
 ah:Int
 o:Obj
set_option maxRecDepth 20000 in
set_option maxHeartbeats 4000000 in
theorem Aai (a:Option Addr) (n c:Nat) (ds:List Du) (nx:Int) (w:World) (R:Rd w a 7 CO ds) (hn:ds.length=n) (hid:∀ d∈ds,0≤d.id∧d.id<18446744073709551616)  (hn2:n≤1000000000:=by omega) (_hnx:0≤nx∧nx<18446744073709551616:=by omega):
  Ret Tryz.prog 79 #[.slice a n c,.int .u64 nx] w fun v w'=>∃ p,v = .tuple #[p,.int .i64 (ofC ds nx)]∧(ofC ds nx≠0→p = .pointer none)∧(ofC ds nx=0→∃ bd b o,p=ptr bd∧w'.heap[bd]? = some (Bl 165 (DU b nx))∧w'.heap[b]? = some o∧CT .u64 (dm ds) o∧w.heap.size≤bd∧w.heap.size≤b∧bd≠b)∧Ext [] w w':=by
 subst hn;obtain ⟨w0,rfl⟩:∃ w0,w0=w:=⟨_,rfl⟩;have H:=Ctx.start w0 [];refine Aw (fn:=Tryz.f79) Tryz.func79 U [.slice a ds.length c,.int .u64 nx] U (by kernel_rfl) ?_;refine Af (B3 U (Ad U (Ab (Aa (Aq (Af (A3 U (Bi CK U (Cs U U (Ab (Aa ?_)))))))))));refine Ap _ U ?_ ?_
 ·intro h1;replace h1:=AJ h1;refine Af (B3 U (Ad U (Ab (Aa (A4 (Ao (BL (v1:=(.pointer _)) (v2:=(.int _ _)) U U U U ?_)))))));have h1':ofC ds nx=6:=by unfold ofC; rw [if_pos (by omega)]
  exact ⟨_,by rw [h1'],fun _=>rfl,(fun h=>by omega),H.ext⟩
 ·intro h1;replace h1:=AK h1;have h1':¬ 64<ds.length:=by omega
  refine Au (Aa (Aq (Af (BU (α:=Unit) 2064384 (fun _=>[(20,.bool (!(decide (1≤nx) && decide (nx≤4611686018427387904))))]) (fun _ w'=>w'=w0) U ?_ ?_))))
  ·refine Ae U (Bj U U (AE U (AY 17 U ?_ ?_)))
   ·intro h1;replace h1:=AJ h1;refine Ah U (Ah U (AN U (.bool _) U (Ab ?_)));exact ⟨rfl,(),rfl,⟨congrArg Value.bool (by rw [Bool.eq_iff_iff]; simp_all; try omega),trivial⟩,rfl⟩
   ·intro h2;replace h2:=AK h2;refine Ae U (Cs U U (AU U (.bool _) U (Ab ?_)));exact ⟨rfl,(),rfl,⟨congrArg Value.bool (by rw [Bool.eq_iff_iff]; simp_all; try omega),trivial⟩,rfl⟩
  rintro - j20 w hw;subst w;refine Ap _ U ?_ ?_
  ·intro h2;replace h2:=BE h2;refine Af (B3 U (Ad U (Ab (Aa (A4 (Ao (BL (v1:=(.pointer _)) (v2:=(.int _ _)) U U U U ?_)))))));have h2':ofC ds nx=1:=by unfold ofC; rw [if_neg h1',if_pos (by simpa using h2)]
   exact ⟨_,by rw [h2'],fun _=>rfl,(fun h=>by omega),H.ext⟩
  ·intro h2;replace h2:=BF h2;have h2':(decide (1≤nx) && decide (nx≤4611686018427387904))=true:=by simpa using h2
   have h2n:¬ (decide (1≤nx) && decide (nx≤4611686018427387904))=false:=by rw [h2']; decide
   refine Au (Aa (Af (Oe .u64 U H ?_)));rintro b o w hM H;refine Ae U (B1 (DU b nx) Zl Zv (by kernel_rfl) ?_);refine Bv (DU b nx) (.agg _) U U H ?_;rintro b24 w - H;refine B3 U (Ab (Aa (Af (Ad U (Ab (Aa (Aq (Af (A3 U (Bi CK U (Ae U ?_)))))))))));refine Ab (Aa (A0 (Bt 288230376017494704 (α:=OSt) (fun t=>[(7,.int .u64 t.ah),(27,.int .i64 (t.i:Int))]) (fun t w'=>t.i≤ds.length∧t.ah=Ki 0 (ds.take t.i)∧F7 nx 0 (ds.take t.i)=true∧CT .u64 (dm (ds.take t.i)) t.o∧Ctx w0 [] w' [(b24,Bl 165 (DU b nx)),(b,t.o)]) (fun t=>ds.length - t.i) ⟨0,0,o⟩ U ?_ ?_ ?_)))
   ·exact ⟨rfl,rfl,trivial⟩
   ·exact ⟨Nat.zero_le _,rfl,rfl,hM,H⟩
   ·rintro ⟨i,ah,o⟩ j w ⟨hi,hah,has,hM,H⟩; dsimp only at hi hah has hM H; dsimp only;refine Af (Bj U U (Ab (Aa (Aq (Ap _ U ?_ ?_)))))
    ·intro h3;replace h3:=AJ h3;obtain ⟨d,hd⟩:=A8 (l:=ds) (i:=i);have hdi:=hid d (List.mem_of_getElem? hd);have htk:ds.take (i+1)=ds.take i++[d]:=by rw [List.take_add_one,hd]; rfl
     have hasc:F7 nx 0 (ds.take (i+1))=(DY d && (decide (ah<d.id) && decide (d.id<nx))):=by
      rw [htk,Kj,has,Bool.true_and,← hah];show (_ && F7 nx d.id [])=_;show (_ && true)=_;rw [Bool.and_true]
     refine Au (Aa (Aq (A0 (Af (AS R CK Ci U U (by rfl) ?_)))));refine Cj _ Ft Ci U U ((R.ext0 H.ext).row hd U) ?_;refine AX Eu H ?_;rintro b9 w - H;refine Bm Ci U U U (by exact CQ _) H at0 U ?_;rintro w H;refine Ab (Aa (Aq (Af (BU (α:=Unit) 70366596694016 (fun _=>[(45,.bool (!(DY d && (decide (ah<d.id) && decide (d.id<nx)))))]) (fun _ w'=>Ctx w0 [] w' [(b9,Bl 67 (CO d)),(b24,Bl 165 (DU b nx)),(b,o)]) U ?_ ?_))))
     ·refine Cl Ft Ci U H at0 U (Al YJ (Wo d _) U ?_);rintro v w ⟨rfl,hx32⟩;replace H:=H.call hx32;refine BA U (AE U (AY 34 U ?_ ?_))
      ·intro h3;replace h3:=BE h3;refine Ah U (Ah U (Ah U (Ah U (AN U (.bool _) U (AE U (Ah U (Ah U (Ah U (Ah U ?_)))))))));refine AN U (.bool _) U (Ab ?_);exact ⟨rfl,(),rfl,⟨congrArg Value.bool (by clear hasc; rw [Bool.eq_iff_iff]; simp_all; try omega),trivial⟩,H⟩
      ·intro h4;replace h4:=BF h4;refine Ag Gy U (AM B5 U H at0 U (Ae U (KW U U (AU U (.bool _) U (AE U (AY 40 U ?_ ?_))))))
       ·intro h5;replace h5:=AJ h5;refine Ah U (Ah U (Ah U (Ah U (AN U (.bool _) U (Ab ?_)))));exact ⟨rfl,(),rfl,⟨congrArg Value.bool (by clear hasc; rw [Bool.eq_iff_iff]; simp_all; try omega),trivial⟩,H⟩
       ·intro h6;replace h6:=AK h6;refine Ag Gy U (AM B5 U H at0 U (Ae U (C4 U U (AU U (.bool _) U (Ab ?_)))));exact ⟨rfl,(),rfl,⟨congrArg Value.bool (by clear hasc; rw [Bool.eq_iff_iff]; simp_all; try omega),trivial⟩,H⟩
     rintro - j45 w H;refine Ap _ U ?_ ?_
     ·intro h4;replace h4:=BE h4;refine Af (B3 U (Ad U (Ab (Aa (A4 (Ao (AA (Ao (Ao (AA (Ao (BL (v1:=(.pointer _)) (v2:=(.int _ _)) U U U U ?_))))))))))))
      have h4':ofC ds nx=1:=by
       unfold ofC;rw [if_neg h1',if_neg h2n,if_pos];have h5:F7 nx 0 ds=F7 nx 0 (ds.take (i+1)++ds.drop (i+1)):=by rw [List.take_append_drop]
       rw [h5,Kj,hasc,show (DY d && (decide (ah<d.id) && decide (d.id<nx)))=false by simpa using h4]; rfl
      exact ⟨_,by rw [h4'],fun _=>rfl,(fun h=>by omega),H.ext⟩
     ·intro h4;replace h4:=BF h4;have h4':(DY d && (decide (ah<d.id) && decide (d.id<nx)))=true:=by simpa using h4
      have hgt:ah<d.id:=by simp only [Bool.and_eq_true,decide_eq_true_eq] at h4'; exact h4'.2.1
      have hno:Ej (dm (ds.take i)) d.id=none:=Q9 fun x hx=>by
       have:=((J0 has).1 x hx).2.1;omega
      refine Au (Aa (ER [([0,1,2,3,4,5,6,7,8],9),([10],11),([],12)] (fun z=>z.heap[b9]? = some (Bl 67 (CO d))∧z.heap[b24]? = some (Bl 165 (DU b nx))) [] Bs (by kernel_rfl) (⟨H.drew.get at0,H.drew.get at1⟩) ?_));refine AF U U ?_;refine BD U (Bd U (An U DG U (B0 Fa U (fun _ hx=>(by rw [Aj hx.2]; rfl)) ?_)));refine An U Gy U (B0 B5 U (fun _ hx=>(by rw [Aj hx.1]; rfl)) ?_);refine G5 _ Ft Ci U U (fun _ hx=>(Aah hx.1)) ?_;refine An U Gy U (B0 B5 U (fun _ hx=>(by rw [Aj hx.1]; rfl)) ?_);refine AP ?_;replace H:=H.drew;refine Td U Fx EV OQ U U H at2 hM hno ?_;rintro st o1 w hE H;refine Ab (BR (⟨H.get at0,H.get at1⟩) (AF U U ?_));refine Bu U U (AP (PF (FZ d) U U U U H at2 hE ?_));rintro o2 w hM2 H;refine Ab (BR (⟨H.get at0,H.get at1⟩) (AF U U ?_));refine AP (Ad U (Ab (BR (⟨H.get at0,H.get at1⟩) (BH (A5 (Aa (Az (Ax U U ?_))))))));refine Ae U (Ab (Aa ?_))
      exact ⟨⟨i+1,d.id,o2⟩,rfl,⟨rfl,rfl,trivial⟩,⟨by dsimp only; omega,by dsimp only; rw [htk,PJ],by dsimp only; rw [hasc]; exact h4',by dsimp only; rw [htk,← Aag]; exact hM2,H.tail⟩,by dsimp only; omega⟩
    ·intro h3;replace h3:=AK h3;obtain rfl:i=ds.length:=by omega
     rw [List.take_length] at hM has
     have hC:ofC ds nx=(ED (ds.map (·.am))).2:=by
      unfold ofC; rw [if_neg h1',if_neg h2n,if_neg (by rw [has]; decide)]
     rw [hC];obtain ⟨tt,htt⟩:∃ tt,tt=ED (ds.map (·.am)):=⟨_,rfl⟩;rw [← htt];refine Bq (Am (Am (AG (Aa (Aq (Af (Ay U (Al YK (Pj _ (H.get at0) (H.get at1) hM) U ?_))))))));rintro v w ⟨l,hlp,F⟩;obtain ⟨a3,n3,c3,f3,rfl,O3,hb3⟩:=F.ex;replace H:=H.call F.ext;have hl3:=O3.llen;rw [List.length_map] at hl3;have hlq:=hlp.length_eq;rw [List.length_map] at hlq;refine Al MA (K9 a3 n3 c3 l _ (O3.rd1 fun x hx=>(hb3 x hx).1) (by omega)) U ?_;rintro v w ⟨rfl,rfl⟩;rw [Q8 hlp];rw [← htt];refine BM U (A6 U U (A6 U U (Ad U (Ad U (Ab (Aa (Af (Ae U (C9 U U (Ab (Aa ?_)))))))))));refine Ap _ U ?_ ?_
     ·intro h5;replace h5:=CR h5;refine Af (Ae U (B3 U (Ad U (Ab (Aa (A4 (Ao (BL (v1:=(.pointer _)) (v2:=(.int _ _)) U U U U ?_))))))));exact ⟨_,rfl,fun _=>rfl,(fun h=>absurd h h5),H.ext⟩
     ·intro h5;replace h5:=CS h5;refine Au (Aa (Af (Ay U (B3 U (Ad U (Ab (Aa (A4 (BL (v1:=(.pointer _)) (v2:=(.int _ _)) U U U U ?_)))))))));have h5':tt.2=0:=by omega
      refine ⟨_,by rw [h5'],(fun h=>absurd h5' h),(fun _=>⟨b24,b,o,rfl,H.get at0,H.get at1,hM,?_,?_,H.ne at0 at1 (by decide)⟩),H.ext⟩
      ·exact (H.own (b24,_) (List.mem_of_getElem? (i:=0) U)).elim (fun h=>by cases h) id
      ·exact (H.own (b,_) (List.mem_of_getElem? (i:=1) U)).elim (fun h=>by cases h) id
end Go.Proofs.YtdagmpmdcgedcaaGreat
namespace Go.Proofs.YtdagmpmdcgedcaaGreat
open Go.GV
attribute [local irreducible] AB W Wq Wt
structure Ac where
 ba:Int
 re:Int
instance:DecidableEq Ac:=fun x y=>if h:x.ba=y.ba∧x.re=y.re then isTrue (by cases x; cases y; simp_all) else isFalse fun e=>h (by subst e; exact ⟨rfl,rfl⟩)
abbrev CM (a:Ac):List Value:=[.int .i64 a.ba,.int .i64 a.re]
theorem HG (a:Ac):∀ v∈CM a,AO v=true:=by simp [CM,AO]
theorem XB (acs:List Ac):∀ v∈acs.flatMap CM,AO v=true:=fun v hv=>by
 obtain ⟨a,_,h⟩:=List.mem_flatMap.1 hv;exact HG a v h
theorem Pk (acs:List Ac):(acs.flatMap CM).length=acs.length*2:=by
 induction acs with
 | nil=>rfl
 | cons a acs ih =>
  rw [List.flatMap_cons,List.length_append,ih];show 2+acs.length*2=(acs.length+1)*2;omega
theorem QA (a:Option Addr) (n c:Nat) (acs:List Ac) (w:World) (R:Rd w a 2 CM acs) (hn:acs.length=n) (hm:n≤1000000000) :
  Ret Tryz.prog 98 #[.slice a n c] w fun v w'=>Fresh w w' 43 2 v (acs.flatMap CM):=by
 subst hn;obtain ⟨w0,rfl⟩:∃ w0,w0=w:=⟨_,rfl⟩;have H:=Ctx.start w0 [];refine Aw (fn:=Tryz.f98) Tryz.func98 U [.slice a acs.length c] U (by kernel_rfl) ?_;refine Af (A1 U (Ab (Aa (Aq (Af (A3 U (IB U Dg U (Ab (Aa (Ap _ U ?_ ?_))))))))))
 ·intro h1;have ha:a=none:=by simpa using h1
  subst ha
  have hxs:acs=[]:=by
   cases acs with
   | nil=>rfl
   | cons x xs=>obtain ⟨b,o,h⟩:=R.some' (by simp); cases h
  subst hxs;refine Af (A1 U (Ab (Aa (A4 (Ao (AD (v:=(.slice _ _ _)) U U U ?_))))));exact Fresh.nil H _ _
 ·intro h1;refine Au (Aa (Af (Hd U Dg Dx H ?_)));rintro b5 w H O;refine A3 U (Hb U Dg Dg Dx Afp II U (by decide) (acs.flatMap CM) U U H O (Pk acs) (XB acs) ((R.ext0 H.ext).app (fun _ _=>rfl) (by omega)) ?_);rintro a7 c7 full7 w H O;refine A1 U (Ab (Aa (A4 (AD (v:=(.slice _ _ _)) U U U ?_))));exact H.fresh O
set_option maxRecDepth 20000 in
theorem Pm {bd:Nat} (a:Option Addr) (n c:Nat) (acs:List Ac) (w:World) (hd:w.heap[bd]? = some (Bl 162 [.slice a n c])) (R:Rd w a 2 CM acs) (hn:acs.length=n)  (hm:n≤1000000000:=by omega):
  Ret Tryz.prog 49 #[ptr bd] w fun v w'=>Fresh w w' 43 2 v (acs.flatMap CM):=by
 obtain ⟨w0,rfl⟩:∃ w0,w0=w:=⟨_,rfl⟩;have H:=Ctx.start w0 [];refine Aw (fn:=Tryz.f49) Tryz.func49 U [.pointer (some ⟨bd,0,none⟩)] U (by kernel_rfl) ?_;refine Af (A1 U (Ab (Aa (Aq (Af (Ay U (Co Nh U ?_)))))));refine Ab (Aa (Ap _ U ?_ ?_))
 ·intro h0;cases h0
 ·intro h0;refine Au (Aa (Af (Ay U (A9 U (Ag Ez U (AZ Ek U ((by rw [Aj hd]; rfl)) ?_))))));refine Al Afw (QA a n c acs _ R hn hm) U ?_;rintro v w F;obtain ⟨a9,n9,c9,full9,rfl,O9,hb9⟩:=F.ex;refine A1 U (Ab (Aa (A4 (AD (v:=(.slice _ _ _)) U U U ?_))));exact F
theorem Kk {α β:Type} {f:α→β} {l:List α} {i:Nat} {x:α} (h:l[i]? = some x):(l.take (i+1)).map f=(l.take i).map f++[f x]:=by
 rw [List.take_add_one,h,List.map_append]; rfl
set_option maxRecDepth 20000 in
set_option maxHeartbeats 2000000 in
theorem Il {bd:Nat} (a:Option Addr) (n c:Nat) (acs:List Ac) (w:World) (hd:w.heap[bd]? = some (Bl 162 [.slice a n c])) (R:Rd w a 2 CM acs) (hn:acs.length=n)  (hm:n≤1000000:=by omega):
  Ret Tryz.prog 132 #[ptr bd] w fun v w'=>Fresh w w' 2 1 v ((acs.map (·.ba)).map Ee):=by
 subst hn;obtain ⟨w0,rfl⟩:∃ w0,w0=w:=⟨_,rfl⟩;have H:=Ctx.start w0 [];refine Aw (fn:=Tryz.f132) Tryz.func132 U [.pointer (some ⟨bd,0,none⟩)] U (by kernel_rfl) ?_;refine Af (A1 U (Ab (Aa (Af (A1 U (Ab (Aa (Aq (Af (Ay U (A9 U ?_)))))))))));refine Ag Ez U (AZ Ek U ((by rw [Aj hd]; rfl)) ?_);refine Bi Dg U (Ae U (Ab (Aa (A0 (Bt 2095144 (α:=LSt) (fun t=>[(3,.slice t.a t.i t.c),(11,.int .i64 (t.i:Int))]) (fun t w'=>t.i≤acs.length∧OS t.a t.i t.c 1 t.full (((acs.take t.i).map (·.ba)).map Ee)∧Ctx w0 [] w' (ent t.a 2 t.full)) (fun t=>acs.length - t.i) ⟨0,none,0,[]⟩ U ?_ ?_ ?_)))))
 ·exact ⟨rfl,rfl,trivial⟩
 ·exact ⟨Nat.zero_le _,OS.nil,H⟩
 ·rintro ⟨i,a2,c2,full⟩ j w ⟨hi,O,H⟩; dsimp only at hi O H; dsimp only;refine Af (Bj U U (Ab (Aa (Aq (Ap _ U ?_ ?_)))))
  ·intro h1;replace h1:=AJ h1;obtain ⟨x,hx⟩:=A8 (l:=acs) (i:=i);refine Au (Aa (Aq (A0 (Af (AS R Dg Dx U U (by rfl) ?_)))));refine Cj _ Qs Dx U U ((R.ext0 H.ext).row hx U) ?_;refine AX II H ?_;rintro b5 w - H;refine Bm Dx U U U (by exact HG _) H at0 U ?_;rintro w H;refine Ab (Aa (Az (A3 U (Ag DW U (AM Bw U H at0 U (Ct _ (.int _ _) Bg B6 EK U (by decide) (by decide) U U U H ?_))))));rintro b18 w - H;refine CA (L:=[_]) Bg Bg B6 Lg EK U (by decide) U U H O U (by simp [AO]) ?_;rintro a' c' full' w H O;refine A1 U (Ab (A5 (Aa (Az (Ax U U ?_)))));refine Ae U (Ab (Aa ?_));exact ⟨⟨i+1,a',c',full'⟩,rfl,⟨rfl,rfl,trivial⟩,⟨by dsimp only; omega,by dsimp only; rw [Kk hx,List.map_append]; exact O,H.tail⟩,by dsimp only; omega⟩
  ·intro h1;replace h1:=AK h1;refine Bq (Am (Am (AG (Aa (Af (A3 U (A1 U (Ab (Aa (A4 (AD (v:=(.slice _ _ _)) U U U ?_)))))))))));obtain rfl:i=acs.length:=by omega
   rw [List.take_length] at O;exact Ctx.fresh (L:=[]) H O
def Dq (a:Ac):Int:=max 0 (a.ba - a.re)
def Im (a:Ac):Bool:=CY a.ba && CY a.re
set_option maxRecDepth 20000 in
set_option maxHeartbeats 2000000 in
theorem Aaj {bd:Nat} (a:Option Addr) (n c:Nat) (acs:List Ac) (w:World) (hd:w.heap[bd]? = some (Bl 162 [.slice a n c])) (R:Rd w a 2 CM acs) (hn:acs.length=n) (hmay:∀ x∈acs,Im x=true)  (hm:n≤1000000:=by omega):
  Ret Tryz.prog 180 #[ptr bd] w fun v w'=>Fresh w w' 2 1 v ((acs.map Dq).map Ee):=by
 obtain ⟨w0,rfl⟩:∃ w0,w0=w:=⟨_,rfl⟩;refine Aw (fn:=Tryz.f180) Tryz.func180 U [.pointer (some ⟨bd,0,none⟩)] U (by kernel_rfl) ?_;refine Af (A1 U (Ab (Aa (Af (A1 U (Ab (Aa (Aq (Af (Ay U (Al Zg (Pm a n c acs _ hd R hn) U ?_)))))))))));rintro v w F;obtain ⟨a7,n7,c7,full7,rfl,O7,hb7⟩:=F.ex;have hl7:=O7.llen;rw [Pk] at hl7;obtain rfl:acs.length=n7:=by omega
 refine Bi Dg U (Ae U (Ab (Aa (A0 ?_))));obtain ⟨w1,rfl⟩:∃ z,z=w:=⟨_,rfl⟩;have H:=Ctx.start w1 [];have R7:Rd w1 a7 2 CM acs:=OS.rd O7 (fun x hx=>(hb7 x hx).1) (fun _ _=>rfl) (by omega);refine Bt 8388136 (α:=LSt) (fun t=>[(3,.slice t.a t.i t.c),(9,.int .i64 (t.i:Int))]) (fun t w'=>t.i≤acs.length∧OS t.a t.i t.c 1 t.full (((acs.take t.i).map Dq).map Ee)∧Ctx w1 [] w' (ent t.a 2 t.full)) (fun t=>acs.length - t.i) ⟨0,none,0,[]⟩ U ?_ ?_ ?_
 ·exact ⟨rfl,rfl,trivial⟩
 ·exact ⟨Nat.zero_le _,OS.nil,H⟩
 ·rintro ⟨i,a2,c2,full⟩ j w ⟨hi,O,H⟩; dsimp only at hi O H; dsimp only;refine Af (Bj U U (Ab (Aa (Aq (Ap _ U ?_ ?_)))))
  ·intro h1;replace h1:=AJ h1;obtain ⟨x,hx⟩:=A8 (l:=acs) (i:=i);have hxm:=hmay x (List.mem_of_getElem? hx)
   have hx2:(0≤x.ba∧x.ba≤4503599627370496)∧0≤x.re∧x.re≤4503599627370496:=by
    unfold Im at hxm;rw [Bool.and_eq_true,CE,CE] at hxm;exact hxm
   refine Au (Aa (Aq (A0 (Af (AS R7 Dg Dx U U (by rfl) ?_)))));refine Cj _ Qs Dx U U ((R7.ext0 H.ext).row hx U) ?_;refine AX II H ?_;rintro b5 w - H;refine Bm Dx U U U (by exact HG _) H at0 U ?_;rintro w H;refine Ab (Aa (Az (A3 U (Ag DW U (AM Bw U H at0 U (Ag GW U (AM Bw U H at0 U (Br U U ?_))))))));refine Ji U U ?_;refine Ct _ (.int _ _) Bg B6 EK U (by decide) (by decide) U U U H ?_;rintro b20 w - H;refine CA (L:=[_]) Bg Bg B6 Lg EK U (by decide) U U H O U (by simp [AO]) ?_;rintro a' c' full' w H O;refine A1 U (Ab (A5 (Aa (Az (Ax U U ?_)))));refine Ae U (Ab (Aa ?_));exact ⟨⟨i+1,a',c',full'⟩,rfl,⟨rfl,rfl,trivial⟩,⟨by dsimp only; omega,by dsimp only; rw [Kk hx,List.map_append]; exact O,H.tail⟩,by dsimp only; omega⟩
  ·intro h1;replace h1:=AK h1;refine Bq (Am (Am (AG (Aa (Af (A3 U (A1 U (Ab (Aa (A4 (AD (v:=(.slice _ _ _)) U U U ?_)))))))))));obtain rfl:i=acs.length:=by omega
   rw [List.take_length] at O;obtain ⟨⟨a3,n3,c3,f3,e1,e2,e3⟩,e4⟩:=Ctx.fresh (L:=[]) H O;exact ⟨⟨a3,n3,c3,f3,e1,e2,fun x hx=>⟨(e3 x hx).1,Nat.le_trans F.ext.size (e3 x hx).2⟩⟩,F.ext.trans e4⟩
end Go.Proofs.YtdagmpmdcgedcaaGreat
namespace Go.Proofs.YtdagmpmdcgedcaaGreat
open Go.GV
attribute [local irreducible] AB W Wq Wt
def Ef (acs:List Ac):Int:=if 16<acs.length then 6 else if acs.all Im=false then 1 else (ED (acs.map Ac.ba)).2
set_option maxRecDepth 20000 in
set_option maxHeartbeats 4000000 in
theorem Ajw (a:Option Addr) (n c:Nat) (acs:List Ac) (w:World) (R:Rd w a 2 CM acs) (hn:acs.length=n)  (hm:n≤1000000000:=by omega):
  Ret Tryz.prog 78 #[.slice a n c] w fun v w'=>∃ p,v = .tuple #[p,.int .i64 (Ef acs)]∧(Ef acs≠0→p = .pointer none)∧(Ef acs=0→∃ bd a' c' full,p=ptr bd∧w'.heap[bd]? = some (Bl 162 [.slice a' acs.length c'])∧OS a' acs.length c' 2 full (acs.flatMap CM) ∧
   (∀ x∈ent a' 43 full,w'.heap[x.1]? = some x.2∧w.heap.size≤x.1∧x.1≠bd)∧w.heap.size≤bd)∧Ext [] w w':=by
 subst hn;obtain ⟨w0,rfl⟩:∃ w0,w0=w:=⟨_,rfl⟩;have H:=Ctx.start w0 [];refine Aw (fn:=Tryz.f78) Tryz.func78 U [.slice a acs.length c] U (by kernel_rfl) ?_;refine Af (B3 U (Ad U (Ab (Aa (Aq (Af (A3 U (Bi Dg U (Cs U U (Ab (Aa ?_)))))))))));refine Ap _ U ?_ ?_
 ·intro h1;replace h1:=AJ h1;refine Af (B3 U (Ad U (Ab (Aa (A4 (Ao (BL (v1:=(.pointer _)) (v2:=(.int _ _)) U U U U ?_)))))));have h1':Ef acs=6:=by unfold Ef; rw [if_pos (by omega)]
  exact ⟨_,by rw [h1'],fun _=>rfl,(fun h=>by omega),H.ext⟩
 ·intro h1;replace h1:=AK h1;have h1':¬ 16<acs.length:=by omega
  refine Au (Aa (Af (A3 U (Al Afw (QA a acs.length c acs _ R U hm) U ?_))));rintro v w F;obtain ⟨a3,n3,c3,full3,rfl,O3,hb3⟩:=F.ex;have hx13:=F.ext;replace H:=H.call hx13;have hl3:=O3.llen;rw [Pk] at hl3;obtain rfl:acs.length=n3:=by omega
  obtain ⟨w13,rfl⟩:∃ z,z=w:=⟨_,rfl⟩;replace H:=Ctx.start w13 [];refine B1 [.slice a3 acs.length c3] Zk Zu (by kernel_rfl) ?_;refine Bv [.slice a3 acs.length c3] (.agg _) U U H ?_;rintro b15 w - H;refine B3 U (Ab (Aa (Aq (Af (A3 U (Bi Dg U (Ae U (Ab (Aa (A0 (Bt 8589672524 (α:=Nat) (fun i=>[(18,.int .i64 (i:Int))]) (fun i w'=>i≤acs.length∧Ctx w13 [] w' [(b15,Bl 162 [.slice a3 acs.length c3])]∧(∀ (k:Nat) (x:Ac),k<i→acs[k]? = some x→Im x=true)) (fun i=>acs.length - i) 0 U ?_ ?_ ?_)))))))))))
  ·exact ⟨rfl,trivial⟩
  ·exact ⟨Nat.zero_le _,H,(fun k x h=>absurd h (Nat.not_lt_zero _))⟩
  ·rintro i j w ⟨hi,H,hall⟩;obtain ⟨w1,rfl⟩:∃ z,z=w:=⟨_,rfl⟩;have R1:=R.ext0 (hx13.trans H.ext);have hd1:=H.get at0;have H1:=H;clear H;have H:=Ctx.start w1 [];refine Af (Bj U U (Ab (Aa (Aq (Ap _ U ?_ ?_)))))
   ·intro h2;replace h2:=AJ h2;obtain ⟨x,hx⟩:=A8 (l:=acs) (i:=i);refine Au (Aa (Aq (A0 (Af (AS R1 Dg Dx U U (by rfl) ?_)))));refine Cj _ Qs Dx U U ((R1.ext0 H.ext).row hx U) ?_;refine AX II H ?_;rintro b6 w - H;refine Bm Dx U U U (by exact HG _) H at0 U ?_;rintro w H;refine Ab (Aa (Af (BU (α:=Unit) 4290772992 (fun _=>[(31,.bool (!Im x))]) (fun _ w'=>Ctx w1 [] w' [(b6,Bl 43 (CM x))]) U ?_ ?_)))
    ·refine Ag DW U (AM Bw U H at0 U (Al Jn (Jz x.ba _) U ?_));rintro v w ⟨rfl,rfl⟩;refine BA U (AE U (AY 26 U ?_ ?_))
     ·intro h1;replace h1:=BE h1;refine Ah U (Ah U (Ah U (Ah U (AN U (.bool _) U (Ab ?_)))));exact ⟨rfl,(),rfl,⟨congrArg Value.bool (by unfold Im; rw [Bool.eq_iff_iff]; simp_all; try omega),trivial⟩,H⟩
     ·intro h2;replace h2:=BF h2;refine Ag GW U (AM Bw U H at0 U (Al Jn (Jz x.re _) U ?_));rintro v w ⟨rfl,rfl⟩;refine BA U (AU U (.bool _) U (Ab ?_));exact ⟨rfl,(),rfl,⟨congrArg Value.bool (by unfold Im; rw [Bool.eq_iff_iff]; simp_all; try omega),trivial⟩,H⟩
    rintro - j31 w H;refine Ap _ U ?_ ?_
    ·intro h3;replace h3:=BE h3;refine Af (B3 U (Ad U (Ab (Aa (A4 (AA (Ao (Ao (AA (Ao (BL (v1:=(.pointer _)) (v2:=(.int _ _)) U U U U ?_)))))))))));have h3':Ef acs=1:=by unfold Ef; rw [if_neg h1',if_pos (Eh hx (by simpa using h3))]
     exact ⟨_,by rw [h3'],fun _=>rfl,(fun h=>by omega),(hx13.trans H1.ext).trans H.ext⟩
    ·intro h3;replace h3:=BF h3;refine Au (A5 (Aa (Az (Ax U U ?_))));refine Ae U (Ab (Aa ?_));refine ⟨i+1,rfl,⟨rfl,trivial⟩,⟨by omega,H1.call H.ext,(fun k y hk hy=>?_)⟩,by omega⟩
     rcases Nat.lt_or_ge k i with h7 | h7
     ·exact hall k y h7 hy
     ·obtain rfl:k=i:=by omega
      rw [hx] at hy;cases hy
      simpa using h3
   ·intro h2;replace h2:=AK h2;obtain rfl:i=acs.length:=by omega
    have hal:acs.all Im=true:=Fe fun k x hk hx=>hall k x hk hx
    have hb3':∀ x∈ent a3 43 full3,w1.heap[x.1]? = some x.2∧w0.heap.size≤x.1∧x.1≠b15:=fun x hx=>by
     have h9:=hb3 x hx;have h8:=Ba h9.1;have h7:=(H1.own (b15,_) (List.mem_of_getElem? (i:=0) rfl)).elim (fun h=>by cases h) id;dsimp only at h7;exact ⟨H1.ext.to h9.1 (by simp),h9.2,by omega⟩
    have R3:Rd w1 a3 2 CM acs:=OS.rd O3 (fun x hx=>(hb3' x hx).1) (fun _ _=>rfl) (by omega);obtain ⟨tt,htt⟩:∃ tt,tt=ED (acs.map Ac.ba):=⟨_,rfl⟩;have hC:Ef acs=tt.2:=by unfold Ef; rw [if_neg h1',if_neg (by rw [hal]; decide),htt]
    rw [hC];refine Bq (Am (Am (AG (Aa (Aq (Af (Ay U (Al Rx (Il a3 acs.length c3 acs _ hd1 R3 U) U ?_))))))));rintro v w F4;obtain ⟨a4,n4,c4,f4,rfl,O4,hb4⟩:=F4.ex;replace H:=H.call F4.ext;have hl4:=O4.llen;rw [List.length_map,List.length_map] at hl4;refine Al MA (K9 a4 n4 c4 (acs.map Ac.ba) _ (O4.rd1 fun x hx=>(hb4 x hx).1) (by rw [List.length_map]; omega)) U ?_;rintro v w ⟨rfl,rfl⟩;rw [← htt];refine BM U (A6 U U (A6 U U (Ad U (Ad U (Ab (Aa (Af (Ae U (C9 U U (Ab (Aa ?_)))))))))));refine Ap _ U ?_ ?_
    ·intro h5;replace h5:=CR h5;refine Af (Ae U (B3 U (Ad U (Ab (Aa (A4 (Ao (BL (v1:=(.pointer _)) (v2:=(.int _ _)) U U U U ?_))))))));exact ⟨_,rfl,fun _=>rfl,(fun h=>absurd h h5),(hx13.trans H1.ext).trans H.ext⟩
    ·intro h5;replace h5:=CS h5;refine Au (Aa (Af (Ay U (B3 U (Ad U (Ab (Aa (A4 (BL (v1:=(.pointer _)) (v2:=(.int _ _)) U U U U ?_)))))))));have h5':tt.2=0:=by omega
     refine ⟨_,by rw [h5'],(fun h=>absurd h5' h),(fun _=>⟨b15,a3,c3,full3,rfl,H.ext.to hd1 (by simp),O3,fun x hx=>⟨H.ext.to (hb3' x hx).1 (by simp),(hb3' x hx).2⟩,?_⟩),(hx13.trans H1.ext).trans H.ext⟩;exact Nat.le_trans hx13.size ((H1.own (b15,_) (List.mem_of_getElem? (i:=0) U)).elim (fun h=>by cases h) id)
end Go.Proofs.YtdagmpmdcgedcaaGreat
namespace Go.Proofs.YtdagmpmdcgedcaaGreat
open Go.GV
attribute [local irreducible] AB W Wq Wt
def a00:Ac:=⟨0,0⟩
def acZ (acs:List Ac) (z:Nat→Int) (k i:Nat):Ac:=if i<k then ⟨z i,(acs.getD i a00).re⟩ else acs.getD i a00
def Sf (acs:List Ac) (z:Nat→Int) (k:Nat):List Ac:=(List.range acs.length).map (acZ acs z k)
theorem TD (acs:List Ac) (z:Nat→Int) (k:Nat):(Sf acs z k).length=acs.length:=by unfold Sf; simp
theorem Pn {acs:List Ac} {z:Nat→Int} {k i:Nat} (h:i<acs.length):(Sf acs z k)[i]? = some (acZ acs z k i):=DO h
theorem QB (acs:List Ac) (z:Nat→Int):Sf acs z 0=acs:=by
 refine List.ext_getElem? fun i=>?_
 rcases Nat.lt_or_ge i acs.length with h | h
 ·obtain ⟨e,he⟩:=A8 (h:=h);rw [Pn h,he];unfold acZ;rw [if_neg (by omega),Bo he]
 ·rw [List.getElem?_eq_none (by rw [TD]; exact h),List.getElem?_eq_none h]
theorem Aak {acs:List Ac} {z:Nat→Int} {i:Nat}:(Sf acs z i).set i (acZ acs z (i+1) i)=Sf acs z (i+1):=by
 unfold Sf;refine IC U fun j hj hn=>?_;unfold acZ
 by_cases h:j<i
 ·rw [if_pos h,if_pos (by omega)]
 ·rw [if_neg h,if_neg (by omega)]
def shA (acs:List Ac) (ys:List Int):List Ac:=if D7 (acs.map Ac.ba) ys=0 then List.zipWith (fun a y=>⟨a.ba+y,a.re⟩) acs ys else acs
def shZ (acs:List Ac) (ys:List Int):List Int:=if D7 (acs.map Ac.ba) ys=0 then CZ (acs.map Ac.ba) ys else []
theorem Vl {xs ys:List Int} (h:D7 xs ys=0):xs.length=ys.length:=by
 unfold D7 at h
 split at h
 ·omega
 ·rename_i h1
  have h2:(decide (xs.length=ys.length) && (xs.all CY && Ik ys))=true:=by simpa using h1
  simp only [Bool.and_eq_true,decide_eq_true_eq] at h2;exact h2.1
theorem Ajx (acs:List Ac) (ys:List Int):(shZ acs ys).length≤acs.length:=by
 unfold shZ
 split
 ·unfold CZ; rw [List.length_zipWith,List.length_map]; omega
 ·simp
theorem Ajy (acs:List Ac) (ys:List Int):Sf acs (fun i=>(shZ acs ys).getD i 0) (shZ acs ys).length=shA acs ys:=by
 unfold shA shZ
 by_cases h:D7 (acs.map Ac.ba) ys=0
 ·rw [if_pos h,if_pos h];have hl:=Vl h;rw [List.length_map] at hl;have hsl:(CZ (acs.map Ac.ba) ys).length=acs.length:=by unfold CZ; rw [List.length_zipWith,List.length_map]; omega
  refine List.ext_getElem? fun i=>?_
  rcases Nat.lt_or_ge i acs.length with h7 | h7
  ·obtain ⟨e,he⟩:=A8 (h:=h7);obtain ⟨y,hy⟩:=A8 (l:=ys) (i:=i);rw [Pn h7,List.getElem?_zipWith,he,hy];unfold acZ;dsimp only;rw [if_pos (by omega),Bo he,Bo (Kh (xs:=acs.map Ac.ba) (x:=e.ba) (by rw [List.getElem?_map,he]; rfl) hy)]
  ·rw [List.getElem?_eq_none (by rw [TD]; exact h7),List.getElem?_eq_none (by rw [List.length_zipWith]; omega)]
 ·rw [if_neg h,if_neg h];exact QB _ _
theorem Ajz {acs:List Ac} {ys zs:List Int} {v':Value} {w0 w1 w:World} (hz:zs=shZ acs ys) (hx:Ext [] w0 w1) (h1:D7 (acs.map Ac.ba) ys≠0→v' = .slice none 0 0) (h2:D7 (acs.map Ac.ba) ys=0→Fresh w1 w 2 1 v' ((CZ (acs.map Ac.ba) ys).map Ee)) :
  ∃ a4 n4 c4,v' = .slice a4 n4 c4∧zs.length=n4∧Rd w a4 1 I1 zs∧(zs≠[]→w0.heap.size≤(adr a4).block):=by
 subst hz;unfold shZ
 by_cases h:D7 (acs.map Ac.ba) ys=0
 ·rw [if_pos h];obtain ⟨a,n,c,full,rfl,O,hb⟩:=(h2 h).ex;have hl:=O.llen;rw [List.length_map] at hl;refine ⟨a,n,c,rfl,by omega,O.rd1 fun x hx=>(hb x hx).1,fun hne=>?_⟩
  have hpos:0<n:=by
   have:=List.length_pos_iff.2 hne; omega
  obtain ⟨q,rfl⟩:=O.form hpos;exact Nat.le_trans hx.size (hb (q,Bl 2 full) (List.mem_singleton.2 U)).2
 ·rw [if_neg h];exact ⟨none,0,0,h1 h,rfl,Rd.nil,fun h=>absurd rfl h⟩
structure HSt where
 i:Nat
 full:List Value
set_option maxRecDepth 20000 in
set_option maxHeartbeats 4000000 in
theorem XC {bd:Nat} (a b:Option Addr) (c m d:Nat) (full:List Value) (acs:List Ac) (ys:List Int) (w:World) (hd:w.heap[bd]? = some (Bl 162 [.slice a acs.length c])) (O:OS a acs.length c 2 full (acs.flatMap CM))
  (hb:∀ x∈ent a 43 full,w.heap[x.1]? = some x.2∧x.1≠bd) (Ry:Rd w b 1 I1 ys) (hm:ys.length=m)  (hn:acs.length≤1000000:=by omega) (hm2:m≤1000000:=by omega):
  Ret Tryz.prog 186 #[ptr bd,.slice b m d] w fun v w'=>v = .int .i64 (D7 (acs.map Ac.ba) ys)∧∃ full',OS a acs.length c 2 full' ((shA acs ys).flatMap CM)∧(∀ x∈ent a 43 full',w'.heap[x.1]? = some x.2)∧Ext ((ent a 43 full).map (·.1)) w w':=by
 obtain ⟨w0,rfl⟩:∃ w0,w0=w:=⟨_,rfl⟩;have R:Rd w0 a 2 CM acs:=OS.rd O (fun x hx=>(hb x hx).1) (fun _ _=>rfl) (by omega);obtain ⟨code,hcode⟩:∃ code,code=D7 (acs.map Ac.ba) ys:=⟨_,rfl⟩;obtain ⟨zs,hzs⟩:∃ zs,zs=shZ acs ys:=⟨_,rfl⟩;have hzl:zs.length≤acs.length:=by rw [hzs]; exact Ajx acs ys
 rw [← Ajy,← hzs,← hcode];refine Aw (fn:=Tryz.f186) Tryz.func186 U [.pointer (some ⟨bd,0,none⟩),.slice b m d] U (by kernel_rfl) ?_;refine Af (Ad U (Ab (Aa (Aq (Af (Ay U (Co Nh U ?_)))))));refine Ab (Aa (Ap _ U ?_ ?_))
 ·intro h0;cases h0
 ·intro h0;refine Au (Aa (Af (Ay U (Al Rx (Il a acs.length c acs _ hd R U (hm:=hn)) U ?_))));rintro v w F;obtain ⟨a3,n3,c3,f3,rfl,O3,hb3⟩:=F.ex;have hl3:=O3.llen;rw [List.length_map,List.length_map] at hl3;refine A3 U (Al Ah4 (X5 a3 b n3 c3 m d (acs.map Ac.ba) ys _ (O3.rd1 fun x hx=>(hb3 x hx).1) (by rw [List.length_map]; omega) (Ry.ext0 F.ext) hm hm2) U ?_);rintro v w ⟨v',rfl,hv1,hv2,hx15⟩;rw [← hcode];obtain ⟨a4,n4,c4,rfl,hn4,R4,hbz⟩:∃ a4 n4 c4,v' = .slice a4 n4 c4∧zs.length=n4∧Rd w a4 1 I1 zs∧(zs≠[]→w0.heap.size≤(adr a4).block):=Ajz hzs F.ext hv1 hv2;refine BM U (A6 U U (A6 U U (A1 U (Ad U (Ab (Aa (Aq (Af (A3 U (Bi Bg U ?_))))))))));refine Ae U (Ab (Aa (A0 ?_)));subst hn4;obtain ⟨w1,rfl⟩:∃ z,z=w:=⟨_,rfl⟩;have hx1:=F.ext.trans hx15;have hb1:∀ x∈ent a 43 full,w1.heap[x.1]? = some x.2:=fun x hx=>hx1.to (hb x hx).1 (by simp)
  obtain ⟨ids,hids⟩:∃ ids,ids=(ent a 43 full).map (·.1):=⟨_,rfl⟩
  have hidl:∀ y∈ids,y<w0.heap.size∧y≠bd:=fun y hy=>by
   rw [hids] at hy;obtain ⟨x,hx,rfl⟩:=List.mem_map.1 hy;exact ⟨Ba (hb x hx).1,(hb x hx).2⟩
  have H:Ctx w1 ids w1 (ent a 43 full):=⟨Ext.refl _ _,hb1,FD,fun x hx => .inl (by rw [hids]; exact List.mem_map_of_mem (f:=(·.1)) hx)⟩;have hd1:=hx1.to hd (by simp);rw [← hids];refine Bt 17178820992 (α:=HSt) (fun t=>[(20,.int .i64 (t.i:Int))]) (fun t w'=>t.i≤zs.length∧OS a acs.length c 2 t.full ((Sf acs (fun i=>zs.getD i 0) t.i).flatMap CM)∧Ctx w1 ids w' (ent a 43 t.full)) (fun t=>zs.length - t.i) ⟨0,full⟩ U ?_ ?_ ?_
  ·exact ⟨rfl,trivial⟩
  ·exact ⟨Nat.zero_le _,by dsimp only; rw [QB]; exact O,H⟩
  ·rintro ⟨i,fu⟩ j w ⟨hi,O,H⟩; dsimp only at hi O H; dsimp only;refine Af (Bj U U (Ab (Aa (Aq (Ap _ U ?_ ?_)))))
   ·intro h1;replace h1:=AJ h1;obtain ⟨z,hz⟩:=A8 (l:=zs) (i:=i);have hzne:zs≠[]:=fun h=>by rw [h] at hz; cases hz
    have hz0:zs.getD i 0=z:=Bo hz;obtain ⟨q,rfl⟩:=O.form (by omega);have hil:i<acs.length:=by omega
    obtain ⟨ac,hac⟩:=A8 (h:=hil);have hOl:=O.len;have hqn:=O.le;have hzb:(adr a4).block∉ids:=fun h=>by have:=hidl _ h; have:=hbz hzne; omega
    refine Au (Aa (Aq (A0 (Af (Ae U (AS R4 Bg B6 U U (by rfl) ?_))))));refine AZ Bw U (((R4.ext H.ext hzb).fld hz U (j:=0) U)) ?_;refine Ad U (Ad U (Ab (Aa (Az (Ay U (A9 U (Ag Ez U (AZ Ek U ((H.old (Aj hd1 _) (fun h=>(hidl _ h).2 rfl))) ?_))))))));refine Ae U (Ae U (Bn Dg Dx U U ?_));refine Ag DW U (Cp (.int _ _) B6 U U U H at0 (by omega) ?_);rintro w H;refine Ab (A5 (Aa (Az (Ax U U ?_))));refine Ae U (Ab (Aa ?_));rw [show 0+((i:Int)).toNat*2+0=i*2+0 by omega] at H;have O1:=OS.setf O (y:=acZ acs (fun i=>zs.getD i 0) (i+1) i) (j:=0) (v := .int .i64 z) (fun _=>rfl) (Pn hil) (by decide) (by unfold acZ CM; dsimp only; rw [if_pos (by omega),if_neg (by omega),hz0]; rfl);rw [Aak] at O1;exact ⟨⟨i+1,_⟩,rfl,⟨rfl,trivial⟩,⟨by dsimp only; omega,O1,H⟩,by dsimp only; omega⟩
   ·intro h1;replace h1:=AK h1;refine Bq (Am (Am (AG (Aa (Af (Ae U (Ad U (Ab (Aa (A4 (AD (v:=(.int _ _)) U U U ?_)))))))))));obtain rfl:i=zs.length:=by omega
    exact ⟨rfl,fu,O,fun x hx=>H.blk x hx,(hx1.mono (by simp)).trans H.ext⟩
end Go.Proofs.YtdagmpmdcgedcaaGreat
namespace Go.Proofs.YtdagmpmdcgedcaaGreat
open Go.GV
attribute [local irreducible] AB W Wq Wt
end Go.Proofs.YtdagmpmdcgedcaaGreat
namespace Go.Proofs.YtdagmpmdcgedcaaGreat
open Go.GV
attribute [local irreducible] AB W Wq Wt
def inM (x y:Int):Bool:=CY x && Gl y
end Go.Proofs.YtdagmpmdcgedcaaGreat
namespace Go.Proofs.YtdagmpmdcgedcaaGreat
open Go.GV
attribute [local irreducible] AB W Wq Wt
end Go.Proofs.YtdagmpmdcgedcaaGreat
namespace Go.Proofs.YtdagmpmdcgedcaaGreat
open Go.GV
attribute [local irreducible] AB W Wq Wt
theorem Wp {α:Type} {xs ys:List α} (hl:xs.length=ys.length) (h:∀ (k:Nat) (x y:α),k<xs.length→xs[k]? = some x→ys[k]? = some y→x=y):xs=ys:=by
 refine List.ext_getElem? fun i=>?_
 rcases Nat.lt_or_ge i xs.length with h7 | h7
 ·obtain ⟨x,hx⟩:=A8 (l:=xs) (i:=i) (h:=h7);obtain ⟨y,hy⟩:=A8 (l:=ys) (i:=i);rw [hx,hy,h i x y h7 hx hy]
 ·rw [List.getElem?_eq_none (by omega),List.getElem?_eq_none (by omega)]
end Go.Proofs.YtdagmpmdcgedcaaGreat
namespace Go.Proofs.YtdagmpmdcgedcaaGreat
open Go.GV
attribute [local irreducible] AB W Wq Wt
end Go.Proofs.YtdagmpmdcgedcaaGreat
namespace Go.Proofs.YtdagmpmdcgedcaaGreat
open Go.GV
attribute [local irreducible] AB W Wq Wt
end Go.Proofs.YtdagmpmdcgedcaaGreat
namespace Go.Proofs.YtdagmpmdcgedcaaGreat
open Go.GV
attribute [local irreducible] AB W Wq Wt
theorem XE (ds:List Du):∀ v∈ds.flatMap CO,AO v=true:=fun v hv=>by
 obtain ⟨a,_,h⟩:=List.mem_flatMap.1 hv;exact CQ a v h
theorem Po (ds:List Du):(ds.flatMap CO).length=ds.length*7:=by
 induction ds with
 | nil=>rfl
 | cons a ds ih =>
  rw [List.flatMap_cons,List.length_append,ih];show 7+ds.length*7=(ds.length+1)*7;omega
end Go.Proofs.YtdagmpmdcgedcaaGreat
namespace Go.Proofs.YtdagmpmdcgedcaaGreat
open Go.GV
attribute [local irreducible] AB W Wq Wt
def pC (d:Du) (x:Int):Int:=if x<0 then 1 else if d.held=true then 14 else if d.am<x then 12 else 0
def pD (d:Du) (x:Int):Du:=if pC d x=0 then { d with am:=d.am - x } else d
set_option maxRecDepth 20000 in
set_option maxHeartbeats 2000000 in
theorem Aeg {b7 bx:Nat} {d:Du} {x:Int} (w:World) (h7:w.heap[b7]? = some (Bl 67 (CO d))) (hx:w.heap[bx]? = some (Bl 2 [.int .i64 x])) (ham:0≤d.am∧d.am≤4503599627370496)  (hne:bx≠b7:=by omega):
  Ret Tryz.prog 222 #[ptr b7,ptr bx] w fun v w'=>v = .int .i64 (pC d x)∧Ctx w [b7] w' [(b7,Bl 67 (CO (pD d x)))]:=by
 obtain ⟨w0,rfl⟩:∃ w0,w0=w:=⟨_,rfl⟩;have H:=Ctx.start1 h7;have hn:bx∉[b7]:=by rw [List.mem_singleton]; exact hne
 refine Aw (fn:=Tryz.f222) Tryz.func222 U [.pointer (some ⟨b7,0,none⟩),.pointer (some ⟨bx,0,none⟩)] U (by kernel_rfl) ?_;refine Af (Ad U (Ab (Aa (Aq (A0 (Af (AZ Bw U ((H.old (Aj hx _) hn)) ?_)))))));refine Bj U U (Ai U (Ab (Aa (Ap _ U ?_ ?_))))
 ·intro h1;replace h1:=AJ h1;refine Af (Ad U (Ab (Aa (A4 (AA (Ao (AD (v:=(.int _ _)) U U U ?_)))))));have hp:pC d x=1:=if_pos h1;exact ⟨by rw [hp],by unfold pD; rw [hp,if_neg (by decide)]; exact H⟩
 ·intro h1;replace h1:=AK h1;refine Af (Ay U (A9 U (Ag Ii U (AM JQ U H at0 U (Ai U (Ab (Aa (Ap _ U ?_ ?_))))))))
  ·intro h2;refine Af (Ad U (Ab (Aa (A4 (AA (Ao (AD (v:=(.int _ _)) U U U ?_)))))));have hp:pC d x=14:=by unfold pC; rw [if_neg (by omega),if_pos h2]
   exact ⟨by rw [hp],by unfold pD; rw [hp,if_neg (by decide)]; exact H⟩
  ·intro h2;refine Er (fun x=>x=_) Bs (by kernel_rfl) U ?_;refine BX Bw U (by rintro _ rfl; exact ((H.old (Aj hx _) hn))) ?_;refine B4 U (Bb U (A7 Eo U (Cn Bw U (by rintro _ rfl; exact H.drew) at0 U ?_)));refine Qe U U U (Mz U U (BW ?_));rintro _ rfl;replace H:=H.drew;refine Ap _ U ?_ ?_
   ·intro h3;replace h3:=AJ h3;refine Af (Ad U (Ab (Aa (A4 (AA (Ao (AD (v:=(.int _ _)) U U U ?_)))))));have hp:pC d x=12:=by unfold pC; rw [if_neg (by omega),if_neg (by rw [h2]; decide),if_pos h3]
    exact ⟨by rw [hp],by unfold pD; rw [hp,if_neg (by decide)]; exact H⟩
   ·intro h3;replace h3:=AK h3;refine Au (A5 (Aa (Eb 8 Bs (by kernel_rfl) U U ?_)));refine B4 U (Bb U (A7 Eo U (Cn Bw U (by rintro _ rfl; exact H.drew) at0 U ?_)));refine BX Bw U (by rintro _ rfl; exact ((H.old (Aj hx _) hn))) ?_;refine D8 U U ?_;refine Bb U (A7 Eo U (BW ?_));replace H:=H.drew;refine Cp (.int _ _) B6 U U U H at0 (by (simp; done)) ?_;rintro w H;refine Ab (Aa (Af (Ad U (Ab (Aa (A4 (AD (v:=(.int _ _)) U U U ?_)))))));have hp:pC d x=0:=by unfold pC; rw [if_neg (by omega),if_neg (by rw [h2]; decide),if_neg (by omega)]
    exact ⟨by rw [hp],by unfold pD; rw [hp,if_pos rfl]; exact H⟩
def CN (ds:List Du) (k:Int):Option Du:=ds.find? fun d=>d.id == k
theorem Hi (ds:List Du) (k:Int):Ej (dm ds) k=(CN ds k).map FZ:=by
 induction ds with
 | nil=>rfl
 | cons x ds ih =>
  unfold dm Ej CN at ih ⊢;rw [List.map_cons,List.find?_cons,List.find?_cons]
  cases h:x.id == k with
  | true=>rfl
  | false=>exact ih
def GZ:List Du→Int→Int→List Du
 | [],_,_=>[]
 | d::ds,k,x=>if d.id=k then (if d.am=x then ds else { d with am:=d.am - x }::ds) else d::GZ ds k x
theorem Aal {ds:List Du} {k x:Int} {d:Du} (h:CN ds k=some d) (hx:d.am=x:=by omega):Lc (dm ds) k=dm (GZ ds k x):=by
 induction ds with
 | nil=>cases h
 | cons y ds ih =>
  unfold CN at h;rw [List.find?_cons] at h
  by_cases e:y.id=k
  ·rw [show (y.id == k)=true by simpa using e] at h
   injection h with h
   subst h;unfold GZ;rw [if_pos e,if_pos hx];show (if y.id=k then dm ds else _)=_;rw [if_pos e]
  ·rw [show (y.id == k)=false by simpa using e] at h;unfold GZ;rw [if_neg e];show (if y.id=k then _ else (y.id,FZ y)::Lc (dm ds) k)=_;rw [if_neg e,ih h]; rfl
theorem Aam {ds:List Du} {k x:Int} {d:Du} (h:CN ds k=some d) (hx:¬ d.am=x):L5 (dm ds) k (FZ { d with am:=d.am - x })=dm (GZ ds k x):=by
 induction ds with
 | nil=>cases h
 | cons y ds ih =>
  unfold CN at h;rw [List.find?_cons] at h
  by_cases e:y.id=k
  ·rw [show (y.id == k)=true by simpa using e] at h
   injection h with h
   subst h;unfold GZ;rw [if_pos e,if_neg hx];show (if y.id=k then (k,_)::dm ds else _)=_;rw [if_pos e,← e]; rfl
  ·rw [show (y.id == k)=false by simpa using e] at h;unfold GZ;rw [if_neg e];show (if y.id=k then _ else (y.id,FZ y)::L5 (dm ds) k _)=_;rw [if_neg e,ih h]; rfl
def N4 (ds:List Du) (k x:Int):Int:=match CN ds k with
 | none=>11
 | some d=>pC d x
def TE (ds:List Du) (k x:Int):List Du:=if N4 ds k x=0 then GZ ds k x else ds
def payF (bx:Nat):Value := .func (.func 222) #[] #[ptr bx]
set_option maxRecDepth 20000 in
set_option maxHeartbeats 2000000 in
theorem XF {bd b bx:Nat} {nx k x:Int} {o:Obj} {ds:List Du} (w:World) (hd:w.heap[bd]? = some (Bl 165 (DU b nx))) (hb:w.heap[b]? = some o) (hM:CT .u64 (dm ds) o) (hbd:bd≠b) (hf:CN ds k=none) :
  Ret Tryz.prog 177 #[ptr bd,.int .u64 k,payF bx] w fun v w'=>v = .int .i64 (N4 ds k x)∧∃ o',CT .u64 (dm (TE ds k x)) o'∧Ctx w [b] w' [(b,o')]:=by
 obtain ⟨w0,rfl⟩:∃ w0,w0=w:=⟨_,rfl⟩;have H:=Ctx.start1 hb;have hc:N4 ds k x=11:=by unfold N4; rw [hf]
 have hmg:Ej (dm ds) k=none:=by rw [Hi,hf]; rfl
 unfold TE;rw [hc,if_neg (by decide)];refine Aw (fn:=Tryz.f177) Tryz.func177 U [.pointer (some ⟨bd,0,none⟩),.int .u64 k,.func (.func 222) #[] #[.pointer (some ⟨bx,0,none⟩)]] U (by kernel_rfl) ?_;refine Af (Ad U (Ab (Aa (Aq (Af (Ay U (Co Ix U ?_)))))));refine Ab (Aa (Ap _ U ?_ ?_))
 ·intro h0;cases h0
 ·intro h0;refine Au (Aa (Af (Ay U (A9 U (Ag DG U (AZ Fa U ((H.old (Aj hd _) (by rw [List.mem_singleton]; exact hbd))) ?_))))));refine Ae U (G4 U Fx EV OQ U U H at0 hM ?_);rw [hmg];rw [Option.getD_none,Option.isSome_none];refine BM U (A6 U U (A6 U U (AX Eu H ?_)));rintro b7 w - H;refine Bm Ci U U U (by exact CQ d00) H at0 U ?_;rintro w H;refine Ai U (Ab (Aa (Aq (Af (AE U (BA U (Ab (Aa (Ap _ U ?_ ?_)))))))))
  ·intro h1;replace h1:=BE h1;refine Af (Ad U (Ab (Aa (A4 (Ao (AD (v:=(.int _ _)) U U U ?_))))));exact ⟨rfl,o,hM,H.tail⟩
  ·intro h1;replace h1:=BF h1;cases h1
end Go.Proofs.YtdagmpmdcgedcaaGreat
