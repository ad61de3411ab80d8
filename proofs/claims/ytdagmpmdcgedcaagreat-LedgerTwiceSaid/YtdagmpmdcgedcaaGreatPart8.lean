/- Part 8 of the proof. -/
import Derived.Test.YtdagmpmdcgedcaaGreatPart2
import Derived.Test.YtdagmpmdcgedcaaGreatPart7
import Derived.Test.YtdagmpmdcgedcaaGreatPart4
import Derived.Test.YtdagmpmdcgedcaaGreatPart6
import Derived.Test.YtdagmpmdcgedcaaGreatPart3
namespace Go.Proofs.YtdagmpmdcgedcaaGreat
open Go.GV
attribute [local irreducible] AD W Wq Wt
theorem V3 (x:Nat) (w:World) (hx:x≤4503599627370496:=by omega):Ret Tryz.prog 205 #[.int .u64 (x:Int)] w fun v w'=>∃ r:Nat,v = .int .i64 (r:Int)∧x<2 ^ r∧r≤64∧(0<x→2 ^ r≤2*x)∧w=w':=by
 refine Az (fn:=Tryz.f205) Tryz.func205 U [.int .u64 (x:Int)] U (by kernel_rfl) ?_;refine Ae (Af U (Ab (Aa (Au (Ao _ U ?_ ?_)))))
 ·intro h;cases h
 ·intro h;refine Ap (Aa (Ae (Ad U (Al Ze (TP x hx w) U ?_))));rintro v w ⟨r,rfl,h1,h2,h3,rfl⟩;refine Af U (Ab (Aa (A5 (A9 (v:=(.int _ _)) U U U ?_))));exact ⟨r,rfl,h1,h2,h3,rfl⟩
theorem Aeb (l:Nat) (w:World) (h0:0<l:=by omega) (hl:l≤1000000000:=by omega):Ret Tryz.prog 257 #[.int .i64 (l:Int)] w fun v w'=>∃ r:Nat,v = .int .u64 (r:Int)∧0<r∧r≤2*l∧w=w':=by
 refine Az (fn:=Tryz.f257) Tryz.func257 U [.int .i64 (l:Int)] U (by kernel_rfl) ?_;refine Ae (Af U (Ab (Aa (Ae (Ad U (ED U Se Sd ?_))))));refine Al Vf (V3 l w) U ?_;rintro v w ⟨r,rfl,h1,h2,h3,rfl⟩;refine UL (a:=1) (n:=r) U U U h2 ?_;refine Af U (Ab (Aa (A5 (A9 (v:=(.int _ _)) U U U ?_))));have h4:=h3 h0;have h5:=Nat.two_pow_pos r;exact ⟨2 ^ r,congrArg (Value.int .u64) (by rw [Nat.one_mul,Nat.mod_eq_of_lt (by omega)]),h5,h4,rfl⟩
theorem Aaf {x y:Nat} (hx:x<18446744073709551616) (hy:y<18446744073709551616):x ^^^ y<18446744073709551616:=Nat.xor_lt_two_pow (n:=64) hx hy
section
variable {w:World} {q n c m s:Nat} {f:Nat→Int}
set_option maxRecDepth 20000 in
theorem Aec {z:Nat} (hs:w.heap[s]? = some (Bl 286 [.int .u64 (z:Int)])) (hz:z<18446744073709551616) :
  Ret Tryz.prog 258 #[ptr s] w fun v w'=>∃ z':Nat,v = .int .u64 (z':Int)∧z'<18446744073709551616∧Ctx w [s] w' [(s,Bl 286 [.int .u64 (z':Int)])]:=by
 obtain ⟨w0,rfl⟩:∃ w0,w0=w:=⟨_,rfl⟩;have H:=Ctx.start1 hs;refine Az (fn:=Tryz.f258) Tryz.func258 U [.pointer (some ⟨s,0,none⟩)] U (by kernel_rfl) ?_;have b1:=Nat.mod_lt (z*2 ^ 13) (show 0<18446744073709551616 by decide);obtain ⟨y1,hy1⟩:∃ y1,y1=z*2 ^ 13 % 18446744073709551616:=⟨_,rfl⟩;rw [← hy1] at b1;refine Ae (Af U (Ab (Aa (DZ 9 Bq (by kernel_rfl) U U ?_))));refine B5 U (AZ U (Cc Lg U (by rintro _ rfl; exact H.drew) at0 U ?_));refine B5 U (AZ U (Cc Lg U (by rintro _ rfl; exact H.drew) at0 U ?_));refine Qy (a:=z) (n:=13) U U U (by decide) ?_;rw [← hy1];refine MB (a:=z) (b:=y1) U U U hz b1 ?_;refine AZ U (BQ ?_);replace H:=H.drew;refine Ci (.int _ _) Sc U U U H at0 (by (simp; done)) ?_;rintro w H;refine Ab (Aa ?_);obtain ⟨z1,hz1⟩:∃ z1,z1=z ^^^ y1:=⟨_,rfl⟩;have c1:=Aaf hz b1;rw [← hz1] at c1;replace H:Ctx w0 [s] w [(s,Bl 286 [.int .u64 (z1:Int)])]:=by rw [hz1]; exact H
 have b2:z1 / 2 ^ 7<18446744073709551616:=Nat.lt_of_le_of_lt (Nat.div_le_self _ _) c1;obtain ⟨y2,hy2⟩:∃ y2,y2=z1 / 2 ^ 7:=⟨_,rfl⟩;rw [← hy2] at b2;refine DZ 9 Bq (by kernel_rfl) U U ?_;refine B5 U (AZ U (Cc Lg U (by rintro _ rfl; exact H.drew) at0 U ?_));refine B5 U (AZ U (Cc Lg U (by rintro _ rfl; exact H.drew) at0 U ?_));refine Xh (a:=z1) (n:=7) U U U (by decide) ?_;rw [← hy2];refine MB (a:=z1) (b:=y2) U U U c1 b2 ?_;refine AZ U (BQ ?_);replace H:=H.drew;refine Ci (.int _ _) Sc U U U H at0 (by (simp; done)) ?_;rintro w H;refine Ab (Aa ?_);obtain ⟨z2,hz2⟩:∃ z2,z2=z1 ^^^ y2:=⟨_,rfl⟩;have c2:=Aaf c1 b2;rw [← hz2] at c2;replace H:Ctx w0 [s] w [(s,Bl 286 [.int .u64 (z2:Int)])]:=by rw [hz2]; exact H
 have b3:=Nat.mod_lt (z2*2 ^ 17) (show 0<18446744073709551616 by decide);obtain ⟨y3,hy3⟩:∃ y3,y3=z2*2 ^ 17 % 18446744073709551616:=⟨_,rfl⟩;rw [← hy3] at b3;refine DZ 9 Bq (by kernel_rfl) U U ?_;refine B5 U (AZ U (Cc Lg U (by rintro _ rfl; exact H.drew) at0 U ?_));refine B5 U (AZ U (Cc Lg U (by rintro _ rfl; exact H.drew) at0 U ?_));refine Qy (a:=z2) (n:=17) U U U (by decide) ?_;rw [← hy3];refine MB (a:=z2) (b:=y3) U U U c2 b3 ?_;refine AZ U (BQ ?_);replace H:=H.drew;refine Ci (.int _ _) Sc U U U H at0 (by (simp; done)) ?_;rintro w H;refine Ab (Aa (Ae (A2 U (AA U (AH Lg U H at0 U (Af U (Ab (Aa (A5 (A9 (v:=(.int _ _)) U U U ?_))))))))));exact ⟨z2 ^^^ y3,rfl,Aaf c2 b3,H⟩
set_option maxRecDepth 20000 in
set_option maxHeartbeats 2000000 in
theorem Aag {a b:Nat} (hd:w.heap[q]? = some (Bl 28 (CH f m))) (hn:n≤m) (hm:n≤1000000000)  (hab:a<b:=by omega) (hb:b≤n:=by omega):
  Ret Tryz.prog 232 #[.slice (some ⟨q,0,none⟩) n c,.int .i64 (a:Int),.int .i64 (b:Int)] w fun v w'=>v = .tuple #[]∧∃ g,Sw a b f g∧Ctx w [q] w' [(q,Bl 28 (CH g m))]:=by
 obtain ⟨w0,rfl⟩:∃ w0,w0=w:=⟨_,rfl⟩;have H:=Ctx.start1 hd;obtain ⟨l,rfl⟩:∃ l,b=a+l:=⟨b - a,by omega⟩;have hl:((a+l:Nat):Int) - (a:Int)=(l:Int):=by omega
 refine Az (fn:=Tryz.f232) Tryz.func232 U [.slice (some ⟨q,0,none⟩) n c,.int .i64 (a:Int),.int .i64 ((a+l:Nat):Int)] U (by kernel_rfl) ?_;refine Ae (Ad U (Ad U (Bp U U ?_)));rw [hl];refine Af U (Ab (Aa (Ae (Ad U (C9 U U (Ab (Aa (Ao _ U ?_ ?_))))))))
 ·intro h1;replace h1:=AM h1;refine Ae (Ad U (ED U Se Ajd ?_));refine Ba Aji H ?_;rintro b7 w - H;refine Ci (.int _ _) Sc U U U H at0 (by decide) ?_;rintro w H;refine Ab (Aa (Ae (Ad U (Al Aim (Aeb l _) U ?_))));rintro v w ⟨M,rfl,hM0,hM,rfl⟩;refine Af U (Ab (Aa (Ae (Ad U (Ad U (JL U U (show _≤(9223372036854775807:Int) by omega) ?_))))));refine DI U U ?_;refine Aw U U ?_;refine Bp U U ?_;rw [show (a:Int)+(l:Int) / 4*2 - 1=((a+l / 4*2 - 1:Nat):Int) by omega]
  refine Af U (Ab (Aa (A0 (Bv 36893488147351995904 (α:=Nat × (Nat→Int) × Nat) (fun t=>[(9,.int .i64 (t.1:Int))]) (fun t w'=>a≤t.1∧t.1≤a+l / 4*2+2∧t.2.2<18446744073709551616∧Sw a (a+l) f t.2.1∧Ctx w0 [q] w' [(b7,Bl 286 [.int .u64 (t.2.2:Int)]),(q,Bl 28 (CH t.2.1 m))]) (fun t=>a+l / 4*2+2 - t.1) (a+l / 4*2 - 1,f,l) U ?_ ?_ ?_))))
  ·exact ⟨rfl,trivial⟩
  ·exact ⟨by dsimp only; omega,by dsimp only; omega,by dsimp only; omega,.refl _,H⟩
  ·rintro ⟨i,g,z⟩ j0 w ⟨hi1,hi2,hz,hS,H⟩; dsimp only at hi1 hi2 hz hS H; dsimp only;refine Au (Ae (Ad U (Ad U (Ad U (JL U U (show _≤(9223372036854775807:Int) by omega) ?_)))));refine DI U U ?_;refine Aw U U ?_;refine Aw U U ?_;refine M8 U U U (Ab (Aa (Ao _ U ?_ ?_)))
   ·intro h2;replace h2:=AM h2;refine Ap (Aa (Au (A0 (Ae (Al Ain (Aec (H.get at0) hz) U ?_)))));rintro v w ⟨z2,rfl,hz2,H2⟩;replace H:=Ctx.back (L1:=[_]) (L2:=[_]) H H2;refine Ad U (Om U U U ?_);rw [show (M:Int) - 1=((M - 1:Nat):Int) by omega];refine Jl (a:=z2) (b:=M - 1) U U U (ha:=hz2) ?_;have hand:z2 &&& (M - 1)≤M - 1:=Nat.and_le_right;refine GJ U U Sd Se ?_;refine Af U (Ab (Aa (Au (Ae (Ad U (Ad U (C9 U U (Ab (Aa ?_)))))))));obtain ⟨r,hr⟩:∃ r,r=z2 &&& (M - 1):=⟨_,rfl⟩;have hr2:r≤M - 1:=by rw [hr]; exact Nat.and_le_right
    rw [← hr];refine Ey 123145302311936 (α:=Nat) (fun r=>[(10,.int .i64 (r:Int))]) (fun r w'=>r<l∧Ctx w0 [q] w' [(b7,Bl 286 [.int .u64 (z2:Int)]),(q,Bl 28 (CH g m))]) U ?_ ?_
    ·skip
     refine Ao _ U ?_ ?_
     ·intro h3;replace h3:=AM h3;refine Ax (Ad U (Ad U (Bp U U ?_)));refine Af U (Ab (Aa ?_));exact ⟨r - l,rfl,⟨congrArg (Value.int .i64) (by omega),trivial⟩,by omega,H⟩
     ·intro h3;replace h3:=AN h3;refine Ap (Aa ?_);exact ⟨r,rfl,⟨rfl,trivial⟩,by omega,H⟩
    ·rintro r2 j1 w ⟨hr3,H⟩;refine Fj [([0,1,2,3,4,5,6,7,8,9,10,11,12,13,14,15,16],17),([18],19)] (fun z=>z.heap[q]? = some (Bl 28 (CH (g) m))) [17,19] Bq (by kernel_rfl) (H.drew.get at1) ?_;refine AE U U ?_;refine B3 U (Bc U (B3 U (Bc U (Bc U (El U U ?_)))));refine B3 U (Bc U (Bc U (El U U ?_)));refine AJ Bt Bo U U ?_;refine Bw B1 U (fun _ hx=>(C2 hx)) ?_;refine B3 U (Bc U (AJ Bt Bo U U ?_));refine Bw B1 U (fun _ hx=>(C2 hx)) ?_;refine AJ Bt Bo U U ?_;refine AP ?_;replace H:=H.drew;refine Ce (i) (fun z => .int .u64 (if z=i then (g) (a+r2) else (g) z)) (.int _ _) Bo U U U H at1 (by omega) (by rw [if_pos rfl]; exact congrArg (fun z=>Value.int .u64 ((g) z)) (by omega)) (fun z _ hz=>by rw [if_neg hz]) ?_;rintro w H
     refine Ab (B4 U (AE U U ?_));refine AJ Bt Bo U U ?_;refine AP (Ce (a+r2) (fun z => .int .u64 (sw (g) (i) (a+r2) z)) (.int _ _) Bo U U U H at1 (by omega) (by rw [DV]; exact congrArg (fun z=>Value.int .u64 ((g) z)) (by omega)) (fun z _ hz=>by rw [DQ hz]) ?_);rintro w H;refine Ab (B4 U (BJ (A6 (Aa (Ax (Ad U (Aw U U ?_)))))));refine Af U (Ab (Aa ?_));exact ⟨(i+1,sw g i (a+r2),z2),rfl,⟨rfl,trivial⟩,⟨by dsimp only; omega,by dsimp only; omega,hz2,hS.step i (a+r2) ⟨by omega,by omega⟩ ⟨by omega,by omega⟩,H⟩,by dsimp only; omega⟩
   ·intro h2;replace h2:=AN h2;refine Br (An (An (AK (CU U U ?_))));exact ⟨rfl,g,hS,H.tail⟩
 ·intro h1;replace h1:=AN h1;refine Ap (CU U U ?_);exact ⟨rfl,f,.refl _,H⟩
end
end Go.Proofs.YtdagmpmdcgedcaaGreat
namespace Go.Proofs.YtdagmpmdcgedcaaGreat
open Go.GV
attribute [local irreducible] AD W Wq Wt
structure PQ (f g:Nat→Int) (a b a' b':Nat):Prop where
 ha:a≤a'
 hab:a'≤b'
 hb:b'≤b
 sw:Sw a b f g
 out:∀ x y,a≤x→x<y→y<b→¬ (a'≤x∧y<b')→g x≤g y
 lb:0<a'→∀ x,a'≤x→x<b'→g (a' - 1)≤g x
section
variable {f g g':Nat→Int} {a b a' b':Nat}
theorem PQ.swap (h:PQ f g a b a' b') (s:Sw a' b' g g'):PQ f g' a b a' b':=by
 refine ⟨h.ha,h.hab,h.hb,h.sw.trans (s.mono h.ha h.hb),fun x y hx hxy hy hn=>?_,fun h0 x hx hxb=>?_⟩
 ·by_cases ix:a'≤x∧x<b'
  ·obtain ⟨x2,h1,h2,h3⟩:=s.mem x ix.1 ix.2;rw [h3,s.out y (.inr (by omega))];exact h.out x2 y (Nat.le_trans h.ha h1) (by omega) hy (by omega)
  ·rw [s.out x (by omega)]
   by_cases iy:a'≤y∧y<b'
   ·obtain ⟨y2,h1,h2,h3⟩:=s.mem y iy.1 iy.2;rw [h3];exact h.out x y2 hx (by omega) (Nat.lt_of_lt_of_le h2 h.hb) (by omega)
   ·rw [s.out y (by omega)];exact h.out x y hx hxy hy hn
 ·obtain ⟨x2,h1,h2,h3⟩:=s.mem x hx hxb;rw [h3,s.out (a' - 1) (.inl (by omega))];exact h.lb h0 x2 h1 h2
theorem PQ.done (h:PQ f g a b a' b') (s:JF g a' b'):JF g a b:=fun x y hx hxy hy=>by
 by_cases hn:a'≤x∧y<b'
 ·exact s x y hn.1 hxy hn.2
 ·exact h.out x y hx hxy hy hn
theorem PQ.eq {i:Nat} (h:PQ f g a b a' b') (h0:0<a') (hle:g a'≤g (a' - 1)) (hi:a'<i) (hi2:i≤b') (h1:∀ x,a'≤x→x<i→g x≤g a') (h2:∀ y,i≤y→y<b'→g a'<g y):PQ f g a b i b':=by
 refine ⟨by have:=h.ha; omega,hi2,h.hb,h.sw,fun x y hx hxy hy hn=>?_,fun _ x hx hxb=>?_⟩
 ·by_cases hin:a'≤x∧y<b'
  ·have hxi:x<i:=by omega
   have hx1:=h1 x hin.1 hxi
   rcases Nat.lt_or_ge y i with h3 | h3
   ·have:=h.lb h0 y (by omega) hin.2;omega
   ·have:=h2 y h3 hin.2;omega
  ·exact h.out x y hx hxy hy hin
 ·have e1:=h1 (i - 1) (by omega) (by omega);have e2:=h2 x hx hxb;omega
theorem PartU.sw {mid lo hi:Nat} (p:PartU g a' mid b') (s:Sw lo hi g g') (h:(a'≤lo∧hi≤mid)∨(mid<lo∧hi≤b')):PartU g' a' mid b':=by
 have hm:g' mid=g mid:=s.out mid (by omega);refine ⟨fun x hx hxm=>?_,fun y hy hyb=>?_⟩
 ·rw [hm]
  by_cases ix:lo≤x∧x<hi
  ·obtain ⟨x2,h1,h2,h3⟩:=s.mem x ix.1 ix.2;rw [h3]; exact p.le x2 (by omega) (by omega)
  ·rw [s.out x (by omega)]; exact p.le x hx hxm
 ·rw [hm]
  by_cases iy:lo≤y∧y<hi
  ·obtain ⟨y2,h1,h2,h3⟩:=s.mem y iy.1 iy.2;rw [h3]; exact p.ge y2 (by omega) (by omega)
  ·rw [s.out y (by omega)]; exact p.ge y hy hyb
theorem PQ.right {mid:Nat} (h:PQ f g a b a' b') (hm1:a'≤mid) (hm2:mid<b') (p:PartU g a' mid b') (s:JF g a' mid):PQ f g a b (mid+1) b':=by
 refine ⟨by have:=h.ha; omega,by omega,h.hb,h.sw,fun x y hx hxy hy hn=>?_,fun _ x hx hxb=>p.ge x (by omega) hxb⟩
 by_cases hin:a'≤x∧y<b'
 ·rcases Nat.lt_or_ge y mid with h1 | h1
  ·exact s x y hin.1 hxy h1
  ·have hxm:x≤mid:=by omega
   have e1:g x≤g mid:=by
    rcases Nat.lt_or_ge x mid with h2 | h2
    ·exact p.le x hin.1 h2
    ·rw [show x=mid by omega]; exact Int.le_refl _
   rcases Nat.lt_or_ge mid y with h2 | h2
   ·exact Int.le_trans e1 (p.ge y h2 hin.2)
   ·rw [show y=mid by omega]; exact e1
 ·exact h.out x y hx hxy hy hin
theorem PQ.left {mid:Nat} (h:PQ f g a b a' b') (hm1:a'≤mid) (hm2:mid<b') (p:PartU g a' mid b') (s:JF g (mid+1) b'):PQ f g a b a' mid:=by
 refine ⟨h.ha,hm1,by have:=h.hb; omega,h.sw,fun x y hx hxy hy hn=>?_,fun h0 x hx hxb=>h.lb h0 x hx (by omega)⟩
 by_cases hin:a'≤x∧y<b'
 ·rcases Nat.lt_or_ge mid x with h1 | h1
  ·exact s x y h1 hxy hin.2
  ·have hym:mid≤y:=by omega
   have e1:g x≤g mid:=by
    rcases Nat.lt_or_ge x mid with h2 | h2
    ·exact p.le x hin.1 h2
    ·rw [show x=mid by omega]; exact Int.le_refl _
   rcases Nat.lt_or_ge mid y with h2 | h2
   ·exact Int.le_trans e1 (p.ge y h2 hin.2)
   ·rw [show y=mid by omega]; exact e1
 ·exact h.out x y hx hxy hy hin
end
structure QSt where
 a:Nat
 b:Nat
 lim:Nat
 t8:Bool
 t9:Bool
 g:Nat→Int
set_option maxRecDepth 20000 in
set_option maxHeartbeats 8000000 in
theorem Ajv {q n c m:Nat} (hn:n≤m) (hm:n≤1000000000):∀ (Z:Nat) {w:World} {f:Nat→Int} {a b lim:Nat},b - a<Z→w.heap[q]? = some (Bl 28 (CH f m))→a≤b→b≤n→lim≤1000→(0<a→∀ x,a≤x→x<b→f (a - 1)≤f x) →
  Ret Tryz.prog 204 #[.slice (some ⟨q,0,none⟩) n c,.int .i64 (a:Int),.int .i64 (b:Int),.int .i64 (lim:Int)] w fun v w'=>v = .tuple #[]∧∃ g,Sw a b f g∧JF g a b∧Ctx w [q] w' [(q,Bl 28 (CH g m))]:=by
 intro Z
 induction Z with
 | zero=>intro w f a b lim h; omega
 | succ Z ih =>
 intro w f a b lim hZ hd hab hb hlim hLB;obtain ⟨w0,rfl⟩:∃ w0,w0=w:=⟨_,rfl⟩;have H:=Ctx.start1 hd;refine Az (fn:=Tryz.f204) Tryz.func204 U [.slice (some ⟨q,0,none⟩) n c,.int .i64 (a:Int),.int .i64 (b:Int),.int .i64 (lim:Int)] U (by kernel_rfl) ?_;refine Ae (Ai U (Ab (Aa (Ae (Ai U (Ab (Aa (A0 (Bv 21778071482940061661655974875633165532942 (α:=QSt) (fun t=>[(1,.int .i64 (t.a:Int)),(2,.int .i64 (t.b:Int)),(3,.int .i64 (t.lim:Int)),(8,.bool t.t8),(9,.bool t.t9)]) (fun t w'=>t.lim≤1000∧PQ f t.g a b t.a t.b∧Ctx w0 [q] w' [(q,Bl 28 (CH t.g m))]) (fun t=>t.b - t.a) ⟨a,b,lim,true,true,f⟩ U ?_ ?_ ?_)))))))))
 ·exact ⟨rfl,rfl,rfl,rfl,rfl,trivial⟩
 ·exact ⟨hlim,⟨Nat.le_refl _,hab,Nat.le_refl _,.refl _,fun x y h1 h2 h3 h4=>absurd ⟨h1,h3⟩ h4,hLB⟩,H⟩
 ·rintro ⟨a',b',lim,t8,t9,g⟩ j0 w ⟨hlim,P,H⟩; dsimp only at hlim P H; dsimp only;have hP1:=P.ha;have hP2:=P.hab;have hP3:=P.hb;refine A0 (Ae (Ad U (Ad U (Bp U U ?_))));refine Af U (Ab (Aa (Au (Ae (Ad U (M8 U U U (Ab (Aa (Ao _ U ?_ ?_)))))))))
  ·intro h1;replace h1:=AM h1;refine Ae (Ay U (Ad U (Ad U (Al Zg (Su (a:=a') (b:=b') (H.get at0) hP2 hn hm) U ?_))));rintro rv w ⟨rfl,g2,s2,o2,H2⟩;replace H:=Ctx.back (L1:=[_]) (L2:=[]) H H2;refine Ab (Aa (A5 (Aq (AB (Aq (AB (FM U U ?_)))))));exact ⟨rfl,g2,(P.swap s2).sw,(P.swap s2).done o2,H⟩
  ·intro h1;replace h1:=AN h1;refine Ap (Aa (Au (Ae (Ad U (Ct U U (Ab (Aa (Ao _ U ?_ ?_))))))))
   ·intro h2;replace h2:=AM h2;refine Ae (Ay U (Ad U (Ad U (Al Ah4 (TR (a:=a') (b:=b') (H.get at0) hn hm) U ?_))));rintro rv w ⟨rfl,g2,s2,o2,H2⟩;replace H:=Ctx.back (L1:=[_]) (L2:=[]) H H2;refine Ab (Aa (A5 (Aq (AB (Aq (AB (FM U U ?_)))))));exact ⟨rfl,g2,(P.swap s2).sw,(P.swap s2).done o2,H⟩
   ·intro h2;replace h2:=AN h2;refine Ap (Aa (Au (Ae (A7 U (BF U (Ab (Aa (Ey 4329327034376 (α:=Nat × (Nat→Int)) (fun t=>[(3,.int .i64 (t.1:Int))]) (fun t w'=>t.1≤1000∧PQ f t.2 a b a' b'∧Ctx w0 [q] w' [(q,Bl 28 (CH t.2 m))]) U ?_ ?_))))))))
    ·skip
     refine Ao _ U ?_ ?_
     ·intro h3;replace h3:=BG h3;refine Ae (Ay U (Ad U (Ad U (Al Ah5 (Aag (a:=a') (b:=b') (H.get at0) hn hm) U ?_))));rintro rv w ⟨rfl,g2,s2,H2⟩;replace H:=Ctx.back (L1:=[_]) (L2:=[]) H H2;refine Ab (Aa (Ax (Ad U (Bp U U ?_))));refine Af U (Ab (Aa ?_));exact ⟨(lim - 1,g2),rfl,⟨congrArg (Value.int .i64) (by dsimp only; omega),trivial⟩,by dsimp only; omega,P.swap s2,H⟩
     ·intro h3;replace h3:=BH h3;refine Ap (Aa ?_);exact ⟨(lim,g),rfl,⟨rfl,trivial⟩,hlim,P,H⟩
    ·rintro ⟨lim,g⟩ j1 w ⟨hlim,P,H⟩; dsimp only at hlim P H; dsimp only;refine Ae (Ay U (Ad U (Ad U (Al Ah6 (Aae (a:=a') (b:=b') (H.get at0) hn hm) U ?_))));rintro rv w ⟨p,hint,hp1,hp2,rfl,hx46⟩;replace H:=H.call hx46;refine CA U (AS U U (AS U U (Af U (Af U (Ab (Aa (Au (Ae (Ad U (Ct U U ?_))))))))));refine Ab (Aa (Ey 2303591209400014848 (α:=Nat × Int × (Nat→Int)) (fun t=>[(11,.int .i64 (t.1:Int)),(12,.int .i64 t.2.1)]) (fun t w'=>a'≤t.1∧t.1<b'∧PQ f t.2.2 a b a' b'∧Ctx w0 [q] w' [(q,Bl 28 (CH t.2.2 m))]) U ?_ ?_))
     ·skip
      refine Ao _ U ?_ ?_
      ·intro h4;replace h4:=AM h4;refine Ae (Ay U (Ad U (Ad U (Al Ah7 (V1 (a:=a') (b:=b') (H.get at0) hn hm) U ?_))));rintro rv w ⟨rfl,g2,s2,H2⟩;replace H:=Ctx.back (L1:=[_]) (L2:=[]) H H2;refine Ab (Aa (Ae (Ad U (Bp U U ?_))));refine Ad U (Ad U (Bp U U ?_));refine Bp U U ?_;refine Af U (Ab (Aa (Ax (Af U (Ab (Aa ?_))))));exact ⟨(b' - 1 - (p - a'),1,g2),rfl,⟨congrArg (Value.int .i64) (by dsimp only; omega),rfl,trivial⟩,by dsimp only; omega,by dsimp only; omega,P.swap s2,H⟩
      ·intro h4;replace h4:=AN h4;refine Ap (Aa ?_);exact ⟨(p,hint,g),rfl,⟨rfl,rfl,trivial⟩,hp1,hp2,P,H⟩
     ·rintro ⟨p,hint,g⟩ j2 w ⟨hp1,hp2,P,H⟩; dsimp only at hp1 hp2 P H; dsimp only;refine Au (DR 587989967349491957760 (α:=Bool) (fun t=>[(68,.bool t)]) (fun _ w'=>Ctx w0 [q] w' [(q,Bl 28 (CH g m))]) U ?_ ?_)
      ·skip
       refine Ax (A7 U (A7 U (AO 62 U ?_ ?_)))
       ·intro h1;refine A7 U (AF U (.bool _) U (A7 U (AO 65 U ?_ ?_)))
        ·intro h2;refine Ad U (Ct U U (AF U (.bool _) U (Ab (Aa ?_))));exact ⟨_,rfl,⟨rfl,trivial⟩,H⟩
        ·intro h3;refine Ag U (Ag U (AG U (.bool _) U (Ab (Aa ?_))));exact ⟨_,rfl,⟨rfl,trivial⟩,H⟩
       ·intro h4;refine Ag U (AG U (.bool _) U (A7 U (Ag U (Ag U (AG U (.bool _) U (Ab (Aa ?_)))))));exact ⟨_,rfl,⟨rfl,trivial⟩,H⟩
      ·rintro t68 j3 w H;refine Ey 8854437155380584775680 (α:=Nat→Int) (fun _=>[]) (fun g w'=>PQ f g a b a' b'∧Ctx w0 [q] w' [(q,Bl 28 (CH g m))]) U ?_ ?_
       ·skip
        refine Ao _ U ?_ ?_
        ·intro h5;refine Ae (Ay U (Ad U (Ad U (Al Ah8 (V2 (a:=a') (b:=b') (H.get at0) hn hm P.lb) U ?_))));rintro rv w ⟨t72,g2,rfl,s2,o2,H2⟩;replace H:=Ctx.back (L1:=[_]) (L2:=[]) H H2;refine Ab (Aa (Ao _ U ?_ ?_))
         ·intro h6;refine A5 (Aq (AB (Aq (AB (FM U U ?_)))));exact ⟨rfl,g2,(P.swap s2).sw,(P.swap s2).done (o2 h6),H⟩
         ·intro h6;refine Ap (Aa ?_);exact ⟨g2,rfl,trivial,P.swap s2,H⟩
        ·intro h5;refine Ap (Aa ?_);exact ⟨g,rfl,trivial,P,H⟩
       ·rintro g j4 w ⟨P,H⟩;have hP1:=P.ha;have hP3:=P.hb;have e1:((a':Int) - 1).toNat=a' - 1:=by omega
        refine Au (DR 309475565088379329434353664 (α:=Unit) (fun _=>[(87,.bool (decide (0<a'∧¬ g (a' - 1)<g p)))]) (fun _ w'=>Ctx w0 [q] w' [(q,Bl 28 (CH g m))]) U ?_ ?_)
        ·skip
         refine FN 12 Bq (by kernel_rfl) U U ?_;refine AY U (Qw U U U (CC U (D3 75 U ?_ ?_)))
         ·intro h5;replace h5:=AM h5;refine Ch U (AY U (Ek U U ?_));refine Bh Bt Bo U U ?_;refine BR B1 U (by rintro _ rfl; exact ((C2 (H.drew.get at0)))) ?_;refine Ch U (AY U (Bh Bt Bo U U ?_));refine BR B1 U (by rintro _ rfl; exact ((C2 (H.drew.get at0)))) ?_;refine BQ ?_;replace H:=H.drew;refine Al Gf (Fi _ _ _) U ?_;rintro v w ⟨rfl,rfl⟩;rw [e1,Int.toNat_natCast];refine BF U (AF U (.bool _) U (Ab (Aa ?_)));exact ⟨(),rfl,⟨congrArg Value.bool (by clear P ih hLB; rw [Bool.eq_iff_iff]; simp_all; try omega),trivial⟩,H⟩
         ·intro h6;replace h6:=AN h6;refine A1 U (A1 U (A1 U (A1 U (A1 U (A1 U (A1 U (A1 U (A1 U (BQ ?_)))))))));replace H:=H.drew;refine Ag U (Ag U (AG U (.bool _) U (Ab (Aa ?_))));exact ⟨(),rfl,⟨congrArg Value.bool (by clear P ih hLB; rw [Bool.eq_iff_iff]; simp_all; try omega),trivial⟩,H⟩
        ·rintro - j5 w H;refine Ao _ U ?_ ?_
         ·intro h7;have h7:=of_decide_eq_true h7;refine Ae (Ay U (Ad U (Ad U (Ad U (Al Ah9 (XG (a:=a') (b:=b') (p:=p) (H.get at0) hn hm ⟨hp1,hp2⟩) U ?_)))));rintro rv w ⟨i,g2,rfl,s2,hi1,hi2,hga,o1,o2,H2⟩;replace H:=Ctx.back (L1:=[_]) (L2:=[]) H H2;refine Af U (Ab (Aa (Ae (Ad U (Af U (Ab (Aa (Br (An (AK (Aa ?_)))))))))));have P2:=P.swap s2;have hout:=s2.out (a' - 1) (.inl (by omega));exact ⟨⟨i,b',lim,t8,t9,g2⟩,rfl,⟨rfl,rfl,rfl,rfl,rfl,trivial⟩,⟨hlim,P2.eq h7.1 (by rw [hga,hout]; omega) hi1 hi2 o1 o2,H⟩,by dsimp only; omega⟩
         ·intro h7;refine Ap (Aa (Ae (Ay U (Ad U (Ad U (Ad U (Al Aia (Sv (a:=a') (b:=b') (p:=p) (H.get at0) hn hm ⟨hp1,hp2⟩) U ?_)))))));rintro rv w ⟨mid,t,g2,rfl,s2,hm1,hm2,PP,H2⟩;replace H:=Ctx.back (L1:=[_]) (L2:=[]) H H2;refine CA U (AS U U (AS U U (Af U (Ai U (Ab (Aa ?_))))));have P2:=P.swap s2;refine Ae (A7 U (Ai U (Ab (Aa (Ae (Ad U (Ad U (Bp U U ?_))))))));refine Ad U (Ad U (Bp U U ?_));refine Af U (Af U (Ab (Aa (Ae (Ad U (JL U U (show _≤(9223372036854775807:Int) by omega) ?_))))));refine Af U (Ab (Aa (Ae (Ad U (Ad U (Bj U U (Ab (Aa (Ao _ U ?_ ?_)))))))))
          ·intro h8;replace h8:=AM h8;refine Ae (Ad U (Ad U (C9 U U (Ai U (Ab (Aa (Ae (Ay U (Ad U (Ad U ?_))))))))));refine Ad U (Al RY (ih (a:=a') (b:=mid) (lim:=lim) (f:=g2) (by omega) (H.get at0) hm1 (by omega) hlim (fun h0 x hx hxb=>P2.lb h0 x hx (by omega))) U ?_);rintro rv w ⟨rfl,g3,s3,o3,H2⟩;replace H:=Ctx.back (L1:=[_]) (L2:=[]) H H2;refine Ab (Aa (Ax (Ad U (Aw U U ?_))));refine Af U (Ab (A6 (Aa ?_)));have P3:=P2.swap (s3.mono (Nat.le_refl _) (by omega));exact ⟨⟨mid+1,b',lim,_,t,g3⟩,rfl,⟨rfl,rfl,rfl,rfl,rfl,trivial⟩,⟨hlim,P3.right hm1 hm2 (PartU.sw PP s3 (.inl ⟨Nat.le_refl _,Nat.le_refl _⟩)) o3,H⟩,by dsimp only; omega⟩
          ·intro h8;replace h8:=AN h8;refine Ae (Ad U (Ad U (C9 U U (Ai U (Ab (Aa (Ae (Ay U (Ad U (Aw U U ?_))))))))));rw [show (mid:Int)+1=((mid+1:Nat):Int) by omega];refine Ad U (Ad U (Al RY (ih (a:=mid+1) (b:=b') (lim:=lim) (f:=g2) (by omega) (H.get at0) (by omega) (by omega) hlim (fun _ x hx hxb=>PP.ge x (by omega) hxb)) U ?_));rintro rv w ⟨rfl,g3,s3,o3,H2⟩;replace H:=Ctx.back (L1:=[_]) (L2:=[]) H H2;refine Ab (Aa (Ax (Ad U (Af U (Ab (A6 (Aa ?_)))))));have P3:=P2.swap (s3.mono (by omega) (Nat.le_refl _));have P4:=P3.left hm1 hm2 (PartU.sw PP s3 (.inr ⟨by omega,Nat.le_refl _⟩)) o3;exact ⟨⟨a',mid,lim,_,t,g3⟩,rfl,⟨rfl,rfl,rfl,rfl,rfl,trivial⟩,⟨hlim,P4,H⟩,by show mid - a'<b' - a'; omega⟩
set_option maxRecDepth 20000 in
theorem Aah {q n c m:Nat} {w:World} {f:Nat→Int} (hd:w.heap[q]? = some (Bl 28 (CH f m))) (hn:n≤m) (hm:n≤1000000000) :
  Ret Tryz.prog 162 #[.slice (some ⟨q,0,none⟩) n c] w fun v w'=>v = .tuple #[]∧∃ g,(tab g n).Perm (tab f n)∧JF g 0 n∧Ctx w [q] w' [(q,Bl 28 (CH g m))]:=by
 obtain ⟨w0,rfl⟩:∃ w0,w0=w:=⟨_,rfl⟩;refine Az (fn:=Tryz.f162) Tryz.func162 U [.slice (some ⟨q,0,none⟩) n c] U (by kernel_rfl) ?_;refine Ae (Ay U (Be Bt U (Af U (Ab (Aa (Ax (Ay U (Ad U (Ad U (ED U Se Sd ?_))))))))));refine Al Vf (V3 n _) U ?_;rintro v w ⟨r,rfl,h1,h2,h3,rfl⟩;refine Al RY (Ajv hn hm (n+1) (a:=0) (b:=n) (lim:=r) (by omega) hd (Nat.zero_le _) (Nat.le_refl _) (by omega) (fun h=>absurd h (Nat.lt_irrefl _))) U ?_;rintro rv w ⟨rfl,g,s,o,H⟩;refine Ab (CU U U ?_);exact ⟨rfl,g,s.perm (Nat.le_refl _),o,H⟩
theorem V4 (c:Nat) (w:World):Ret Tryz.prog 162 #[.slice none 0 c] w fun v w'=>v = .tuple #[]∧w=w':=by
 have ins:∀ w,Ret Tryz.prog 230 #[.slice none 0 c,.int .i64 0,.int .i64 0] w fun v w'=>v = .tuple #[]∧w=w':=fun w=>by
  refine Az (fn:=Tryz.f230) Tryz.func230 U [.slice none 0 c,.int .i64 0,.int .i64 0] U (by kernel_rfl) ?_;refine Ae (Ad U (Aw U U ?_));refine Af U (Ab (Aa (A0 (Bv 562949953420480 (α:=Unit) (fun _=>[(6,.int .i64 1)]) (fun _ w'=>w=w') (fun _=>0) () U ?_ ?_ ?_))))
  ·exact ⟨rfl,trivial⟩
  ·rfl
  ·rintro - j0 w rfl;refine Au (Ae (Ad U (Ad U (Bj U U (Ab (Aa (Ao _ U ?_ ?_)))))))
   ·intro h1;replace h1:=AM h1;omega
   ·intro h1;replace h1:=AN h1;refine Br (An (An (AK (CU U U ?_))));exact ⟨rfl,rfl⟩
 have pdq:∀ (r:Nat) (w:World),Ret Tryz.prog 204 #[.slice none 0 c,.int .i64 0,.int .i64 0,.int .i64 (r:Int)] w fun v w'=>v = .tuple #[]∧w=w':=fun r w=>by
  refine Az (fn:=Tryz.f204) Tryz.func204 U [.slice none 0 c,.int .i64 0,.int .i64 0,.int .i64 (r:Int)] U (by kernel_rfl) ?_;refine Ae (Ai U (Ab (Aa (Ae (Ai U (Ab (Aa (A0 (Bv 21778071482940061661655974875633165532942 (α:=Unit) (fun _=>[(1,.int .i64 0),(2,.int .i64 0),(3,.int .i64 (r:Int)),(8,.bool true),(9,.bool true)]) (fun _ w'=>w=w') (fun _=>0) () U ?_ ?_ ?_)))))))))
  ·exact ⟨rfl,rfl,rfl,rfl,rfl,trivial⟩
  ·rfl
  ·rintro - j0 w rfl;refine A0 (Ae (Ad U (Ad U (Bp U U ?_))));refine Af U (Ab (Aa (Au (Ae (Ad U (M8 U U U (Ab (Aa (Ao _ U ?_ ?_)))))))))
   ·intro h1;replace h1:=AM h1;refine Ae (Ay U (Ad U (Ad U (Al Zg (ins _) U ?_))));rintro v w ⟨rfl,rfl⟩;refine Ab (Aa (A5 (Aq (AB (Aq (AB (FM U U ?_)))))));exact ⟨rfl,rfl⟩
   ·intro h1;replace h1:=AN h1;omega
 refine Az (fn:=Tryz.f162) Tryz.func162 U [.slice none 0 c] U (by kernel_rfl) ?_;refine Ae (Ay U (Be Bt U (Af U (Ab (Aa (Ax (Ay U (Ad U (Ad U (ED U Se Sd ?_))))))))));refine Al Vf (V3 0 _) U ?_;rintro v w ⟨r,rfl,h1,h2,h3,rfl⟩;refine Al RY (pdq r _) U ?_;rintro v w ⟨rfl,rfl⟩;refine Ab (CU U U ?_);exact ⟨rfl,rfl⟩
end Go.Proofs.YtdagmpmdcgedcaaGreat
namespace Go.Proofs.YtdagmpmdcgedcaaGreat
open Go.GV
attribute [local irreducible] AD W Wq Wt
def Df (x:Int):Bool:=decide (0≤x) && decide (x≤4503599627370496)
theorem Lq (x:Int) (w:World):Ret Tryz.prog 130 #[.int .i64 x] w fun v w'=>v = .bool (Df x)∧w=w':=by
 obtain ⟨w0,rfl⟩:∃ w0,w0=w:=⟨_,rfl⟩;refine Az (fn:=Tryz.f130) Tryz.func130 U [.int .i64 x] U (by kernel_rfl) ?_;refine Ae (Ai U (Ab (Aa (Ae (Ad U (C9 U U (A7 U (AO 5 U ?_ ?_))))))))
 ·intro h1;replace h1:=AM h1;refine Ad U (M8 U U U (AF U (.bool _) U (Ai U (Ab (Aa (A5 (A9 (v:=(.bool _)) U U U ?_)))))));exact ⟨congrArg Value.bool (by unfold Df; rw [Bool.eq_iff_iff]; simp_all; try omega),rfl⟩
 ·intro h2;replace h2:=AN h2;refine Ag U (Ag U (AG U (.bool _) U (Ai U (Ab (Aa (A5 (A9 (v:=(.bool _)) U U U ?_)))))));exact ⟨congrArg Value.bool (by unfold Df; rw [Bool.eq_iff_iff]; simp_all; try omega),rfl⟩
set_option maxRecDepth 20000 in
theorem QJ (a:Option Addr) (n c:Nat) (xs:List Int) (w:World) (R:Rd w a 1 I1 xs) (hn:xs.length=n) (hn2:n≤1000000) :
  Ret Tryz.prog 191 #[.slice a n c] w fun v w'=>v = .bool (xs.all Df)∧w=w':=by
 subst hn;obtain ⟨w0,rfl⟩:∃ w0,w0=w:=⟨_,rfl⟩;refine Az (fn:=Tryz.f191) Tryz.func191 U [.slice a xs.length c] U (by kernel_rfl) ?_;refine Ae (Ai U (Ab (Aa (Au (Ae (Ay U (Be AU U (Ad U (Ab (Aa (A0 ?_)))))))))));refine Bv 32660 (α:=Nat) (fun i=>[(7,.int .i64 (i:Int))]) (fun i w'=>i≤xs.length∧w0=w'∧∀ (k:Nat) (x:Int),k<i→xs[k]? = some x→Df x=true) (fun i=>xs.length - i) 0 U ?_ ?_ ?_
 ·exact ⟨rfl,trivial⟩
 ·exact ⟨Nat.zero_le _,rfl,fun k x h=>absurd h (Nat.not_lt_zero _)⟩
 ·rintro i j w ⟨hi,rfl,hb⟩;refine Ae (Bj U U (Ab (Aa (Au (Ao _ U ?_ ?_)))))
  ·intro h1;replace h1:=AM h1;obtain ⟨x,hx⟩:=A8 (l:=xs) (i:=i);refine Ap (Aa (Au (A0 (Ae (AX R AU Bz U U (by rfl) ?_)))));refine AV Bs U ((R.fld hx U (j:=0) U)) ?_;refine Af U (Ab (Aa (Ae (Ad U (Al Li (Lq x _) U ?_)))));rintro v w ⟨rfl,rfl⟩;refine BF U (Ab (Aa (Ao _ U ?_ ?_)))
   ·intro h2;replace h2:=BG h2;refine Ae (Ai U (Ab (Aa (A5 (AB (Aq (Aq (AB (Aq (A9 (v:=(.bool _)) U U U ?_))))))))));refine ⟨congrArg Value.bool ?_,rfl⟩;exact (E6 hx (show Df x=false by simpa using h2)).symm
   ·intro h2;replace h2:=BH h2;refine Ap (A6 (Aa (Ax (Aw U U ?_))));refine Ad U (Ab (Aa ?_));refine ⟨i+1,rfl,⟨rfl,trivial⟩,⟨by omega,rfl,fun k y hk hy=>?_⟩,by omega⟩
    rcases Nat.lt_or_ge k i with h7 | h7
    ·exact hb k y h7 hy
    ·obtain rfl:k=i:=by omega
     rw [hx] at hy;cases hy
     simpa using h2
  ·intro h1;replace h1:=AN h1;refine Br (An (An (AK (Aa (Ae (Ai U (Ab (Aa (A5 (A9 (v:=(.bool _)) U U U ?_))))))))));exact ⟨congrArg Value.bool (FG fun k x hk hx=>hb k x (by omega) hx).symm,rfl⟩
def BN (xs:List Int):Int:=xs.foldl (·+·) 0
theorem XH (xs:List Int):∀ a:Int,xs.foldl (·+·) a=a+BN xs:=by
 induction xs with
 | nil=>intro a; show a=a+0; omega
 | cons x xs ih =>
  intro a;show xs.foldl (·+·) (a+x)=a+xs.foldl (·+·) (0+x);rw [ih,ih (0+x)]; omega
theorem IY {xs:List Int} {i:Nat} {x:Int} (h:xs[i]? = some x):BN (xs.take (i+1))=BN (xs.take i)+x:=by
 rw [List.take_add_one,h];unfold BN;rw [List.foldl_append]; rfl
theorem BO (x:Int) (xs:List Int):BN (x::xs)=x+BN xs:=by
 show xs.foldl (·+·) (0+x)=_;rw [XH]; omega
theorem EF (xs ys:List Int):BN (xs++ys)=BN xs+BN ys:=by
 induction xs with
 | nil=>show BN ys=0+_; omega
 | cons x xs ih=>rw [List.cons_append,BO,BO,ih]; omega
theorem XI {xs ys:List Int} (h:xs.Perm ys):BN xs=BN ys:=by
 induction h with
 | nil=>rfl
 | cons x _ ih=>rw [BO,BO,ih]
 | swap x y l=>rw [BO,BO,BO,BO]; omega
 | trans _ _ h1 h2=>exact h1.trans h2
theorem Ft {xs:List Int} (h:∀ x∈xs,0≤x):0≤BN xs:=by
 induction xs with
 | nil=>exact Int.le_refl _
 | cons x xs ih =>
  rw [BO];have:=h x (List.mem_cons_self ..);have:=ih fun y hy=>h y (List.mem_cons_of_mem _ hy);omega
theorem Pp (f:Nat→Int) (n:Nat):BN (tab f n)=B7 f n:=by
 induction n with
 | zero=>rfl
 | succ n ih =>
  unfold tab at ih ⊢;rw [List.range_succ,List.map_append,EF,ih];show _+(0+f n)=B7 f n+f n;omega
def EX (xs:List Int):Int × Int:=if xs.all Df=false then (0,1) else if BN xs≤4503599627370496 then (BN xs,0) else (0,13)
theorem C4 {x:Int}:Df x=true↔0≤x∧x≤4503599627370496:=by unfold Df; simp
set_option maxRecDepth 20000 in
set_option maxHeartbeats 2000000 in
theorem Mb (a:Option Addr) (n c:Nat) (xs:List Int) (w:World) (R:Rd w a 1 I1 xs) (hn:xs.length=n)  (hn2:n≤1000000:=by omega):
  Ret Tryz.prog 131 #[.slice a n c] w fun v w'=>v = .tuple #[.int .i64 (EX xs).1,.int .i64 (EX xs).2]∧w=w':=by
 subst hn;obtain ⟨w0,rfl⟩:∃ w0,w0=w:=⟨_,rfl⟩;refine Az (fn:=Tryz.f131) Tryz.func131 U [.slice a xs.length c] U (by kernel_rfl) ?_;refine Ae (Af U (Af U (Ab (Aa (Au (Ae (Ay U (Al Zc (QJ a xs.length c xs _ R U hn2) U ?_))))))));rintro v w ⟨rfl,rfl⟩;refine BF U (Ab (Aa (Ao _ U ?_ ?_)))
 ·intro h1;replace h1:=BG h1;refine Ae (Af U (Af U (Ab (Aa (A5 (Aq (Ca (v1:=(.int _ _)) (v2:=(.int _ _)) U U U U ?_)))))));have h1':xs.all Df=false:=by simpa using h1
  exact ⟨by unfold EX; rw [if_pos h1'],rfl⟩
 ·intro h1;replace h1:=BH h1;have h1':xs.all Df=true:=by simpa using h1
  have hall:∀ (k:Nat) (x:Int),xs[k]? = some x→0≤x∧x≤4503599627370496:=fun k x hx=>C4.1 (List.all_eq_true.1 h1' x (List.mem_of_getElem? hx));have hpos:∀ x∈xs,0≤x:=fun x hx=>(C4.1 (List.all_eq_true.1 h1' x hx)).1;refine Ap (Aa (Ae (Af U (Ab (Aa (Au (Ae (Ay U (Be AU U (Ad U (Ab (Aa ?_))))))))))));refine A0 (Bv 8384604 (α:=Nat) (fun i=>[(4,.int .i64 (BN (xs.take i))),(12,.int .i64 (i:Int))]) (fun i w'=>i≤xs.length∧w0=w'∧BN (xs.take i)≤4503599627370496) (fun i=>xs.length - i) 0 U ?_ ?_ ?_)
  ·exact ⟨rfl,rfl,trivial⟩
  ·exact ⟨Nat.zero_le _,rfl,by show (0:Int)≤_; omega⟩
  ·rintro i j w ⟨hi,rfl,hb⟩;have hs0:0≤BN (xs.take i):=Ft fun y hy=>hpos y (List.mem_of_mem_take hy);refine Ae (Bj U U (Ab (Aa (Au (Ao _ U ?_ ?_)))))
   ·intro h2;replace h2:=AM h2;obtain ⟨x,hx⟩:=A8 (l:=xs) (i:=i);obtain ⟨hx0,hx1⟩:=hall i x hx;have hst:=IY hx;refine Ap (Aa (Au (A0 (Ae (AX R AU Bz U U (by rfl) ?_)))));refine AV Bs U ((R.fld hx U (j:=0) U)) ?_;refine Af U (Ab (Aa (Ae (Ad U (Ad U (Aw U U ?_))))));rw [← hst];refine Af U (Ab (Aa (Ae (Ad U (Al Li (Lq (BN (xs.take (i+1))) _) U ?_)))));rintro v w ⟨rfl,rfl⟩;refine BF U (Ab (Aa (Ao _ U ?_ ?_)))
    ·intro h3;replace h3:=BG h3;refine Ae (Af U (Af U (Ab (Aa (A5 (AB (Aq (Aq (AB (Aq (Ca (v1:=(.int _ _)) (v2:=(.int _ _)) U U U U ?_)))))))))));have h4:Df (BN (xs.take (i+1)))=false:=by simpa using h3
     have h5:¬ BN (xs.take (i+1))≤4503599627370496:=fun h=>by
      rw [C4.2 ⟨by omega,h⟩] at h4; cases h4
     have h6:BN xs=BN (xs.take (i+1))+BN (xs.drop (i+1)):=by rw [← EF,List.take_append_drop]
     have h7:=Ft (xs:=xs.drop (i+1)) fun y hy=>hpos y (List.mem_of_mem_drop hy);exact ⟨by unfold EX; rw [if_neg (by rw [h1']; decide),if_neg (by omega)],rfl⟩
    ·intro h3;replace h3:=BH h3;refine Ap (A6 (Aa (Ax (Aw U U ?_))));refine Ad U (Ab (Aa ?_));have h4:Df (BN (xs.take (i+1)))=true:=by simpa using h3
     exact ⟨i+1,rfl,⟨rfl,rfl,trivial⟩,⟨by omega,rfl,(C4.1 h4).2⟩,by omega⟩
   ·intro h2;replace h2:=AN h2;refine Br (An (An (AK (Aa (Ae (Ad U (Af U (Af U (Ab (Aa (A5 (Ca (v1:=(.int _ _)) (v2:=(.int _ _)) U U U U ?_))))))))))));obtain rfl:i=xs.length:=by omega
    rw [List.take_length] at hb ⊢;exact ⟨by unfold EX; rw [if_neg (by rw [h1']; decide),if_pos hb],rfl⟩
end Go.Proofs.YtdagmpmdcgedcaaGreat
namespace Go.Proofs.YtdagmpmdcgedcaaGreat
open Go.GV
attribute [local irreducible] AD W Wq Wt
section
variable {P:Program} {r:Option Nat} {ops rest:List Oper} {Q:Exit→Env→World→Prop} {e:Env} {w:World} {dst:Option Tmp} {ty:TypeId} {pos:String} {af:Array Edge} {g:Option (Nat × Bool)}
theorem Aed {t t2:TypeId} {x y:Operand} {a b:Int} (hg:AR ⟨dst,.binOp .quo t x y t2,ty,pos,af,g⟩ ops e=true) (hx:ev e x = .int .i64 a) (hy:ev e y = .int .i64 b) (hb:0<b)
  (h:AD P r ops Q rest (put e dst (.int .i64 (a.tdiv b))) w) (h1: -9223372036854775808≤a.tdiv b:=by omega) (h2:a.tdiv b≤9223372036854775807:=by omega):AD P r ops Q (⟨dst,.binOp .quo t x y t2,ty,pos,af,g⟩::rest) e w :=
 BC hg rfl (BX hx hy (v := .int .i64 (a.tdiv b)) (by simp [binOp,Op.intDiv,show ¬ b=0 from by omega,CV (k := .i64) (n:=a.tdiv b) h1 h2])) h
end
theorem tdm (t:Int):∃ q r,t.tdiv 4503599627370496=q∧t.tmod 4503599627370496=r∧t=4503599627370496*q+r ∧ -4503599627370496<r∧r<4503599627370496∧(-9007199254740992<t→t<9007199254740992 → -1≤q∧q≤1):=by
 refine ⟨_,_,rfl,rfl,?_⟩
 rcases TC t 0 with h | h
 ·obtain ⟨s,rfl⟩:∃ s,t = -s:=⟨-t,by omega⟩;rw [Int.neg_tdiv,Int.neg_tmod,Int.tdiv_eq_ediv_of_nonneg (by omega),Int.tmod_eq_emod_of_nonneg (by omega)];exact ⟨by omega,by omega,by omega,fun h1 h2=>by omega⟩
 ·rw [Int.tdiv_eq_ediv_of_nonneg h,Int.tmod_eq_emod_of_nonneg h];exact ⟨by omega,by omega,by omega,fun h1 h2=>by omega⟩
def G1 (x:Int):Bool:=decide (-4503599627370496≤x) && decide (x≤4503599627370496)
def Iw (xs:List Int):Bool:=xs.all G1 && decide (BN xs=0)
set_option maxRecDepth 20000 in
set_option maxHeartbeats 2000000 in
theorem Aai (a:Option Addr) (n c:Nat) (xs:List Int) (w:World) (R:Rd w a 1 I1 xs) (hn:xs.length=n) (hn2:n≤1000000) :
  Ret Tryz.prog 254 #[.slice a n c] w fun v w'=>v = .bool (Iw xs)∧w=w':=by
 subst hn;obtain ⟨w0,rfl⟩:∃ w0,w0=w:=⟨_,rfl⟩;refine Az (fn:=Tryz.f254) Tryz.func254 U [.slice a xs.length c] U (by kernel_rfl) ?_;refine Ae (Ai U (Ab (Aa (Ae (Af U (Af U (Ab (Aa (Au (Ae (Ay U ?_)))))))))));refine Be AU U (Ad U (Ab (Aa (A0 (Bv 536870492 (α:=Nat × Int × Int) (fun t=>[(3,.int .i64 t.2.1),(4,.int .i64 t.2.2),(9,.int .i64 (t.1:Int))]) (fun t w'=>t.1≤xs.length∧w0=w'∧BN (xs.take t.1)=4503599627370496*t.2.1+t.2.2 ∧ -4503599627370496<t.2.2∧t.2.2<4503599627370496 ∧ -(t.1:Int)≤t.2.1∧t.2.1≤t.1∧∀ (k:Nat) (x:Int),k<t.1→xs[k]? = some x→G1 x=true) (fun t=>xs.length - t.1) (0,0,0) U ?_ ?_ ?_)))))
 ·exact ⟨rfl,rfl,rfl,trivial⟩
 ·exact ⟨Nat.zero_le _,rfl,rfl,by dsimp only; omega,by dsimp only; omega,by dsimp only; omega,by dsimp only; omega,fun k x h=>absurd h (Nat.not_lt_zero _)⟩
 ·rintro ⟨i,hh,ll⟩ j w ⟨hi,rfl,hs,hl1,hl2,hh1,hh2,hb⟩; dsimp only at hi hs hl1 hl2 hh1 hh2 hb; dsimp only;refine Ae (Bj U U (Ab (Aa (Au (Ao _ U ?_ ?_)))))
  ·intro h1;replace h1:=AM h1;obtain ⟨x,hx⟩:=A8 (l:=xs) (i:=i);refine Ap (Aa (Au (A0 (Ae (AX R AU Bz U U (by rfl) ?_)))));refine AV Bs U ((R.fld hx U (j:=0) U)) ?_;refine Af U (Ab (Aa (Au (Ae (Cb (α:=Unit) 516096 (fun _=>[(18,.bool (!G1 x))]) (fun _ w'=>w'=w0) U ?_ ?_)))))
   ·refine Ad U (Bj U U (A7 U (AO 15 U ?_ ?_)))
    ·intro h1;replace h1:=AM h1;refine Ag U (Ag U (AF U (.bool _) U (Ab ?_)));exact ⟨rfl,(),rfl,⟨congrArg Value.bool (by unfold G1; rw [Bool.eq_iff_iff]; simp_all; try omega),trivial⟩,rfl⟩
    ·intro h2;replace h2:=AN h2;refine Ad U (CZ U U (AG U (.bool _) U (Ab ?_)));exact ⟨rfl,(),rfl,⟨congrArg Value.bool (by unfold G1; rw [Bool.eq_iff_iff]; simp_all; try omega),trivial⟩,rfl⟩
   rintro - j18 w hw;subst hw;refine Ao _ U ?_ ?_
   ·intro h2;replace h2:=BG h2;refine Ae (Ai U (Ab (Aa (A5 (Aq (AB (Aq (Aq (AB (Aq (A9 (v:=(.bool _)) U U U ?_)))))))))));refine ⟨congrArg Value.bool ?_,rfl⟩;unfold Iw;rw [E6 hx (show G1 x=false by simpa using h2)]; rfl
   ·intro h2;replace h2:=BH h2;have h2':G1 x=true:=by simpa using h2
    have h3 : -4503599627370496≤x∧x≤4503599627370496:=by unfold G1 at h2'; simpa using h2'
    have hst:=IY hx;obtain ⟨q,r,hq,hr,he,hr1,hr2,hq2⟩:=tdm (ll+x);have hq3:=hq2 (by omega) (by omega);refine Ap (Aa (Ae (Ad U (Ad U (Aw U U ?_)))));refine Af U (Ab (Aa (Ae (Ad U (Ad U (Aed U U U (by decide) ?_))))));rw [hq];refine Aw U U ?_;refine Af U (Ab (Aa (Ax (Ad U (Ac5 U U U (by decide) ?_)))));rw [hr];refine Af U (Ab (A6 (Aa (Ax (Aw U U ?_)))));refine Ad U (Ab (Aa ?_));refine ⟨(i+1,hh+q,r),rfl,⟨rfl,rfl,rfl,trivial⟩,⟨by dsimp only; omega,rfl,by dsimp only; omega,hr1,hr2,by dsimp only; omega,by dsimp only; omega,fun k y hk hy=>?_⟩,by dsimp only; omega⟩
    rcases Nat.lt_or_ge k i with h7 | h7
    ·exact hb k y h7 hy
    ·obtain rfl:k=i:=by dsimp only at hk; omega
     rw [hx] at hy;cases hy;exact h2'
  ·intro h1;replace h1:=AN h1;obtain rfl:i=xs.length:=by omega
   rw [List.take_length] at hs;have hall:xs.all G1=true:=FG fun k x hk hx=>hb k x hk hx;refine Br (An (An (AK (Aa (Ae (Ad U (Ct U U (A7 U (AO 31 U ?_ ?_)))))))))
   ·intro h3;replace h3:=AM h3;refine Ad U (Ct U U (AF U (.bool _) U (Ai U (Ab (Aa (A5 (A9 (v:=(.bool _)) U U U ?_)))))));exact ⟨congrArg Value.bool (by unfold Iw; rw [hall,Bool.true_and,Bool.eq_iff_iff]; simp_all; try omega),rfl⟩
   ·intro h4;replace h4:=AN h4;refine Ag U (Ag U (AG U (.bool _) U (Ai U (Ab (Aa (A5 (A9 (v:=(.bool _)) U U U ?_)))))));exact ⟨congrArg Value.bool (by unfold Iw; rw [hall,Bool.true_and,Bool.eq_iff_iff]; simp_all; try omega),rfl⟩
def CS (xs ys:List Int):List Int:=List.zipWith (·+·) xs ys
def Dz (xs ys:List Int):Int :=
 if (decide (xs.length=ys.length) && (xs.all Df && Iw ys))=false then 1 else if (CS xs ys).all (fun x=>decide (0≤x))=false then 12 else if (CS xs ys).all Df=false then 13 else 0
theorem IZ {xs ys:List Int} {i:Nat} {x y:Int} (hx:xs[i]? = some x) (hy:ys[i]? = some y):(CS xs ys)[i]? = some (x+y):=by
 unfold CS; rw [List.getElem?_zipWith,hx,hy]
theorem V5 {xs ys:List Int} {i:Nat} {x y:Int} (hx:xs[i]? = some x) (hy:ys[i]? = some y):(CS xs ys).take (i+1)=(CS xs ys).take i++[x+y]:=by
 rw [List.take_add_one,IZ hx hy]; rfl
set_option maxRecDepth 20000 in
set_option maxHeartbeats 4000000 in
theorem XJ (a b:Option Addr) (n c m d:Nat) (xs ys:List Int) (w:World) (R:Rd w a 1 I1 xs) (hn:xs.length=n) (Ry:Rd w b 1 I1 ys) (hm:ys.length=m) (hm2:m≤1000000)  (hn2:n≤1000000:=by omega):
  Ret Tryz.prog 223 #[.slice a n c,.slice b m d] w fun v w'=>∃ v',v = .tuple #[v',.int .i64 (Dz xs ys)]∧(Dz xs ys≠0→v' = .slice none 0 0)∧(Dz xs ys=0→Fresh w w' 2 1 v' ((CS xs ys).map Dm))∧Ext [] w w':=by
 subst hn hm;obtain ⟨w0,rfl⟩:∃ w0,w0=w:=⟨_,rfl⟩;have H:=Ctx.start w0 [];refine Az (fn:=Tryz.f223) Tryz.func223 U [.slice a xs.length c,.slice b ys.length d] U (by kernel_rfl) ?_;refine Ae (A4 U (Af U (Ab (Aa (Au (Ae (Cb (α:=Unit) 33553408 (fun _=>[(24,.bool (!(decide (xs.length=ys.length) && (xs.all Df && Iw ys))))]) (fun _ w'=>w'=w0) U ?_ ?_)))))))
 ·refine Ay U (Be AU U (Ay U (Be AU U (C0 U U (A7 U (AO 15 U ?_ ?_))))))
  ·intro h1;replace h1:=C7 h1;refine Ag U (Ag U (Ag U (AF U (.bool _) U (A7 U (Ag U (Ag U (Ag U (AF U (.bool _) U (Ab ?_)))))))));exact ⟨rfl,(),rfl,⟨congrArg Value.bool (by generalize xs.all Df=A at *; generalize Iw ys=B at *; rw [Bool.eq_iff_iff]; simp_all; try omega),trivial⟩,rfl⟩
  ·intro h2;replace h2:=C8 h2;refine Ay U (Al Zc (QJ a xs.length c xs _ R U hn2) U ?_);rintro v w ⟨rfl,rfl⟩;refine BF U (AG U (.bool _) U (A7 U (AO 20 U ?_ ?_)))
   ·intro h3;replace h3:=BG h3;refine Ag U (Ag U (Ag U (AF U (.bool _) U (Ab ?_))));exact ⟨rfl,(),rfl,⟨congrArg Value.bool (by generalize xs.all Df=A at *; generalize Iw ys=B at *; rw [Bool.eq_iff_iff]; simp_all; try omega),trivial⟩,rfl⟩
   ·intro h4;replace h4:=BH h4;refine Ay U (Al Ail (Aai b ys.length d ys _ Ry U hm2) U ?_);rintro v w ⟨rfl,rfl⟩;refine BF U (AG U (.bool _) U (Ab ?_));exact ⟨rfl,(),rfl,⟨congrArg Value.bool (by generalize xs.all Df=A at *; generalize Iw ys=B at *; rw [Bool.eq_iff_iff]; simp_all; try omega),trivial⟩,rfl⟩
 rintro - j24 w hw;subst w;refine Ao _ U ?_ ?_
 ·intro h1;replace h1:=BG h1;refine Ae (A4 U (Af U (Ab (Aa (A5 (Aq (Ca (v1:=(.slice _ _ _)) (v2:=(.int _ _)) U U U U ?_)))))));have h1':Dz xs ys=1:=by unfold Dz; rw [if_pos (by simpa using h1)]
  exact ⟨_,by rw [h1'],fun _=>rfl,(fun h=>by omega),H.ext⟩
 ·intro h1;replace h1:=BH h1;have h1':(decide (xs.length=ys.length) && (xs.all Df && Iw ys))=true:=by simpa using h1
  have h1c:¬ (decide (xs.length=ys.length) && (xs.all Df && Iw ys))=false:=by rw [h1']; decide
  have hE:=h1';simp only [Bool.and_eq_true,decide_eq_true_eq,List.all_eq_true] at hE;obtain ⟨hle,hma,hev⟩:=hE
  have hsm:∀ y∈ys,-4503599627370496≤y∧y≤4503599627370496:=fun y hy=>by
   unfold Iw at hev;simp only [Bool.and_eq_true,List.all_eq_true] at hev;have:=hev.1 y hy;unfold G1 at this
   simpa using this
  have hlen:(CS xs ys).length=xs.length:=by unfold CS; rw [List.length_zipWith]; omega
  refine Ap (Aa (Ae (A4 U (Ab (Aa (Ae (Af U (Ab (Aa (Au (Ae (Ay U ?_))))))))))));refine Be AU U (Ad U (Ab (Aa (A0 (Bv 1125899772625904 (α:=LSt × Int) (fun t=>[(6,.slice t.1.a t.1.i t.1.c),(7,.int .i64 t.2),(27,.int .i64 (t.1.i:Int))]) (fun t w'=>t.1.i≤xs.length∧OS t.1.a t.1.i t.1.c 1 t.1.full (((CS xs ys).take t.1.i).map Dm)∧Ctx w0 [] w' (ent t.1.a 2 t.1.full)∧(∀ (k:Nat) (x:Int),k<t.1.i→(CS xs ys)[k]? = some x→0≤x)∧((t.2=0∧∀ (k:Nat) (x:Int),k<t.1.i→(CS xs ys)[k]? = some x→Df x=true)∨(t.2=13∧(CS xs ys).all Df=false))) (fun t=>xs.length - t.1.i) (⟨0,none,0,[]⟩,0) U ?_ ?_ ?_)))))
  ·exact ⟨rfl,rfl,rfl,trivial⟩
  ·exact ⟨Nat.zero_le _,OS.nil,H,fun k x h=>absurd h (Nat.not_lt_zero _),.inl ⟨rfl,fun k x h=>absurd h (Nat.not_lt_zero _)⟩⟩
  ·rintro ⟨⟨i,a2,c2,full⟩,ov⟩ j w ⟨hi,O,H,hp,hov⟩; dsimp only at hi O H hp hov; dsimp only;refine Ae (Bj U U (Ab (Aa (Au (Ao _ U ?_ ?_)))))
   ·intro h2;replace h2:=AM h2;obtain ⟨x,hx⟩:=A8 (l:=xs) (i:=i);obtain ⟨y,hy⟩:=A8 (l:=ys) (i:=i);have hx1:=C4.1 (hma x (List.mem_of_getElem? hx));have hy1:=hsm y (List.mem_of_getElem? hy);have hat:=IZ hx hy;have htk:=V5 hx hy;refine Ap (Aa (Au (A0 (Ae (Ad U (AX R AU Bz U U (by rfl) ?_))))));refine AV Bs U (((R.ext0 H.ext).fld hx U (j:=0) U)) ?_;refine Af U (Af U (Ab (Aa (Ae (Ad U (Ay U (Ad U (AX Ry AU Bz U U (by rfl) ?_))))))));refine AV Bs U (((Ry.ext0 H.ext).fld hy U (j:=0) U)) ?_;refine Aw U U ?_;refine Af U (Ab (Aa (Au (A0 (Ae (Ad U (Bj U U (Ai U (Ab (Aa (Ao _ U ?_ ?_)))))))))))
    ·intro h3;replace h3:=AM h3;refine Ae (A4 U (Af U (Ab (Aa (A5 (AB (Aq (AB (Aq (Aq (AB (Aq (Ca (v1:=(.slice _ _ _)) (v2:=(.int _ _)) U U U U ?_)))))))))))))
     have h4:Dz xs ys=12:=by
      unfold Dz;rw [if_neg h1c,if_pos (E6 hat (by simpa using h3))]
     exact ⟨_,by rw [h4],fun _=>rfl,(fun h=>by omega),H.ext⟩
    ·intro h3;replace h3:=AN h3
     have hp':∀ (k:Nat) (z:Int),k<i+1→(CS xs ys)[k]? = some z→0≤z:=fun k z hk hz=>by
      rcases Nat.lt_or_ge k i with h7 | h7
      ·exact hp k z h7 hz
      ·obtain rfl:k=i:=by omega
       rw [hat] at hz; cases hz; omega
     have hO:((CS xs ys).take (i+1)).map Dm=((CS xs ys).take i).map Dm++[.int .i64 (x+y)]:=by rw [htk,List.map_append]; rfl
     refine Ae (Ad U (Al Li (Lq (x+y) _) U ?_));rintro v w ⟨rfl,rfl⟩;refine BF U (Ai U (Ab (Aa (Ao _ U ?_ ?_))))
     ·intro h4;replace h4:=BG h4;have h4':Df (x+y)=false:=by simpa using h4
      refine Ax (Af U (Ab (A6 (Aa (Ax (Ay U (Ad U (Cj _ (.int _ _) AU Bz Ei U (by decide) (by decide) U U U H ?_))))))));rintro b47 w - H;refine CF (L:=[]) AU AU Bz Lh Ei U (by decide) U U H O U (by simp [Bg]) ?_;rintro a' c' full' w H O;refine A4 U (Ab (A6 (Aa (Ax (Aw U U ?_)))));refine Ad U (Ab (Aa ?_));exact ⟨(⟨i+1,a',c',full'⟩,13),rfl,⟨rfl,rfl,rfl,trivial⟩,⟨by dsimp only; omega,by dsimp only; rw [hO]; exact O,H,hp',.inr ⟨rfl,E6 hat h4'⟩⟩,by dsimp only; omega⟩
     ·intro h4;replace h4:=BH h4;have h4':Df (x+y)=true:=by simpa using h4
      refine Ap (A6 (Aa (Ax (Ay U (Ad U (Cj _ (.int _ _) AU Bz Ei U (by decide) (by decide) U U U H ?_))))));rintro b47 w - H;refine CF (L:=[]) AU AU Bz Lh Ei U (by decide) U U H O U (by simp [Bg]) ?_;rintro a' c' full' w H O;refine A4 U (Ab (A6 (Aa (Ax (Aw U U ?_)))));refine Ad U (Ab (Aa ?_));refine ⟨(⟨i+1,a',c',full'⟩,ov),rfl,⟨rfl,rfl,rfl,trivial⟩,⟨by dsimp only; omega,by dsimp only; rw [hO]; exact O,H,hp',?_⟩,by dsimp only; omega⟩
      rcases hov with ⟨h5,h6⟩ | h5
      ·refine .inl ⟨h5,fun k z hk hz=>?_⟩
       rcases Nat.lt_or_ge k i with h7 | h7
       ·exact h6 k z h7 hz
       ·obtain rfl:k=i:=by dsimp only at hk; omega
        rw [hat] at hz; cases hz; exact h4'
      ·exact .inr h5
   ·intro h2;replace h2:=AN h2;obtain rfl:i=xs.length:=by omega
    have hpa:¬ (CS xs ys).all (fun x=>decide (0≤x))=false:=by
     rw [FG fun k x hk hx=>decide_eq_true (hp k x (by omega) hx)]; decide
    rw [show (CS xs ys).take xs.length=CS xs ys by rw [← hlen,List.take_length]] at O;refine Br (An (An (AK (Aa (Au (Ae (Ad U (C0 U U (Ab (Aa (Ao _ U ?_ ?_)))))))))))
    ·intro h3;replace h3:=C7 h3
     rcases hov with ⟨h5,-⟩ | ⟨rfl,h6⟩
     ·exact absurd h5 h3
     ·refine Ae (Ad U (A4 U (Af U (Ab (Aa (A5 (Aq (Ca (v1:=(.slice _ _ _)) (v2:=(.int _ _)) U U U U ?_))))))));have h4:Dz xs ys=13:=by unfold Dz; rw [if_neg h1c,if_neg hpa,if_pos h6]
      exact ⟨_,by rw [h4],fun _=>rfl,(fun h=>by omega),H.ext⟩
    ·intro h3;replace h3:=C8 h3;refine Ap (Aa (Ae (Ay U (A4 U (Af U (Ab (Aa (A5 (Ca (v1:=(.slice _ _ _)) (v2:=(.int _ _)) U U U U ?_)))))))))
     have h4:Dz xs ys=0:=by
      unfold Dz
      rcases hov with ⟨-,h6⟩ | ⟨h5,-⟩
      ·rw [if_neg h1c,if_neg hpa,if_neg (by rw [FG fun k x hk hx=>h6 k x (by omega) hx]; decide)]
      ·omega
     exact ⟨_,by rw [h4],(fun h=>absurd h4 h),(fun _=>Ctx.fresh (L:=[]) H O),H.ext⟩
end Go.Proofs.YtdagmpmdcgedcaaGreat
namespace Go.Proofs.YtdagmpmdcgedcaaGreat
open Go.GV
attribute [local irreducible] AD W Wq Wt
structure DueK (b2 b:Nat) (o:Obj) (w:World):Prop where
 h2:w.heap[b2]? = some (Bl 163 [.map (some b)])
 hb:w.heap[b]? = some o
def Af1 (m:List (Int × Value)) (vis:List (Int × Value)) (v:List Value) (vis':List (Int × Value)):Prop:=∃ p,vis'=vis++[p]∧v=[.int .u64 p.1]∧p∈m∧vis.length<m.length
set_option maxRecDepth 20000 in
set_option maxHeartbeats 2000000 in
theorem Aaj {b2 b:Nat} {o:Obj} {m:List (Int × Value)} (hM:Db .u64 m o):We Tryz.prog 163 #[ptr b2] [] (fun _ w=>DueK b2 b o w) ([]:List (Int × Value)) (Af1 m) (fun vis=>vis.Perm m) (fun _=>True):=by
 intro l w _ J E hJ0 hJs hEs hK hY;obtain ⟨M0,hJ0⟩:=hJ0;obtain ⟨w0,rfl⟩:∃ w0,w0=w:=⟨_,rfl⟩;have H:=Ctx.start w0 [];refine Az (fn:=Tryz.f163) Tryz.func163 U [.func (.yield l) #[] #[],.pointer (some ⟨b2,0,none⟩)] U (by kernel_rfl) ?_;have K0:=(hK _ _ _ hJ0).2;refine Ae (AV Fo U ((by rw [Aj K0.h2]; rfl)) ?_);refine Tp U F8 U H K0.hb hM ?_;rintro bi it w hV H;refine Ab (Aa (A0 ?_));have hbi:w0.heap.size≤bi:=(H.own (bi,it) (List.mem_cons_self ..)).elim (fun h=>by cases h) id;have hJ1:=hJs _ _ _ _ [] hJ0 (fun x hx=>by cases hx) H.ext
 have hM0:¬ M0 bi:=fun h=>by
  have:=(hK _ _ _ hJ0).1 bi h; omega
 refine Bv 16328 (α:=List (Int × Value) × Obj) (fun _=>[]) (fun z w'=>VisO .u64 b m z.1 o z.2∧∃ M,J z.1 M w'∧¬ M bi∧w'.heap[bi]? = some z.2) (fun z=>m.length - z.1.length) (([]:List (Int × Value)),it) U ?_ ?_ ?_
 ·exact trivial
 ·exact ⟨hV,M0,hJ1,hM0,H.get at0⟩
 ·rintro ⟨vis,it⟩ j w ⟨hV,M,hJ,hMb,hit⟩; dsimp only at hV hJ hit; dsimp only;have KK:=(hK _ _ _ hJ).2;obtain ⟨w1,rfl⟩:∃ w1,w1=w:=⟨_,rfl⟩;have H:=Ctx.start1 hit;have hT:∀ x∈[bi],¬ M x∧w0.heap.size≤x:=fun x hx=>by rw [List.mem_singleton] at hx; subst hx; exact ⟨hMb,hbi⟩
  refine Ae (Wg U (fun _=>rfl) U H KK.hb at0 hV ?_);rintro vs more it' w hc H
  skip
  refine Ab (Aa (Au (Ao _ U ?_ ?_)))
  ·intro h1;obtain ⟨p,hV'⟩:∃ p,VisO .u64 b m (vis++[p]) o it':=hc.elim (fun h=>by rw [h.1] at h1; cases h1) fun h=>h.2;have hJw:=hJs _ _ _ _ [bi] hJ hT H.ext;have KR:=(hK _ _ _ hJw).2;have hle:=hV'.le;rw [List.length_append] at hle;have hst:Af1 m vis [.int .u64 p.1] (vis++[p]):=⟨p,rfl,rfl,hV'.mem p (by simp),by simp at hle; omega⟩;refine Ap (Aa (A0 (Ae (Tq U U H KR.hb at0 hV' ?_))));refine AS U U (Af U (Ab (Aa ?_)));have hY1:=hY vis [.int .u64 p.1] (vis++[p]) M w hst hJw;refine Ae (Dq U (.func _ _ _) U ?_);refine Ad U (GL (vs:=[.int .u64 p.1]) U hY1 U ?_);rintro u w hu
   obtain ⟨bb,rfl,hu1,hu0⟩:∃ bb,u = .bool bb∧(bb=true→∃ M,J (vis++[p]) M w∧¬ M bi∧w.heap[bi]? = some it')∧(bb=false→E w):=hu.elim (fun h=>⟨true,h.1,fun _=>let ⟨M',h1,g⟩:=h.2; ⟨M',h1,fun hx=>(g.new _ hx).elim hMb (fun h=>by have:=H.lt at0; omega),g.to (H.get at0) hMb⟩,fun h=>by cases h⟩) (fun h=>⟨false,h.1,(fun h=>by cases h),fun _=>h.2⟩);refine BF U (Ab (Aa (Ao _ U ?_ ?_)))
   ·intro h2;replace h2:=BG h2;refine A5 (AB (Aq (AB (FM U U ?_))));exact .inr (hu0 (by simpa using h2))
   ·intro h2;replace h2:=BH h2;refine Ap (A6 (Aa ?_));exact ⟨(vis++[p],it'),rfl,trivial,⟨hV',hu1 (by simpa using h2)⟩,by dsimp only; rw [List.length_append]; simp; simp at hle; omega⟩
  ·intro h1;obtain ⟨hp,rfl⟩:vis.Perm m∧it'=it:=hc.elim (fun h=>h.2) fun h=>by rw [h.1] at h1; cases h1
   refine Br (An (An (AK (CU U U ?_))));exact .inl ⟨vis,M,hp,hJs _ _ _ _ [bi] hJ hT H.ext⟩
end Go.Proofs.YtdagmpmdcgedcaaGreat
namespace Go.Proofs.YtdagmpmdcgedcaaGreat
open Go.GV
attribute [local irreducible] AD W Wq Wt
def Gt (x:Int):Value := .int .u64 x
structure FreshU (w w':World) (v:Value) (l:List Int):Prop where
 ex:∃ a n c full,v = .slice a n c∧OS a n c 1 full (l.map Gt)∧(∀ x∈full,∃ z,x=Gt z)∧∀ x∈ent a 28 full,w'.heap[x.1]? = some x.2∧w.heap.size≤x.1
 ext:Ext [] w w'
def WC (bk:Nat):Value := .func (.func 163) #[] #[ptr bk]
theorem Aee {b:Nat} (w:World):Ret Tryz.prog 100 #[.map (some b)] w fun v w'=>∃ bk,v=WC bk∧w'.heap[bk]? = some (Bl 163 [.map (some b)])∧w.heap.size≤bk∧Ext [] w w':=by
 obtain ⟨w0,rfl⟩:∃ w0,w0=w:=⟨_,rfl⟩;have H:=Ctx.start w0 [];refine Az (fn:=Tryz.f100) Tryz.func100 U [.map (some b)] U (by kernel_rfl) ?_;refine Ae (Bx _ (.map _) U U H ?_);rintro b1 w - H;refine CY U .nilFunc U ?_;refine Ab (Aa (Ae (Ck [.pointer _] U (CY U (.func _ _ _) U ?_))));refine Ab (Aa (A5 (A9 (v:=(.func _ _ _)) U U U ?_)));exact ⟨_,rfl,H.get at0,(H.own _ (List.mem_cons_self ..)).elim (fun h=>by cases h) id,H.ext⟩
def appJ (w0:World) (bk b bb k:Nat) (o:Obj) (vis:List (Int × Value)) (M:Mt) (w:World):Prop :=
 ∃ a c full,(M=fun y=>y∈((bb,Bl 48 [.slice a vis.length c])::ent a 28 full).map (·.1))∧Ctx w0 [] w ((bb,Bl 48 [.slice a vis.length c])::ent a 28 full) ∧
  OS a vis.length c 1 full (vis.map fun p=>Gt p.1)∧(∀ x∈full,∃ z,x=Gt z)∧DueK bk b o w∧∀ y∈((bb,Bl 48 [.slice a vis.length c])::ent a 28 full).map (·.1),y≠k∧y≠k+1
set_option maxRecDepth 20000 in
set_option maxHeartbeats 2000000 in
theorem XK {bk b:Nat} {o:Obj} {m:List (Int × Value)} (hM:Db .u64 m o) (hm:m.length≤1000000) (w:World) (K:DueK bk b o w) :
  Ret Tryz.prog 203 #[.slice none 0 0,WC bk] w fun v w'=>∃ vis:List (Int × Value),vis.Perm m∧FreshU w w' v (vis.map (·.1)):=by
 obtain ⟨w0,rfl⟩:∃ w0,w0=w:=⟨_,rfl⟩;have H:=Ctx.start w0 [];have lk:=Bb K.h2;have lb:=Bb K.hb;refine Hu (fn:=Tryz.f203) Tryz.func203 U [.slice none 0 0,.func (.func 163) #[] #[.pointer (some ⟨bk,0,none⟩)]] U (by kernel_rfl) ?_;refine Ae (Bx _ (.slice _ _ _) U U H ?_);rintro b2 w - H;refine A4 U (Ab (Aa (Au (Ae (Dq U (.func _ _ _) U ?_)))));refine Ab (Aa (A0 ?_));obtain ⟨ws,rfl⟩:∃ z,z=w:=⟨_,rfl⟩;have hb2:=(H.own _ (List.mem_cons_self ..)).elim (fun h=>by cases h) id;have l2:=H.lt at0;have hsz:=H.size;dsimp only at hb2;have K2:DueK bk b o ws:=⟨H.ext.to K.h2 (by simp),H.ext.to K.hb (by simp)⟩
 refine YN (gf:=163) U Ag2 (Aaj (b2:=bk) (b:=b) hM) (by kernel_rfl) (by kernel_rfl) (fun vis v vis' h=>by obtain ⟨p,-,rfl,-⟩:=h; rfl)
  (appJ w0 bk b b2 ws.heap.size o) (fun _=>False) (by simp) (fun _ _=>True.intro)
  (fun w2 hx2 _=>⟨_,none,0,[],rfl,H.call hx2,OS.nil,by simp,⟨hx2.to K2.h2 (by simp),hx2.to K2.hb (by simp)⟩,by simp [ent]; omega⟩)
  (fun vis M w' w'' T hJ hT hx=>?_) (fun _ _ h _=>h) (fun vis M w' hJ=>?_) ?_ ?_ (fun _ h _=>h.elim)
 ·obtain ⟨a,c,full,hMM,HJ,O,Z,KJ,hne⟩:=hJ;refine ⟨a,c,full,hMM,HJ.step hx (fun y hy hy2=>(hT _ hy2).1 (by rw [hMM]; exact List.mem_map_of_mem (f:=(·.1)) hy)) (fun x hx => .inr (by have:=(hT x hx).2; omega)),O,Z,⟨hx.to KJ.h2 (fun h=>by have:=(hT _ h).2; omega),hx.to KJ.hb (fun h=>by have:=(hT _ h).2; omega)⟩,hne⟩
 ·obtain ⟨a,c,full,hMM,HJ,O,Z,KJ,hne⟩:=hJ;refine ⟨fun x hx=>?_,KJ⟩;rw [hMM] at hx;obtain ⟨y,hy,rfl⟩:=List.mem_map.1 hx;exact ⟨Bb (HJ.blk y hy),hne _ hx⟩
 ·rintro vis v vis' M w ⟨p,rfl,rfl,hpm,hvl⟩ ⟨a,c,full,rfl,HJ,O,Z,KJ,hne⟩ hsz2;obtain ⟨w1,rfl⟩:∃ z,z=w:=⟨_,rfl⟩;refine Ax (Af U (Ab ?_));refine ⟨Ext.refl _ _,fun wB hxB=>?_⟩;have HB:=HJ.step hxB (fun y hy h=>(hne _ (List.mem_map_of_mem (f:=(·.1)) hy)).2 (List.mem_singleton.1 h)) (fun z hz => .inr (by rw [List.mem_singleton.1 hz]; omega));have KB:DueK bk b o wB:=⟨hxB.to KJ.h2 (by rw [List.mem_singleton]; omega),hxB.to KJ.hb (by rw [List.mem_singleton]; omega)⟩
  have hown:∀ y∈((b2,Bl 48 [.slice a vis.length c])::ent a 28 full).map (·.1),w0.heap.size≤y:=fun y hy=>by
   obtain ⟨z,hz,rfl⟩:=List.mem_map.1 hy;exact (HJ.own z hz).elim (fun h=>by cases h) id
  have hsB:=hxB.size;obtain ⟨w2,rfl⟩:∃ z,z=wB:=⟨_,rfl⟩;rw [← List.append_nil ((b2,Bl 48 [.slice a vis.length c])::ent a 28 full)] at HB;have H:=Ctx.lend (L1:=(b2,Bl 48 [.slice a vis.length c])::ent a 28 full) (L2:=[]) HB;obtain ⟨SS,hSS⟩:∃ SS,SS=((b2,Bl 48 [.slice a vis.length c])::ent a 28 full).map (·.1):=⟨_,rfl⟩;rw [← hSS] at H;refine A0 (Ax (AH Hb U H at0 U (Ad U (Cj _ (.int _ _) Bt Bo OX U (by decide) (by decide) U U U H ?_))));rintro b10 w - H;refine Tv (L:=[_]) U Bt Bt Bo Wk OX U (by decide) U U H O U (by simp [Bg]) ?_;rintro a' c' full' w H O Z2;refine Ci (.slice _ _ _) Afw U U U H at0 (by (simp; done)) ?_;rintro w H;refine Ab (A6 ?_);have hl:(vis++[p]).length=vis.length+1:=by rw [List.length_append]; rfl
  rw [hSS] at H;have HE:=H.ext;refine ⟨_,⟨a',c',full',rfl,by rw [hl,← List.append_nil (_::ent a' _ full')]; exact Ctx.back HB H,by rw [hl,List.map_append]; exact O,fun x hx=>?_,⟨HE.to KB.h2 fun h=>by have:=hown _ h; omega,HE.to KB.hb fun h=>by have:=hown _ h; omega⟩,fun y hy=>?_⟩,fun y hy=>?_,_,HE,fun y hy => .inl hy⟩
  ·rcases Z2 x hx with h | h | h
   ·exact Z x h
   ·exact ⟨_,List.mem_singleton.1 h⟩
   ·exact ⟨_,List.mem_singleton.1 h⟩
  ·rw [hl] at hy;obtain ⟨z,hz,rfl⟩:=List.mem_map.1 hy
   rcases H.own z hz with h | h
   ·exact hne _ h
   ·omega
  ·rw [hl] at hy;obtain ⟨z,hz,rfl⟩:=List.mem_map.1 hy;exact (H.own z hz).imp id fun h=>by omega
 ·rintro vis M w hp ⟨a,c,full,rfl,HJ,O,Z,KJ,hne⟩ hD;have H:=HJ;refine A6 (Aa (Ae (AH Hb U H at0 U (A4 U (Ab (Aa (A5 (LG (v:=(.slice _ _ _)) U U (Hv hD U fun wF hxF=>?_)))))))));have HF:=H.step hxF (fun y hy h=>(hne _ (List.mem_map_of_mem (f:=(·.1)) hy)).1 (List.mem_singleton.1 h)) (fun z hz => .inr (by rw [List.mem_singleton.1 hz]; omega));refine ⟨vis,hp,⟨a,vis.length,c,full,rfl,by rw [List.map_map]; exact O,Z,fun x hx=>⟨HF.blk x (List.mem_cons_of_mem _ hx),(HF.own x (List.mem_cons_of_mem _ hx)).elim (fun h=>by cases h) id⟩⟩,HF.ext⟩
end Go.Proofs.YtdagmpmdcgedcaaGreat
namespace Go.Proofs.YtdagmpmdcgedcaaGreat
open Go.GV
attribute [local irreducible] AD W Wq Wt
theorem V6 {bk b:Nat} {o:Obj} {m:List (Int × Value)} (hM:Db .u64 m o) (hm:m.length≤1000000) (w:World) (K:DueK bk b o w) :
  Ret Tryz.prog 161 #[WC bk] w fun v w'=>∃ vis:List (Int × Value),vis.Perm m∧FreshU w w' v (vis.map (·.1)):=by
 obtain ⟨w0,rfl⟩:∃ w0,w0=w:=⟨_,rfl⟩;refine Az (fn:=Tryz.f161) Tryz.func161 U [.func (.func 163) #[] #[.pointer (some ⟨bk,0,none⟩)]] U (by kernel_rfl) ?_;refine Ae (A4 U (Ab (Aa (Ae (Dq U (.func _ _ _) U ?_)))));refine Al Ahl (XK hM hm _ K) U ?_;rintro v w ⟨vis,hp,F⟩;obtain ⟨a,n,c,full,rfl,O,Z,hb⟩:=F.ex;refine A4 U (Ab (Aa (A5 (A9 (v:=(.slice _ _ _)) U U U ?_))));exact ⟨vis,hp,F⟩
theorem Aak {x y:Int} (h:Gt x=Gt y):x=y:=by unfold Gt at h; injection h
theorem WD:∀ (l:List Value),(∀ x∈l,∃ z,x=Gt z)→∃ zs:List Int,l=zs.map Gt
 | [],_=>⟨[],rfl⟩
 | x::l,h=>by
  obtain ⟨z,rfl⟩:=h x (List.mem_cons_self ..);obtain ⟨zs,rfl⟩:=WD l fun y hy=>h y (List.mem_cons_of_mem _ hy);exact ⟨z::zs,rfl⟩
theorem QK:∀ {l m:List Int},l.map Gt=m.map Gt→l=m
 | [],[],_=>rfl
 | [],_::_,h=>by cases h
 | _::_,[],h=>by cases h
 | x::l,y::m,h=>by
  simp only [List.map_cons,List.cons.injEq] at h;rw [Aak h.1,QK h.2]
theorem Pq (f:Nat→Int) (n:Nat):CH f n=(tab f n).map Gt:=by unfold tab; rw [List.map_map]; rfl
theorem TS (f:Nat→Int) {n m:Nat} (h:n≤m):(tab f m).take n=tab f n:=by
 unfold tab;rw [← List.map_take,List.take_range,Nat.min_eq_left h]
theorem Ajw {g:Nat→Int} {n:Nat} (h:JF g 0 n):(tab g n).Pairwise (·≤·):=by
 rw [List.pairwise_iff_getElem];intro i j hi hj hij;rw [CP] at hi hj;have h1:=BU (f:=g) hi;have h2:=BU (f:=g) hj;rw [List.getElem?_eq_getElem (by rw [CP]; exact hi)] at h1;rw [List.getElem?_eq_getElem (by rw [CP]; exact hj)] at h2
 injection h1 with h1
 injection h2 with h2
 rw [h1,h2];exact h i j (Nat.zero_le _) hij hj
theorem sortF {a:Option Addr} {n c:Nat} {full:List Value} {l:List Int} (w:World) (O:OS a n c 1 full (l.map Gt)) (Z:∀ x∈full,∃ z,x=Gt z) (hb:∀ x∈ent a 28 full,w.heap[x.1]? = some x.2) (hn:n≤1000000000) :
  Ret Tryz.prog 162 #[.slice a n c] w fun v w'=>v = .tuple #[]∧∃ (full':List Value) (l':List Int),l'.Perm l∧l'.Pairwise (·≤·)∧OS a n c 1 full' (l'.map Gt)∧(∀ x∈full',∃ z,x=Gt z)∧(∀ x∈ent a 28 full',w'.heap[x.1]? = some x.2)∧Ext ((ent a 28 full).map (·.1)) w w':=by
 cases a with
 | none =>
  obtain rfl:n=0:=by have:=O.none' rfl; have:=O.le; omega
  have hl:l=[]:=by have:=O.llen; rw [List.length_map] at this; exact List.eq_nil_of_length_eq_zero (by omega)
  subst hl;refine Ret.mono (V4 c w) ?_;rintro v w' ⟨rfl,rfl⟩;exact ⟨rfl,full,[],List.Perm.refl _,.nil,O,Z,hb,Ext.refl _ _⟩
 | some p =>
  have hp:=O.zero p rfl;obtain ⟨q,o,sp⟩:=p;simp only [Addr.mk.injEq,true_and] at hp;obtain ⟨rfl,rfl⟩:=hp;obtain ⟨zs,rfl⟩:=WD full Z;have hlen:=O.len;rw [List.length_map,Nat.mul_one] at hlen;have hpre:=O.pre;rw [Nat.mul_one,← List.map_take] at hpre;have hpre:=QK hpre;have hzs:tab (fun i=>zs.getD i 0) c=zs:=by rw [← hlen]; exact Ajp zs
  have hb0:w.heap[q]? = some (Bl 28 (CH (fun i=>zs.getD i 0) c)):=by
   rw [Pq,hzs];exact hb (q,Bl 28 (zs.map Gt)) (List.mem_singleton.2 U)
  refine Ret.mono (Aah (c:=c) hb0 O.le hn) ?_;rintro v w' ⟨rfl,g,hP,hS,H⟩;have hS0:((ent (some ⟨q,0,none⟩) 28 (zs.map Gt)).map (·.1))=[q]:=by simp [ent]
  refine ⟨rfl,CH g c,tab g n,?_,Ajw hS,⟨O.zero,O.none',by simp,O.le,?_⟩,fun x hx=>?_,fun x hx=>?_,by rw [hS0]; exact H.ext⟩
  ·rw [← TS (fun i=>zs.getD i 0) O.le,hzs,hpre] at hP;exact hP
  ·rw [Nat.mul_one,Pq,← List.map_take,TS g O.le]
  ·rw [Pq,List.mem_map] at hx;obtain ⟨z,_,rfl⟩:=hx;exact ⟨z,rfl⟩
  ·simp only [ent,List.mem_singleton] at hx;subst hx;exact H.get at0
theorem XL {bk b:Nat} {o:Obj} {m:List (Int × Value)} (hM:Db .u64 m o) (w:World) (K:DueK bk b o w)  (hm:m.length≤1000000:=by omega):
  Ret Tryz.prog 99 #[WC bk] w fun v w'=>∃ l:List Int,l.Perm (m.map (·.1))∧l.Pairwise (·≤·)∧FreshU w w' v l:=by
 obtain ⟨w0,rfl⟩:∃ w0,w0=w:=⟨_,rfl⟩;refine Az (fn:=Tryz.f99) Tryz.func99 U [.func (.func 163) #[] #[.pointer (some ⟨bk,0,none⟩)]] U (by kernel_rfl) ?_;refine Ae (A4 U (Ab (Aa (Ae (Dq U (.func _ _ _) U ?_)))));refine Al Ag0 (V6 hM hm _ K) U ?_;rintro v w ⟨vis,hp,F⟩;obtain ⟨a,n,c,full,rfl,O,Z,hb⟩:=F.ex;have hx5:=F.ext;have hvn:=O.llen;have hvm:=hp.length_eq;rw [List.length_map,List.length_map] at hvn;refine A4 U (Ab (Aa (Ae (Ay U (Al Ag1 (sortF _ O Z (fun x hx=>(hb x hx).1) (by omega)) U ?_)))));rintro v w ⟨rfl,full',l',hP,hS,O',Z',hb',hx7⟩;refine Ab (Aa (Ae (Ay U (A4 U (Ab (Aa (A5 (A9 (v:=(.slice _ _ _)) U U U ?_))))))));refine ⟨l',hP.trans (hp.map _),hS,⟨_,_,_,_,rfl,O',Z',fun x hx=>⟨hb' x hx,?_⟩⟩,hx5.then hx7 fun x hx=>?_⟩
 ·cases a with
  | none=>simp [ent] at hx
  | some p =>
   simp only [ent,List.mem_singleton] at hx;subst hx;exact (hb (p.block,Bl 28 full) (by simp [ent])).2
 ·obtain ⟨y,hy,rfl⟩:=List.mem_map.1 hx;exact .inr (hb y hy).2
end Go.Proofs.YtdagmpmdcgedcaaGreat
namespace Go.Proofs.YtdagmpmdcgedcaaGreat
open Go.GV
attribute [local irreducible] AD W Wq Wt
structure Du where
 id:Int
 fr:Int
 to:Int
 am:Int
 we:Int
 un:Int
 held:Bool
instance:DecidableEq Du:=fun x y=>if h:x.id=y.id∧x.fr=y.fr∧x.to=y.to∧x.am=y.am∧x.we=y.we∧x.un=y.un∧x.held=y.held then isTrue (by cases x; cases y; simp_all) else isFalse fun e=>h (by subst e; exact ⟨rfl,rfl,rfl,rfl,rfl,rfl,rfl⟩)
abbrev CT (d:Du):List Value:=[.int .u64 d.id,.int .i64 d.fr,.int .i64 d.to,.int .i64 d.am,.int .i64 d.we,.int .i64 d.un,.bool d.held]
abbrev Gm (d:Du):Value := .agg #[.int .u64 d.id,.int .i64 d.fr,.int .i64 d.to,.int .i64 d.am,.int .i64 d.we,.int .i64 d.un,.bool d.held]
theorem Dg (d:Du):∀ v∈CT d,Bg v=true:=by simp [CT,Bg]
def dm (ds:List Du):List (Int × Value):=ds.map fun d=>(d.id,Gm d)
theorem Ajx {ds:List Du} {p:Int × Value} (h:p∈dm ds):∃ d∈ds,p=(d.id,Gm d):=by
 obtain ⟨d,hd,rfl⟩:=List.mem_map.1 h;exact ⟨d,hd,rfl⟩
def amV (p:Int × Value):Int:=match p.2 with
 | .agg vs=>match vs.toList with | [_,_,_,.int _ x,_,_,_]=>x | _=>0
 | _=>0
theorem Ajy (ds:List Du):(dm ds).map amV=ds.map (·.am):=by unfold dm; rw [List.map_map]; rfl
abbrev DU (b:Nat) (nx:Int):List Value:=[.map (some b),.int .u64 nx]
structure VSt where
 vis:List (Int × Value)
 it:Obj
 a:Option Addr
 c:Nat
 full:List Value
set_option maxRecDepth 20000 in
set_option maxHeartbeats 2000000 in
theorem Pr {bd b:Nat} {nx:Int} {o:Obj} {ds:List Du} (w:World) (hd:w.heap[bd]? = some (Bl 165 (DU b nx))) (hb:w.heap[b]? = some o) (hM:Db .u64 (dm ds) o)  (hn:ds.length≤1000000:=by omega):
  Ret Tryz.prog 134 #[ptr bd] w fun v w'=>∃ l:List Int,l.Perm (ds.map (·.am))∧Fresh w w' 2 1 v (l.map Dm):=by
 obtain ⟨w0,rfl⟩:∃ w0,w0=w:=⟨_,rfl⟩;have H:=Ctx.start w0 [];have hdl:(dm ds).length=ds.length:=by unfold dm; rw [List.length_map]
 refine Az (fn:=Tryz.f134) Tryz.func134 U [.pointer (some ⟨bd,0,none⟩)] U (by kernel_rfl) ?_;refine Ae (A4 U (Ab (Aa (Ae (A4 U (Ab (Aa (Au (Ae (A2 U (AA U ?_)))))))))));refine Ah DP U (AV Fo U ((by rw [Aj hd]; rfl)) ?_);refine Tp U F8 U H hb hM ?_;rintro bi it w hV H;refine Ab (Aa (A0 (Bv 1046568 (α:=VSt) (fun t=>[(3,.slice t.a t.vis.length t.c)]) (fun t w'=>VisO .u64 b (dm ds) t.vis o t.it∧OS t.a t.vis.length t.c 1 t.full ((t.vis.map amV).map Dm)∧Ctx w0 [] w' ((bi,t.it)::ent t.a 2 t.full)) (fun t=>(dm ds).length - t.vis.length) ⟨[],it,none,0,[]⟩ U ?_ ?_ ?_)))
 ·exact ⟨rfl,trivial⟩
 ·exact ⟨hV,OS.nil,H⟩
 ·rintro ⟨vis,it,a,c,full⟩ j w ⟨hV,O,H⟩; dsimp only at hV O H; dsimp only;refine Ae (Wg U (fun _=>rfl) U H (H.ext.to hb (by simp)) at0 hV ?_);rintro vs more it' w hc H1;clear H;have H:Ctx w0 [] w ((bi,it')::ent a 2 full):=H1;clear H1
  skip
  refine Ab (Aa (Au (Ao _ U ?_ ?_)))
  ·intro h1;obtain ⟨p,hV'⟩:∃ p,VisO .u64 b (dm ds) (vis++[p]) o it':=hc.elim (fun h=>by rw [h.1] at h1; cases h1) fun h=>h.2;obtain ⟨d,hd2,rfl⟩:=Ajx (hV'.mem p (by simp));have hle:=hV'.le;rw [hdl] at hle;have hl1:(vis++[(d.id,Gm d)]).length=vis.length+1:=by rw [List.length_append]; rfl
   rw [hl1] at hle;refine Ap (Aa (A0 (Ae (Xs U U H (H.ext.to hb (by simp)) at0 hV' ?_))));refine AS U U (Ba Ex H ?_);rintro b5 w - H;refine Bm Cg U U U (by exact Dg _) H at0 U ?_;rintro w H;refine Ab (Aa (Ax (Ay U (Ah EM U (AH Bs U H at0 U (Cj _ (.int _ _) AU Bz Ei U (by decide) (by decide) U U U H ?_))))));rintro b18 w - H;refine CF (L:=[_,_]) AU AU Bz Lh Ei U (by decide) U U H O U (by simp [Bg]) ?_;rintro a' c' full' w H O;refine A4 U (Ab (A6 (Aa ?_)));exact ⟨⟨vis++[(d.id,Gm d)],it',a',c',full'⟩,rfl,⟨by dsimp only; rw [hl1]; rfl,trivial⟩,⟨hV',by dsimp only; rw [hl1,List.map_append,List.map_append]; exact O,H.tail⟩,by dsimp only; rw [hl1,hdl]; omega⟩
  ·intro h1;obtain ⟨hp,rfl⟩:vis.Perm (dm ds)∧it'=it:=hc.elim (fun h=>h.2) fun h=>by rw [h.1] at h1; cases h1
   refine Br (An (An (AK (Aa (Ae (Ay U (A4 U (Ab (Aa (A5 (A9 (v:=(.slice _ _ _)) U U U ?_)))))))))));refine ⟨vis.map amV,?_,Ctx.fresh (L:=[_]) H O⟩;rw [← Ajy];exact hp.map _
end Go.Proofs.YtdagmpmdcgedcaaGreat
namespace Go.Proofs.YtdagmpmdcgedcaaGreat
open Go.GV
attribute [local irreducible] AD W Wq Wt
def d00:Du:=⟨0,0,0,0,0,0,false⟩
def JB (ds:List Du) (k:Int):Du:=(ds.find? fun d=>d.id == k).getD d00
theorem MT {d:Du}:∀ {ds:List Du},(ds.map (·.id)).Nodup→d∈ds→JB ds d.id=d
 | x::ds,hn,h=>by
  simp only [List.map_cons,List.nodup_cons] at hn;unfold JB
  by_cases e:x.id=d.id
  ·rcases List.mem_cons.1 h with rfl | h
   ·simp
   ·exact absurd (List.mem_map_of_mem (f:=(·.id)) h) (by rw [← e]; exact hn.1)
  ·rcases List.mem_cons.1 h with rfl | h
   ·exact absurd U e
   ·have:=MT hn.2 h;unfold JB at this;rw [List.find?_cons,show (x.id == d.id)=false by simpa using e];exact this
theorem Aal {ds:List Du} (hn:(ds.map (·.id)).Nodup):(ds.map (·.id)).map (JB ds)=ds:=by
 rw [List.map_map];have:ds.map (JB ds ∘ (·.id))=ds.map id:=List.map_congr_left fun d hd=>MT hn hd;rw [this,List.map_id]
theorem WE {d:Du}:∀ {ds:List Du},(ds.map (·.id)).Nodup→d∈ds→Eo (dm ds) d.id=some (Gm d)
 | x::ds,hn,h=>by
  simp only [List.map_cons,List.nodup_cons] at hn;unfold dm Eo;rw [List.map_cons,List.find?_cons]
  by_cases e:x.id=d.id
  ·rcases List.mem_cons.1 h with rfl | h
   ·simp
   ·exact absurd (List.mem_map_of_mem (f:=(·.id)) h) (by rw [← e]; exact hn.1)
  ·rcases List.mem_cons.1 h with rfl | h
   ·exact absurd U e
   ·have:=WE hn.2 h;unfold dm Eo at this;rw [show (x.id == d.id)=false by simpa using e];exact this
def Aam (ds' ds:List Du):Prop:=ds'.Perm ds∧(ds'.map (·.id)).Pairwise (·<·)
theorem XM {ds:List Du} {l:List Int} (hn:(ds.map (·.id)).Nodup) (hp:l.Perm ((dm ds).map (·.1))) (hs:l.Pairwise (·≤·)):Aam (l.map (JB ds)) ds∧(l.map (JB ds)).map (·.id)=l:=by
 have h1:(dm ds).map (·.1)=ds.map (·.id):=by unfold dm; rw [List.map_map]; rfl
 rw [h1] at hp
 have h2:(l.map (JB ds)).map (·.id)=l:=by
  rw [List.map_map]
  have:l.map ((·.id) ∘ JB ds)=l.map id:=List.map_congr_left fun k hk=>by
   obtain ⟨d,hd,rfl⟩:=List.mem_map.1 (hp.mem_iff.1 hk);show (JB ds d.id).id=d.id;rw [MT hn hd]
  rw [this,List.map_id]
 refine ⟨⟨?_,?_⟩,h2⟩
 ·have:=hp.map (JB ds)
  rwa [Aal hn] at this
 ·rw [h2];have hnd:=hp.nodup_iff.2 hn;exact (hs.and (List.nodup_iff_pairwise_ne.1 hnd)).imp fun h=>by omega
theorem XN {ds:List Du} {i:Nat} {d:Du} (h:ds[i]? = some d):(ds.take (i+1)).flatMap CT=(ds.take i).flatMap CT++CT d:=by
 rw [List.take_add_one,h,List.flatMap_append];simp
set_option maxRecDepth 20000 in
set_option maxHeartbeats 2000000 in
theorem Mc {bd b:Nat} {nx:Int} {o:Obj} {ds:List Du} (w:World) (hd:w.heap[bd]? = some (Bl 165 (DU b nx))) (hb:w.heap[b]? = some o) (hM:Db .u64 (dm ds) o) (hnd:(ds.map (·.id)).Nodup)  (hn:ds.length≤1000000:=by omega):
  Ret Tryz.prog 50 #[ptr bd] w fun v w'=>∃ ds':List Du,Aam ds' ds∧Fresh w w' 67 7 v (ds'.flatMap CT):=by
 obtain ⟨w0,rfl⟩:∃ w0,w0=w:=⟨_,rfl⟩;have H:=Ctx.start w0 [];have hdl:(dm ds).length=ds.length:=by unfold dm; rw [List.length_map]
 refine Az (fn:=Tryz.f50) Tryz.func50 U [.pointer (some ⟨bd,0,none⟩)] U (by kernel_rfl) ?_;refine Ae (A4 U (Ab (Aa (Au (Ae (A2 U (Cw I6 U ?_)))))));refine Ab (Aa (Ao _ U ?_ ?_))
 ·intro h0;cases h0
 ·intro h0;refine Ap (Aa (Ae (A4 U (Ab (Aa (Au (Ae (A2 U (AA U (Ah DP U (AV Fo U ((by rw [Aj hd]; rfl)) ?_)))))))))));refine Al Agk (Aee (b:=b) _) U ?_;rintro v w ⟨bk,rfl,hbk,-,hx12⟩;replace H:=H.call hx12;refine Al ca_99 (XL hM _ ⟨hbk,H.ext.to hb (by simp)⟩) U ?_;rintro v w ⟨l,hlp,hls,F⟩;obtain ⟨ak,nk,ck,fk,rfl,OK,ZK,hbl⟩:=F.ex;replace H:=H.call F.ext;refine Be Bt U (Ad U (Ab (Aa (A0 ?_))));obtain ⟨w1,rfl⟩:∃ z,z=w:=⟨_,rfl⟩;have H0:=H.ext;replace H:=Ctx.start w1 [];have R:Rd w1 ak 1 (fun x=>[Gt x]) l:=OK.rd1 fun x hx=>(hbl x hx).1;have hd1:=H0.to hd (by simp);have hb1:=H0.to hb (by simp);obtain ⟨hSD,hid⟩:=XM hnd hlp hls;obtain ⟨ds',hds'⟩:∃ ds',ds'=l.map (JB ds):=⟨_,rfl⟩;rw [← hds'] at hSD hid;have hlen:ds'.length=l.length:=by rw [hds',List.length_map]
  have hll:l.length=nk:=by have:=OK.llen; rw [List.length_map] at this; omega
  have hle:l.length=ds.length:=by have:=hlp.length_eq; rw [List.length_map] at this; omega
  subst hll;refine Bv 536838184 (α:=LSt) (fun t=>[(3,.slice t.a t.i t.c),(15,.int .i64 (t.i:Int))]) (fun t w'=>t.i≤l.length∧OS t.a t.i t.c 7 t.full ((ds'.take t.i).flatMap CT)∧Ctx w1 [] w' (ent t.a 67 t.full)) (fun t=>l.length - t.i) ⟨0,none,0,[]⟩ U ?_ ?_ ?_
  ·exact ⟨rfl,rfl,trivial⟩
  ·exact ⟨Nat.zero_le _,OS.nil,H⟩
  ·rintro ⟨i,a,c,full⟩ j w ⟨hi,O,H⟩; dsimp only at hi O H; dsimp only;refine Ae (Bj U U (Ab (Aa (Au (Ao _ U ?_ ?_)))))
   ·intro h1;replace h1:=AM h1;obtain ⟨k,hk⟩:=A8 (l:=l) (i:=i);obtain ⟨d,hdi⟩:=A8 (l:=ds') (i:=i)
    have hkd:k=d.id:=by
     have h7:(ds'.map (·.id))[i]? = some d.id:=by rw [List.getElem?_map,hdi]; rfl
     rw [hid,hk] at h7;injection h7
    subst hkd;have hmg:=WE hnd (hSD.1.mem_iff.1 (List.mem_of_getElem? hdi));refine Ap (Aa (Au (A0 (Ae (AX R Bt Bo U U (by rfl) ?_)))));refine AV B1 U (((R.ext0 H.ext).fld hk U (j:=0) U)) ?_;refine Af U (Ab (Aa (Ax (Ay U (A2 U (AA U (Ah DP U (AV Fo U ((H.old0 (by rw [Aj hd1]; rfl))) ?_))))))));refine Ad U (UP U F8 F5 OY U U (H.ext.to hb1 (by simp)) hM ?_);rw [hmg];rw [Option.getD_some];refine Cj _ (.agg _) CE Cg Ex U (by decide) (by decide) U U U H ?_;rintro b26 w - H;refine CF (L:=[]) CE CE Cg Wl Ex U (by decide) U U H O U (by simp [Bg]) ?_;rintro a' c' full' w H O;refine A4 U (Ab (A6 (Aa (Ax (Aw U U ?_)))));refine Ad U (Ab (Aa ?_));exact ⟨⟨i+1,a',c',full'⟩,rfl,⟨rfl,rfl,trivial⟩,⟨by dsimp only; omega,by dsimp only; rw [XN hdi]; exact O,H⟩,by dsimp only; omega⟩
   ·intro h1;replace h1:=AN h1;refine Br (An (An (AK (Aa (Ae (Ay U (A4 U (Ab (Aa (A5 (A9 (v:=(.slice _ _ _)) U U U ?_)))))))))));obtain rfl:i=l.length:=by omega
    have FF:=Ctx.fresh (L:=[]) H O;rw [show ds'.take l.length=ds' by rw [← hlen,List.take_length]] at FF;obtain ⟨⟨a2,n2,c2,f2,e1,e2,e3⟩,e4⟩:=FF;exact ⟨ds',hSD,⟨a2,n2,c2,f2,e1,e2,fun x hx=>⟨(e3 x hx).1,Nat.le_trans H0.size (e3 x hx).2⟩⟩,H0.trans e4⟩
end Go.Proofs.YtdagmpmdcgedcaaGreat
namespace Go.Proofs.YtdagmpmdcgedcaaGreat
open Go.GV
attribute [local irreducible] AD W Wq Wt
def QL (x:Int):Bool:=decide (0≤x) && decide (x<16)
theorem TT (x:Int) (w:World):Ret Tryz.prog 192 #[.int .i64 x] w fun v w'=>v = .bool (QL x)∧w=w':=by
 obtain ⟨w0,rfl⟩:∃ w0,w0=w:=⟨_,rfl⟩;refine Az (fn:=Tryz.f192) Tryz.func192 U [.int .i64 x] U (by kernel_rfl) ?_;refine Ae (Ai U (Ab (Aa (Ae (Ad U (C9 U U (A7 U (AO 5 U ?_ ?_))))))))
 ·intro h1;replace h1:=AM h1;refine Ad U (Bj U U (AF U (.bool _) U (Ai U (Ab (Aa (A5 (A9 (v:=(.bool _)) U U U ?_)))))));exact ⟨congrArg Value.bool (by unfold QL; rw [Bool.eq_iff_iff]; simp_all; try omega),rfl⟩
 ·intro h2;replace h2:=AN h2;refine Ag U (Ag U (AG U (.bool _) U (Ai U (Ab (Aa (A5 (A9 (v:=(.bool _)) U U U ?_)))))));exact ⟨congrArg Value.bool (by unfold QL; rw [Bool.eq_iff_iff]; simp_all; try omega),rfl⟩
def Ej (d:Du):Bool:=(QL d.fr && (QL d.to && !decide (d.fr=d.to))) && (decide (1≤d.am) && (Df d.am && (decide (1≤d.we) && (decide (d.we≤1000) && decide (0≤d.un)))))
set_option maxRecDepth 20000 in
set_option maxHeartbeats 2000000 in
theorem WF (d:Du) (w:World):Ret Tryz.prog 133 #[Gm d] w fun v w'=>v = .bool (Ej d)∧Ext [] w w':=by
 obtain ⟨w0,rfl⟩:∃ w0,w0=w:=⟨_,rfl⟩;have H:=Ctx.start w0 [];refine Az (fn:=Tryz.f133) Tryz.func133 U [Gm d] U (by kernel_rfl) ?_;refine Ae (Bx (CT d) (.agg _) U U H ?_);rintro b1 w - H;refine Ai U (Ab (Aa (Au (A0 (Au (Ae (Ah Iq U (AH BZ U H at0 U (Al Zd (TT d.fr _) U ?_)))))))));rintro v w ⟨rfl,rfl⟩;refine BF U (Ai U (Ab (Aa (Dk 3 U ?_ ?_))))
 ·intro h1;replace h1:=BG h1;refine Ap (Aa (DC U (Ae (Ai U (Ab (Aa (A5 (AB (Aq (A9 (v:=(.bool _)) U U U ?_))))))))));exact ⟨congrArg Value.bool (by unfold Ej; rw [Bool.eq_iff_iff]; simp_all; try omega),H.ext⟩
 ·intro h2;replace h2:=BH h2;refine Ae (Ah Ir U (AH BZ U H at0 U (Al Zd (TT d.to _) U ?_)));rintro v w ⟨rfl,rfl⟩;refine BF U (Ai U (Ab (Aa (Dk 3 U ?_ ?_))))
  ·intro h3;replace h3:=BG h3;refine Ap (Aa (DC U (Ae (Ai U (Ab (Aa (A5 (AB (Aq (A9 (v:=(.bool _)) U U U ?_))))))))));exact ⟨congrArg Value.bool (by unfold Ej; rw [Bool.eq_iff_iff]; simp_all; try omega),H.ext⟩
  ·intro h4;replace h4:=BH h4;refine Ax (Ah Iq U (AH BZ U H at0 U (Ah Ir U (AH BZ U H at0 U (Ct U U (Ai U (Ab (Aa (Dk 3 U ?_ ?_)))))))))
   ·intro h5;replace h5:=AM h5;refine Ae (Ai U (Ab (Aa (A5 (AB (Aq (A9 (v:=(.bool _)) U U U ?_)))))));exact ⟨congrArg Value.bool (by unfold Ej; rw [Bool.eq_iff_iff]; simp_all; try omega),H.ext⟩
   ·intro h6;replace h6:=AN h6;refine Au (Ae (Ah EM U (AH Bs U H at0 U (Bj U U (Ai U (Ab (Aa (Dk 17 U ?_ ?_))))))))
    ·intro h7;replace h7:=AM h7;refine Ap (Aa (DC U (Ae (Ai U (Ab (Aa (A5 (AB (Aq (A9 (v:=(.bool _)) U U U ?_))))))))));exact ⟨congrArg Value.bool (by unfold Ej; rw [Bool.eq_iff_iff]; simp_all; try omega),H.ext⟩
    ·intro h8;replace h8:=AN h8;refine Ae (Ah EM U (AH Bs U H at0 U (Al Li (Lq d.am _) U ?_)));rintro v w ⟨rfl,rfl⟩;refine BF U (Ai U (Ab (Aa (Dk 17 U ?_ ?_))))
     ·intro h9;replace h9:=BG h9;refine Ap (Aa (DC U (Ae (Ai U (Ab (Aa (A5 (AB (Aq (A9 (v:=(.bool _)) U U U ?_))))))))));exact ⟨congrArg Value.bool (by unfold Ej; rw [Bool.eq_iff_iff]; simp_all; try omega),H.ext⟩
     ·intro h10;replace h10:=BH h10;refine Ae (Ah LQ U (AH Bs U H at0 U (Bj U U (Ai U (Ab (Aa (Dk 17 U ?_ ?_)))))))
      ·intro h11;replace h11:=AM h11;refine Ap (Aa (DC U (Ae (Ai U (Ab (Aa (A5 (AB (Aq (A9 (v:=(.bool _)) U U U ?_))))))))));exact ⟨congrArg Value.bool (by unfold Ej; rw [Bool.eq_iff_iff]; simp_all; try omega),H.ext⟩
      ·intro h12;replace h12:=AN h12;refine Ae (Ah LQ U (AH Bs U H at0 U (CZ U U (Ai U (Ab (Aa (Dk 17 U ?_ ?_)))))))
       ·intro h13;replace h13:=AM h13;refine Ap (Aa (DC U (Ae (Ai U (Ab (Aa (A5 (AB (Aq (A9 (v:=(.bool _)) U U U ?_))))))))));exact ⟨congrArg Value.bool (by unfold Ej; rw [Bool.eq_iff_iff]; simp_all; try omega),H.ext⟩
       ·intro h14;replace h14:=AN h14;refine Ax (Ah NL U (AH Bs U H at0 U (Bj U U (Ai U (Ab (Aa (Dk 17 U ?_ ?_)))))))
        ·intro h15;replace h15:=AM h15;refine Ae (Ai U (Ab (Aa (A5 (AB (Aq (A9 (v:=(.bool _)) U U U ?_)))))));exact ⟨congrArg Value.bool (by unfold Ej; rw [Bool.eq_iff_iff]; simp_all; try omega),H.ext⟩
        ·intro h16;replace h16:=AN h16;refine Ap (A6 (Aa (Ae (Ai U (Ab (Aa (A5 (A9 (v:=(.bool _)) U U U ?_))))))));exact ⟨congrArg Value.bool (by unfold Ej; rw [Bool.eq_iff_iff]; simp_all; try omega),H.ext⟩
end Go.Proofs.YtdagmpmdcgedcaaGreat
namespace Go.Proofs.YtdagmpmdcgedcaaGreat
open Go.GV
attribute [local irreducible] AD W Wq Wt
def FH (nx:Int):Int→List Du→Bool
 | _,[]=>true
 | ah,d::ds=>(Ej d && (decide (ah<d.id) && decide (d.id<nx))) && FH nx d.id ds
def Kg (ah:Int):List Du→Int
 | []=>ah
 | d::ds=>Kg d.id ds
theorem Kh (nx:Int):∀ (ah:Int) (ds es:List Du),FH nx ah (ds++es)=(FH nx ah ds && FH nx (Kg ah ds) es)
 | _,[],_=>rfl
 | ah,d::ds,es=>by simp only [List.cons_append,FH,Kg,Kh nx d.id ds es,Bool.and_assoc]
theorem PV (ah:Int) (ds:List Du) (d:Du):Kg ah (ds++[d])=d.id:=by
 induction ds generalizing ah with
 | nil=>rfl
 | cons x ds ih=>exact ih x.id
theorem J2 {nx:Int}:∀ {ah:Int} {ds:List Du},FH nx ah ds=true→(∀ d∈ds,ah<d.id∧d.id≤Kg ah ds∧d.id<nx∧Ej d=true)∧(ds.map (·.id)).Pairwise (·<·)∧ah≤Kg ah ds
 | _,[],_=>⟨fun _ h=>(by cases h),List.Pairwise.nil,Int.le_refl _⟩
 | ah,x::ds,h=>by
  simp only [FH,Bool.and_eq_true,decide_eq_true_eq] at h;obtain ⟨⟨hm,h1,h2⟩,h3⟩:=h;obtain ⟨i1,i2,i3⟩:=J2 h3;refine ⟨fun d hd=>?_,?_,?_⟩
  ·rcases List.mem_cons.1 hd with rfl | hd
   ·exact ⟨h1,i3,h2,hm⟩
   ·obtain ⟨a,b,c,e⟩:=i1 d hd;exact ⟨by omega,b,c,e⟩
  ·rw [List.map_cons,List.pairwise_cons];refine ⟨fun k hk=>?_,i2⟩;obtain ⟨d,hd,rfl⟩:=List.mem_map.1 hk;exact (i1 d hd).1
  ·show ah≤Kg x.id ds;omega
def ofC (ds:List Du) (nx:Int):Int :=
 if 64<ds.length then 6 else if (decide (1≤nx) && decide (nx≤4611686018427387904))=false then 1 else if FH nx 0 ds=false then 1 else (EX (ds.map (·.am))).2
theorem QM {xs ys:List Int} (h:xs.Perm ys):EX xs=EX ys:=by
 have h1:xs.all Df=ys.all Df:=by
  rw [Bool.eq_iff_iff,List.all_eq_true,List.all_eq_true];exact ⟨fun g x hx=>g x (h.mem_iff.2 hx),fun g x hx=>g x (h.mem_iff.1 hx)⟩
 unfold EX;rw [h1,XI h]
theorem QN {ds:List Du} {k:Int} (h:∀ d∈ds,d.id≠k):Eo (dm ds) k=none:=by
 induction ds with
 | nil=>rfl
 | cons x ds ih =>
  unfold dm Eo at ih ⊢;rw [List.map_cons,List.find?_cons,show (x.id == k)=false by simpa using h x (List.mem_cons_self ..)];exact ih fun d hd=>h d (List.mem_cons_of_mem _ hd)
theorem Aan (ds:List Du) (d:Du):dm ds++[(d.id,Gm d)]=dm (ds++[d]):=by unfold dm; rw [List.map_append]; rfl
theorem Aao {w:World} {b:Nat} {t:TypeId} {l:List Value} (h:w.heap[b]? = some (Bl t l)):∀ j v,l[j]? = some v→w.cell? ⟨b,0+j,none⟩=some v:=fun j v hv=>by rw [Aj h,Nat.zero_add]; exact hv
structure OSt where
 i:Nat
 ah:Int
 o:Obj
set_option maxRecDepth 20000 in
set_option maxHeartbeats 4000000 in
theorem Ajz (a:Option Addr) (n c:Nat) (ds:List Du) (nx:Int) (w:World) (R:Rd w a 7 CT ds) (hn:ds.length=n) (hid:∀ d∈ds,0≤d.id∧d.id<18446744073709551616)  (hn2:n≤1000000000:=by omega) (_hnx:0≤nx∧nx<18446744073709551616:=by omega):
  Ret Tryz.prog 79 #[.slice a n c,.int .u64 nx] w fun v w'=>∃ p,v = .tuple #[p,.int .i64 (ofC ds nx)]∧(ofC ds nx≠0→p = .pointer none)∧(ofC ds nx=0→∃ bd b o,p=ptr bd∧w'.heap[bd]? = some (Bl 165 (DU b nx))∧w'.heap[b]? = some o∧Db .u64 (dm ds) o∧w.heap.size≤bd∧w.heap.size≤b∧bd≠b)∧Ext [] w w':=by
 subst hn;obtain ⟨w0,rfl⟩:∃ w0,w0=w:=⟨_,rfl⟩;have H:=Ctx.start w0 [];refine Az (fn:=Tryz.f79) Tryz.func79 U [.slice a ds.length c,.int .u64 nx] U (by kernel_rfl) ?_;refine Ae (Cp U (Af U (Ab (Aa (Au (Ae (Ay U (Be CE U (CZ U U (Ab (Aa ?_)))))))))));refine Ao _ U ?_ ?_
 ·intro h1;replace h1:=AM h1;refine Ae (Cp U (Af U (Ab (Aa (A5 (Aq (Ca (v1:=(.pointer _)) (v2:=(.int _ _)) U U U U ?_)))))));have h1':ofC ds nx=6:=by unfold ofC; rw [if_pos (by omega)]
  exact ⟨_,by rw [h1'],fun _=>rfl,(fun h=>by omega),H.ext⟩
 ·intro h1;replace h1:=AN h1;have h1':¬ 64<ds.length:=by omega
  refine Ap (Aa (Au (Ae (Cb (α:=Unit) 2064384 (fun _=>[(20,.bool (!(decide (1≤nx) && decide (nx≤4611686018427387904))))]) (fun _ w'=>w'=w0) U ?_ ?_))))
  ·refine Ad U (Bj U U (A7 U (AO 17 U ?_ ?_)))
   ·intro h1;replace h1:=AM h1;refine Ag U (Ag U (AF U (.bool _) U (Ab ?_)));exact ⟨rfl,(),rfl,⟨congrArg Value.bool (by rw [Bool.eq_iff_iff]; simp_all; try omega),trivial⟩,rfl⟩
   ·intro h2;replace h2:=AN h2;refine Ad U (CZ U U (AG U (.bool _) U (Ab ?_)));exact ⟨rfl,(),rfl,⟨congrArg Value.bool (by rw [Bool.eq_iff_iff]; simp_all; try omega),trivial⟩,rfl⟩
  rintro - j20 w hw;subst w;refine Ao _ U ?_ ?_
  ·intro h2;replace h2:=BG h2;refine Ae (Cp U (Af U (Ab (Aa (A5 (Aq (Ca (v1:=(.pointer _)) (v2:=(.int _ _)) U U U U ?_)))))));have h2':ofC ds nx=1:=by unfold ofC; rw [if_neg h1',if_pos (by simpa using h2)]
   exact ⟨_,by rw [h2'],fun _=>rfl,(fun h=>by omega),H.ext⟩
  ·intro h2;replace h2:=BH h2;have h2':(decide (1≤nx) && decide (nx≤4611686018427387904))=true:=by simpa using h2
   have h2n:¬ (decide (1≤nx) && decide (nx≤4611686018427387904))=false:=by rw [h2']; decide
   refine Ap (Aa (Ae (Oq .u64 U H ?_)));rintro b o w hM H;refine Ad U (B6 (DU b nx) Zw Z6 (by kernel_rfl) ?_);refine Bx (DU b nx) (.agg _) U U H ?_;rintro b24 w - H;refine Cp U (Ab (Aa (Ae (Af U (Ab (Aa (Au (Ae (Ay U (Be CE U (Ad U ?_)))))))))));refine Ab (Aa (A0 (Bv 288230376017494704 (α:=OSt) (fun t=>[(7,.int .u64 t.ah),(27,.int .i64 (t.i:Int))]) (fun t w'=>t.i≤ds.length∧t.ah=Kg 0 (ds.take t.i)∧FH nx 0 (ds.take t.i)=true∧Db .u64 (dm (ds.take t.i)) t.o∧Ctx w0 [] w' [(b24,Bl 165 (DU b nx)),(b,t.o)]) (fun t=>ds.length - t.i) ⟨0,0,o⟩ U ?_ ?_ ?_)))
   ·exact ⟨rfl,rfl,trivial⟩
   ·exact ⟨Nat.zero_le _,rfl,rfl,hM,H⟩
   ·rintro ⟨i,ah,o⟩ j w ⟨hi,hah,has,hM,H⟩; dsimp only at hi hah has hM H; dsimp only;refine Ae (Bj U U (Ab (Aa (Au (Ao _ U ?_ ?_)))))
    ·intro h3;replace h3:=AM h3;obtain ⟨d,hd⟩:=A8 (l:=ds) (i:=i);have hdi:=hid d (List.mem_of_getElem? hd);have htk:ds.take (i+1)=ds.take i++[d]:=by rw [List.take_add_one,hd]; rfl
     have hasc:FH nx 0 (ds.take (i+1))=(Ej d && (decide (ah<d.id) && decide (d.id<nx))):=by
      rw [htk,Kh,has,Bool.true_and,← hah];show (_ && FH nx d.id [])=_;show (_ && true)=_;rw [Bool.and_true]
     refine Ap (Aa (Au (A0 (Ae (AX R CE Cg U U (by rfl) ?_)))));refine BW _ Fq Cg U U ((R.ext0 H.ext).row hd U) ?_;refine Ba Ex H ?_;rintro b9 w - H;refine Bm Cg U U U (by exact Dg _) H at0 U ?_;rintro w H;refine Ab (Aa (Au (Ae (Cb (α:=Unit) 70366596694016 (fun _=>[(45,.bool (!(Ej d && (decide (ah<d.id) && decide (d.id<nx)))))]) (fun _ w'=>Ctx w0 [] w' [(b9,Bl 67 (CT d)),(b24,Bl 165 (DU b nx)),(b,o)]) U ?_ ?_))))
     ·refine Cr Fq Cg U H at0 U (Al YX (WF d _) U ?_);rintro v w ⟨rfl,hx32⟩;replace H:=H.call hx32;refine BF U (A7 U (AO 34 U ?_ ?_))
      ·intro h3;replace h3:=BG h3;refine Ag U (Ag U (Ag U (Ag U (AF U (.bool _) U (A7 U (Ag U (Ag U (Ag U (Ag U ?_)))))))));refine AF U (.bool _) U (Ab ?_);exact ⟨rfl,(),rfl,⟨congrArg Value.bool (by clear hasc; rw [Bool.eq_iff_iff]; simp_all; try omega),trivial⟩,H⟩
      ·intro h4;replace h4:=BH h4;refine Ah G9 U (AH B1 U H at0 U (Ad U (M8 U U U (AG U (.bool _) U (A7 U (AO 40 U ?_ ?_))))))
       ·intro h5;replace h5:=AM h5;refine Ag U (Ag U (Ag U (Ag U (AF U (.bool _) U (Ab ?_)))));exact ⟨rfl,(),rfl,⟨congrArg Value.bool (by clear hasc; rw [Bool.eq_iff_iff]; simp_all; try omega),trivial⟩,H⟩
       ·intro h6;replace h6:=AN h6;refine Ah G9 U (AH B1 U H at0 U (Ad U (C9 U U (AG U (.bool _) U (Ab ?_)))));exact ⟨rfl,(),rfl,⟨congrArg Value.bool (by clear hasc; rw [Bool.eq_iff_iff]; simp_all; try omega),trivial⟩,H⟩
     rintro - j45 w H;refine Ao _ U ?_ ?_
     ·intro h4;replace h4:=BG h4;refine Ae (Cp U (Af U (Ab (Aa (A5 (Aq (AB (Aq (Aq (AB (Aq (Ca (v1:=(.pointer _)) (v2:=(.int _ _)) U U U U ?_))))))))))))
      have h4':ofC ds nx=1:=by
       unfold ofC;rw [if_neg h1',if_neg h2n,if_pos];have h5:FH nx 0 ds=FH nx 0 (ds.take (i+1)++ds.drop (i+1)):=by rw [List.take_append_drop]
       rw [h5,Kh,hasc,show (Ej d && (decide (ah<d.id) && decide (d.id<nx)))=false by simpa using h4]; rfl
      exact ⟨_,by rw [h4'],fun _=>rfl,(fun h=>by omega),H.ext⟩
     ·intro h4;replace h4:=BH h4;have h4':(Ej d && (decide (ah<d.id) && decide (d.id<nx)))=true:=by simpa using h4
      have hgt:ah<d.id:=by simp only [Bool.and_eq_true,decide_eq_true_eq] at h4'; exact h4'.2.1
      have hno:Eo (dm (ds.take i)) d.id=none:=QN fun x hx=>by
       have:=((J2 has).1 x hx).2.1;omega
      refine Ap (Aa (Fj [([0,1,2,3,4,5,6,7,8],9),([10],11),([],12)] (fun z=>z.heap[b9]? = some (Bl 67 (CT d))∧z.heap[b24]? = some (Bl 165 (DU b nx))) [] Bq (by kernel_rfl) (⟨H.drew.get at0,H.drew.get at1⟩) ?_));refine AE U U ?_;refine BL U (Bf U (Am DP U (Bw Fo U (fun _ hx=>(by rw [Aj hx.2]; rfl)) ?_)));refine Am G9 U (Bw B1 U (fun _ hx=>(by rw [Aj hx.1]; rfl)) ?_);refine IH _ Fq Cg U U (fun _ hx=>(Aao hx.1)) ?_;refine Am G9 U (Bw B1 U (fun _ hx=>(by rw [Aj hx.1]; rfl)) ?_);refine AP ?_;replace H:=H.drew;refine Ts U F8 F5 OY U U H at2 hM hno ?_;rintro st o1 w hE H;refine Ab (BT (⟨H.get at0,H.get at1⟩) (AE U U ?_));refine Bu U U (AP (PS (Gm d) U U U U H at2 hE ?_));rintro o2 w hM2 H;refine Ab (BT (⟨H.get at0,H.get at1⟩) (AE U U ?_));refine AP (Af U (Ab (BT (⟨H.get at0,H.get at1⟩) (BJ (A6 (Aa (Ax (Aw U U ?_))))))));refine Ad U (Ab (Aa ?_))
      exact ⟨⟨i+1,d.id,o2⟩,rfl,⟨rfl,rfl,trivial⟩,⟨by dsimp only; omega,by dsimp only; rw [htk,PV],by dsimp only; rw [hasc]; exact h4',by dsimp only; rw [htk,← Aan]; exact hM2,H.tail⟩,by dsimp only; omega⟩
    ·intro h3;replace h3:=AN h3;obtain rfl:i=ds.length:=by omega
     rw [List.take_length] at hM has
     have hC:ofC ds nx=(EX (ds.map (·.am))).2:=by
      unfold ofC; rw [if_neg h1',if_neg h2n,if_neg (by rw [has]; decide)]
     rw [hC];obtain ⟨tt,htt⟩:∃ tt,tt=EX (ds.map (·.am)):=⟨_,rfl⟩;rw [← htt];refine Br (An (An (AK (Aa (Au (Ae (A2 U (Al YY (Pr _ (H.get at0) (H.get at1) hM) U ?_))))))));rintro v w ⟨l,hlp,F⟩;obtain ⟨a3,n3,c3,f3,rfl,O3,hb3⟩:=F.ex;replace H:=H.call F.ext;have hl3:=O3.llen;rw [List.length_map] at hl3;have hlq:=hlp.length_eq;rw [List.length_map] at hlq;refine Al OI (Mb a3 n3 c3 l _ (O3.rd1 fun x hx=>(hb3 x hx).1) (by omega)) U ?_;rintro v w ⟨rfl,rfl⟩;rw [QM hlp];rw [← htt];refine CA U (AS U U (AS U U (Af U (Af U (Ab (Aa (Ae (Ad U (C0 U U (Ab (Aa ?_)))))))))));refine Ao _ U ?_ ?_
     ·intro h5;replace h5:=C7 h5;refine Ae (Ad U (Cp U (Af U (Ab (Aa (A5 (Aq (Ca (v1:=(.pointer _)) (v2:=(.int _ _)) U U U U ?_))))))));exact ⟨_,rfl,fun _=>rfl,(fun h=>absurd h h5),H.ext⟩
     ·intro h5;replace h5:=C8 h5;refine Ap (Aa (Ae (A2 U (Cp U (Af U (Ab (Aa (A5 (Ca (v1:=(.pointer _)) (v2:=(.int _ _)) U U U U ?_)))))))));have h5':tt.2=0:=by omega
      refine ⟨_,by rw [h5'],(fun h=>absurd h5' h),(fun _=>⟨b24,b,o,rfl,H.get at0,H.get at1,hM,?_,?_,H.ne at0 at1 (by decide)⟩),H.ext⟩
      ·exact (H.own (b24,_) (List.mem_of_getElem? (i:=0) U)).elim (fun h=>by cases h) id
      ·exact (H.own (b,_) (List.mem_of_getElem? (i:=1) U)).elim (fun h=>by cases h) id
end Go.Proofs.YtdagmpmdcgedcaaGreat
namespace Go.Proofs.YtdagmpmdcgedcaaGreat
open Go.GV
attribute [local irreducible] AD W Wq Wt
structure Ac where
 ba:Int
 re:Int
instance:DecidableEq Ac:=fun x y=>if h:x.ba=y.ba∧x.re=y.re then isTrue (by cases x; cases y; simp_all) else isFalse fun e=>h (by subst e; exact ⟨rfl,rfl⟩)
abbrev CX (a:Ac):List Value:=[.int .i64 a.ba,.int .i64 a.re]
theorem Ja (a:Ac):∀ v∈CX a,Bg v=true:=by simp [CX,Bg]
theorem XO (acs:List Ac):∀ v∈acs.flatMap CX,Bg v=true:=fun v hv=>by
 obtain ⟨a,_,h⟩:=List.mem_flatMap.1 hv;exact Ja a v h
theorem TU (acs:List Ac):(acs.flatMap CX).length=acs.length*2:=by
 induction acs with
 | nil=>rfl
 | cons a acs ih =>
  rw [List.flatMap_cons,List.length_append,ih];show 2+acs.length*2=(acs.length+1)*2;omega
theorem XP (a:Option Addr) (n c:Nat) (acs:List Ac) (w:World) (R:Rd w a 2 CX acs) (hn:acs.length=n) (hm:n≤1000000000) :
  Ret Tryz.prog 98 #[.slice a n c] w fun v w'=>Fresh w w' 43 2 v (acs.flatMap CX):=by
 subst hn;obtain ⟨w0,rfl⟩:∃ w0,w0=w:=⟨_,rfl⟩;have H:=Ctx.start w0 [];refine Az (fn:=Tryz.f98) Tryz.func98 U [.slice a acs.length c] U (by kernel_rfl) ?_;refine Ae (A4 U (Ab (Aa (Au (Ae (Ay U (IE U DA U (Ab (Aa (Ao _ U ?_ ?_))))))))))
 ·intro h1;have ha:a=none:=by simpa using h1
  subst ha
  have hxs:acs=[]:=by
   cases acs with
   | nil=>rfl
   | cons x xs=>obtain ⟨b,o,h⟩:=R.some' (by simp); cases h
  subst hxs;refine Ae (A4 U (Ab (Aa (A5 (Aq (A9 (v:=(.slice _ _ _)) U U U ?_))))));exact Fresh.nil H _ _
 ·intro h1;refine Ap (Aa (Ae (Ht U DA DB H ?_)));rintro b5 w H O;refine Ay U (Hs U DA DA DB Afm JA U (by decide) (acs.flatMap CX) U U H O (TU acs) (XO acs) ((R.ext0 H.ext).app (fun _ _=>rfl) (by omega)) ?_);rintro a7 c7 full7 w H O;refine A4 U (Ab (Aa (A5 (A9 (v:=(.slice _ _ _)) U U U ?_))));exact H.fresh O
set_option maxRecDepth 20000 in
theorem Ps {bd:Nat} (a:Option Addr) (n c:Nat) (acs:List Ac) (w:World) (hd:w.heap[bd]? = some (Bl 162 [.slice a n c])) (R:Rd w a 2 CX acs) (hn:acs.length=n)  (hm:n≤1000000000:=by omega):
  Ret Tryz.prog 49 #[ptr bd] w fun v w'=>Fresh w w' 43 2 v (acs.flatMap CX):=by
 obtain ⟨w0,rfl⟩:∃ w0,w0=w:=⟨_,rfl⟩;have H:=Ctx.start w0 [];refine Az (fn:=Tryz.f49) Tryz.func49 U [.pointer (some ⟨bd,0,none⟩)] U (by kernel_rfl) ?_;refine Ae (A4 U (Ab (Aa (Au (Ae (A2 U (Cw Nm U ?_)))))));refine Ab (Aa (Ao _ U ?_ ?_))
 ·intro h0;cases h0
 ·intro h0;refine Ap (Aa (Ae (A2 U (AA U (Ah E5 U (AV Ff U ((by rw [Aj hd]; rfl)) ?_))))));refine Al ca_98 (XP a n c acs _ R hn hm) U ?_;rintro v w F;obtain ⟨a9,n9,c9,full9,rfl,O9,hb9⟩:=F.ex;refine A4 U (Ab (Aa (A5 (A9 (v:=(.slice _ _ _)) U U U ?_))));exact F
theorem Md {α β:Type} {f:α→β} {l:List α} {i:Nat} {x:α} (h:l[i]? = some x):(l.take (i+1)).map f=(l.take i).map f++[f x]:=by
 rw [List.take_add_one,h,List.map_append]; rfl
set_option maxRecDepth 20000 in
set_option maxHeartbeats 2000000 in
theorem Ki {bd:Nat} (a:Option Addr) (n c:Nat) (acs:List Ac) (w:World) (hd:w.heap[bd]? = some (Bl 162 [.slice a n c])) (R:Rd w a 2 CX acs) (hn:acs.length=n)  (hm:n≤1000000:=by omega):
  Ret Tryz.prog 132 #[ptr bd] w fun v w'=>Fresh w w' 2 1 v ((acs.map (·.ba)).map Dm):=by
 subst hn;obtain ⟨w0,rfl⟩:∃ w0,w0=w:=⟨_,rfl⟩;have H:=Ctx.start w0 [];refine Az (fn:=Tryz.f132) Tryz.func132 U [.pointer (some ⟨bd,0,none⟩)] U (by kernel_rfl) ?_;refine Ae (A4 U (Ab (Aa (Ae (A4 U (Ab (Aa (Au (Ae (A2 U (AA U ?_)))))))))));refine Ah E5 U (AV Ff U ((by rw [Aj hd]; rfl)) ?_);refine Be DA U (Ad U (Ab (Aa (A0 (Bv 2095144 (α:=LSt) (fun t=>[(3,.slice t.a t.i t.c),(11,.int .i64 (t.i:Int))]) (fun t w'=>t.i≤acs.length∧OS t.a t.i t.c 1 t.full (((acs.take t.i).map (·.ba)).map Dm)∧Ctx w0 [] w' (ent t.a 2 t.full)) (fun t=>acs.length - t.i) ⟨0,none,0,[]⟩ U ?_ ?_ ?_)))))
 ·exact ⟨rfl,rfl,trivial⟩
 ·exact ⟨Nat.zero_le _,OS.nil,H⟩
 ·rintro ⟨i,a2,c2,full⟩ j w ⟨hi,O,H⟩; dsimp only at hi O H; dsimp only;refine Ae (Bj U U (Ab (Aa (Au (Ao _ U ?_ ?_)))))
  ·intro h1;replace h1:=AM h1;obtain ⟨x,hx⟩:=A8 (l:=acs) (i:=i);refine Ap (Aa (Au (A0 (Ae (AX R DA DB U U (by rfl) ?_)))));refine BW _ OH DB U U ((R.ext0 H.ext).row hx U) ?_;refine Ba JA H ?_;rintro b5 w - H;refine Bm DB U U U (by exact Ja _) H at0 U ?_;rintro w H;refine Ab (Aa (Ax (Ay U (Ah Ec U (AH Bs U H at0 U (Cj _ (.int _ _) AU Bz Ei U (by decide) (by decide) U U U H ?_))))));rintro b18 w - H;refine CF (L:=[_]) AU AU Bz Lh Ei U (by decide) U U H O U (by simp [Bg]) ?_;rintro a' c' full' w H O;refine A4 U (Ab (A6 (Aa (Ax (Aw U U ?_)))));refine Ad U (Ab (Aa ?_));exact ⟨⟨i+1,a',c',full'⟩,rfl,⟨rfl,rfl,trivial⟩,⟨by dsimp only; omega,by dsimp only; rw [Md hx,List.map_append]; exact O,H.tail⟩,by dsimp only; omega⟩
  ·intro h1;replace h1:=AN h1;refine Br (An (An (AK (Aa (Ae (Ay U (A4 U (Ab (Aa (A5 (A9 (v:=(.slice _ _ _)) U U U ?_)))))))))));obtain rfl:i=acs.length:=by omega
   rw [List.take_length] at O;exact Ctx.fresh (L:=[]) H O
def C5 (a:Ac):Int:=max 0 (a.ba - a.re)
def Me (a:Ac):Bool:=Df a.ba && Df a.re
set_option maxRecDepth 20000 in
set_option maxHeartbeats 2000000 in
theorem Aap {bd:Nat} (a:Option Addr) (n c:Nat) (acs:List Ac) (w:World) (hd:w.heap[bd]? = some (Bl 162 [.slice a n c])) (R:Rd w a 2 CX acs) (hn:acs.length=n) (hmay:∀ x∈acs,Me x=true)  (hm:n≤1000000:=by omega):
  Ret Tryz.prog 180 #[ptr bd] w fun v w'=>Fresh w w' 2 1 v ((acs.map C5).map Dm):=by
 obtain ⟨w0,rfl⟩:∃ w0,w0=w:=⟨_,rfl⟩;refine Az (fn:=Tryz.f180) Tryz.func180 U [.pointer (some ⟨bd,0,none⟩)] U (by kernel_rfl) ?_;refine Ae (A4 U (Ab (Aa (Ae (A4 U (Ab (Aa (Au (Ae (A2 U (Al Zs (Ps a n c acs _ hd R hn) U ?_)))))))))));rintro v w F;obtain ⟨a7,n7,c7,full7,rfl,O7,hb7⟩:=F.ex;have hl7:=O7.llen;rw [TU] at hl7;obtain rfl:acs.length=n7:=by omega
 refine Be DA U (Ad U (Ab (Aa (A0 ?_))));obtain ⟨w1,rfl⟩:∃ z,z=w:=⟨_,rfl⟩;have H:=Ctx.start w1 [];have R7:Rd w1 a7 2 CX acs:=OS.rd O7 (fun x hx=>(hb7 x hx).1) (fun _ _=>rfl) (by omega);refine Bv 8388136 (α:=LSt) (fun t=>[(3,.slice t.a t.i t.c),(9,.int .i64 (t.i:Int))]) (fun t w'=>t.i≤acs.length∧OS t.a t.i t.c 1 t.full (((acs.take t.i).map C5).map Dm)∧Ctx w1 [] w' (ent t.a 2 t.full)) (fun t=>acs.length - t.i) ⟨0,none,0,[]⟩ U ?_ ?_ ?_
 ·exact ⟨rfl,rfl,trivial⟩
 ·exact ⟨Nat.zero_le _,OS.nil,H⟩
 ·rintro ⟨i,a2,c2,full⟩ j w ⟨hi,O,H⟩; dsimp only at hi O H; dsimp only;refine Ae (Bj U U (Ab (Aa (Au (Ao _ U ?_ ?_)))))
  ·intro h1;replace h1:=AM h1;obtain ⟨x,hx⟩:=A8 (l:=acs) (i:=i);have hxm:=hmay x (List.mem_of_getElem? hx)
   have hx2:(0≤x.ba∧x.ba≤4503599627370496)∧0≤x.re∧x.re≤4503599627370496:=by
    unfold Me at hxm;rw [Bool.and_eq_true,C4,C4] at hxm;exact hxm
   refine Ap (Aa (Au (A0 (Ae (AX R7 DA DB U U (by rfl) ?_)))));refine BW _ OH DB U U ((R7.ext0 H.ext).row hx U) ?_;refine Ba JA H ?_;rintro b5 w - H;refine Bm DB U U U (by exact Ja _) H at0 U ?_;rintro w H;refine Ab (Aa (Ax (Ay U (Ah Ec U (AH Bs U H at0 U (Ah LO U (AH Bs U H at0 U (Bp U U ?_))))))));refine L9 U U U ?_;refine Cj _ (.int _ _) AU Bz Ei U (by decide) (by decide) U U U H ?_;rintro b20 w - H;refine CF (L:=[_]) AU AU Bz Lh Ei U (by decide) U U H O U (by simp [Bg]) ?_;rintro a' c' full' w H O;refine A4 U (Ab (A6 (Aa (Ax (Aw U U ?_)))));refine Ad U (Ab (Aa ?_));exact ⟨⟨i+1,a',c',full'⟩,rfl,⟨rfl,rfl,trivial⟩,⟨by dsimp only; omega,by dsimp only; rw [Md hx,List.map_append]; exact O,H.tail⟩,by dsimp only; omega⟩
  ·intro h1;replace h1:=AN h1;refine Br (An (An (AK (Aa (Ae (Ay U (A4 U (Ab (Aa (A5 (A9 (v:=(.slice _ _ _)) U U U ?_)))))))))));obtain rfl:i=acs.length:=by omega
   rw [List.take_length] at O;obtain ⟨⟨a3,n3,c3,f3,e1,e2,e3⟩,e4⟩:=Ctx.fresh (L:=[]) H O;exact ⟨⟨a3,n3,c3,f3,e1,e2,fun x hx=>⟨(e3 x hx).1,Nat.le_trans F.ext.size (e3 x hx).2⟩⟩,F.ext.trans e4⟩
end Go.Proofs.YtdagmpmdcgedcaaGreat
namespace Go.Proofs.YtdagmpmdcgedcaaGreat
open Go.GV
attribute [local irreducible] AD W Wq Wt
def Eu (acs:List Ac):Int:=if 16<acs.length then 6 else if acs.all Me=false then 1 else (EX (acs.map Ac.ba)).2
end Go.Proofs.YtdagmpmdcgedcaaGreat
namespace Go.Proofs.YtdagmpmdcgedcaaGreat
open Go.GV
attribute [local irreducible] AD W Wq Wt
def a00:Ac:=⟨0,0⟩
def acZ (acs:List Ac) (z:Nat→Int) (k i:Nat):Ac:=if i<k then ⟨z i,(acs.getD i a00).re⟩ else acs.getD i a00
def Sx (acs:List Ac) (z:Nat→Int) (k:Nat):List Ac:=(List.range acs.length).map (acZ acs z k)
theorem TV (acs:List Ac) (z:Nat→Int) (k:Nat):(Sx acs z k).length=acs.length:=by unfold Sx; simp
theorem Pt {acs:List Ac} {z:Nat→Int} {k i:Nat} (h:i<acs.length):(Sx acs z k)[i]? = some (acZ acs z k i):=DX h
theorem QO (acs:List Ac) (z:Nat→Int):Sx acs z 0=acs:=by
 refine List.ext_getElem? fun i=>?_
 rcases Nat.lt_or_ge i acs.length with h | h
 ·obtain ⟨e,he⟩:=A8 (h:=h);rw [Pt h,he];unfold acZ;rw [if_neg (by omega),Bi he]
 ·rw [List.getElem?_eq_none (by rw [TV]; exact h),List.getElem?_eq_none h]
theorem Aaq {acs:List Ac} {z:Nat→Int} {i:Nat}:(Sx acs z i).set i (acZ acs z (i+1) i)=Sx acs z (i+1):=by
 unfold Sx;refine IG U fun j hj hn=>?_;unfold acZ
 by_cases h:j<i
 ·rw [if_pos h,if_pos (by omega)]
 ·rw [if_neg h,if_neg (by omega)]
def shA (acs:List Ac) (ys:List Int):List Ac:=if Dz (acs.map Ac.ba) ys=0 then List.zipWith (fun a y=>⟨a.ba+y,a.re⟩) acs ys else acs
def shZ (acs:List Ac) (ys:List Int):List Int:=if Dz (acs.map Ac.ba) ys=0 then CS (acs.map Ac.ba) ys else []
theorem V7 {xs ys:List Int} (h:Dz xs ys=0):xs.length=ys.length:=by
 unfold Dz at h
 split at h
 ·omega
 ·rename_i h1
  have h2:(decide (xs.length=ys.length) && (xs.all Df && Iw ys))=true:=by simpa using h1
  simp only [Bool.and_eq_true,decide_eq_true_eq] at h2;exact h2.1
theorem Aj0 (acs:List Ac) (ys:List Int):(shZ acs ys).length≤acs.length:=by
 unfold shZ
 split
 ·unfold CS; rw [List.length_zipWith,List.length_map]; omega
 ·simp
theorem Aj1 (acs:List Ac) (ys:List Int):Sx acs (fun i=>(shZ acs ys).getD i 0) (shZ acs ys).length=shA acs ys:=by
 unfold shA shZ
 by_cases h:Dz (acs.map Ac.ba) ys=0
 ·rw [if_pos h,if_pos h];have hl:=V7 h;rw [List.length_map] at hl;have hsl:(CS (acs.map Ac.ba) ys).length=acs.length:=by unfold CS; rw [List.length_zipWith,List.length_map]; omega
  refine List.ext_getElem? fun i=>?_
  rcases Nat.lt_or_ge i acs.length with h7 | h7
  ·obtain ⟨e,he⟩:=A8 (h:=h7);obtain ⟨y,hy⟩:=A8 (l:=ys) (i:=i);rw [Pt h7,List.getElem?_zipWith,he,hy];unfold acZ;dsimp only;rw [if_pos (by omega),Bi he,Bi (IZ (xs:=acs.map Ac.ba) (x:=e.ba) (by rw [List.getElem?_map,he]; rfl) hy)]
  ·rw [List.getElem?_eq_none (by rw [TV]; exact h7),List.getElem?_eq_none (by rw [List.length_zipWith]; omega)]
 ·rw [if_neg h,if_neg h];exact QO _ _
theorem Aj2 {acs:List Ac} {ys zs:List Int} {v':Value} {w0 w1 w:World} (hz:zs=shZ acs ys) (hx:Ext [] w0 w1) (h1:Dz (acs.map Ac.ba) ys≠0→v' = .slice none 0 0) (h2:Dz (acs.map Ac.ba) ys=0→Fresh w1 w 2 1 v' ((CS (acs.map Ac.ba) ys).map Dm)) :
  ∃ a4 n4 c4,v' = .slice a4 n4 c4∧zs.length=n4∧Rd w a4 1 I1 zs∧(zs≠[]→w0.heap.size≤(adr a4).block):=by
 subst hz;unfold shZ
 by_cases h:Dz (acs.map Ac.ba) ys=0
 ·rw [if_pos h];obtain ⟨a,n,c,full,rfl,O,hb⟩:=(h2 h).ex;have hl:=O.llen;rw [List.length_map] at hl;refine ⟨a,n,c,rfl,by omega,O.rd1 fun x hx=>(hb x hx).1,fun hne=>?_⟩
  have hpos:0<n:=by
   have:=List.length_pos_iff.2 hne; omega
  obtain ⟨q,rfl⟩:=O.form hpos;exact Nat.le_trans hx.size (hb (q,Bl 2 full) (List.mem_singleton.2 U)).2
 ·rw [if_neg h];exact ⟨none,0,0,h1 h,rfl,Rd.nil,fun h=>absurd rfl h⟩
structure HSt where
 i:Nat
 full:List Value
set_option maxRecDepth 20000 in
set_option maxHeartbeats 4000000 in
theorem XQ {bd:Nat} (a b:Option Addr) (c m d:Nat) (full:List Value) (acs:List Ac) (ys:List Int) (w:World) (hd:w.heap[bd]? = some (Bl 162 [.slice a acs.length c])) (O:OS a acs.length c 2 full (acs.flatMap CX))
  (hb:∀ x∈ent a 43 full,w.heap[x.1]? = some x.2∧x.1≠bd) (Ry:Rd w b 1 I1 ys) (hm:ys.length=m)  (hn:acs.length≤1000000:=by omega) (hm2:m≤1000000:=by omega):
  Ret Tryz.prog 186 #[ptr bd,.slice b m d] w fun v w'=>v = .int .i64 (Dz (acs.map Ac.ba) ys)∧∃ full',OS a acs.length c 2 full' ((shA acs ys).flatMap CX)∧(∀ x∈ent a 43 full',w'.heap[x.1]? = some x.2)∧Ext ((ent a 43 full).map (·.1)) w w':=by
 obtain ⟨w0,rfl⟩:∃ w0,w0=w:=⟨_,rfl⟩;have R:Rd w0 a 2 CX acs:=OS.rd O (fun x hx=>(hb x hx).1) (fun _ _=>rfl) (by omega);obtain ⟨code,hcode⟩:∃ code,code=Dz (acs.map Ac.ba) ys:=⟨_,rfl⟩;obtain ⟨zs,hzs⟩:∃ zs,zs=shZ acs ys:=⟨_,rfl⟩;have hzl:zs.length≤acs.length:=by rw [hzs]; exact Aj0 acs ys
 rw [← Aj1,← hzs,← hcode];refine Az (fn:=Tryz.f186) Tryz.func186 U [.pointer (some ⟨bd,0,none⟩),.slice b m d] U (by kernel_rfl) ?_;refine Ae (Af U (Ab (Aa (Au (Ae (A2 U (Cw Nm U ?_)))))));refine Ab (Aa (Ao _ U ?_ ?_))
 ·intro h0;cases h0
 ·intro h0;refine Ap (Aa (Ae (A2 U (Al Vb (Ki a acs.length c acs _ hd R U (hm:=hn)) U ?_))));rintro v w F;obtain ⟨a3,n3,c3,f3,rfl,O3,hb3⟩:=F.ex;have hl3:=O3.llen;rw [List.length_map,List.length_map] at hl3;refine Ay U (Al Ah1 (XJ a3 b n3 c3 m d (acs.map Ac.ba) ys _ (O3.rd1 fun x hx=>(hb3 x hx).1) (by rw [List.length_map]; omega) (Ry.ext0 F.ext) hm hm2) U ?_);rintro v w ⟨v',rfl,hv1,hv2,hx15⟩;rw [← hcode];obtain ⟨a4,n4,c4,rfl,hn4,R4,hbz⟩:∃ a4 n4 c4,v' = .slice a4 n4 c4∧zs.length=n4∧Rd w a4 1 I1 zs∧(zs≠[]→w0.heap.size≤(adr a4).block):=Aj2 hzs F.ext hv1 hv2;refine CA U (AS U U (AS U U (A4 U (Af U (Ab (Aa (Au (Ae (Ay U (Be AU U ?_))))))))));refine Ad U (Ab (Aa (A0 ?_)));subst hn4;obtain ⟨w1,rfl⟩:∃ z,z=w:=⟨_,rfl⟩;have hx1:=F.ext.trans hx15;have hb1:∀ x∈ent a 43 full,w1.heap[x.1]? = some x.2:=fun x hx=>hx1.to (hb x hx).1 (by simp)
  obtain ⟨ids,hids⟩:∃ ids,ids=(ent a 43 full).map (·.1):=⟨_,rfl⟩
  have hidl:∀ y∈ids,y<w0.heap.size∧y≠bd:=fun y hy=>by
   rw [hids] at hy;obtain ⟨x,hx,rfl⟩:=List.mem_map.1 hy;exact ⟨Bb (hb x hx).1,(hb x hx).2⟩
  have H:Ctx w1 ids w1 (ent a 43 full):=⟨Ext.refl _ _,hb1,Ge,fun x hx => .inl (by rw [hids]; exact List.mem_map_of_mem (f:=(·.1)) hx)⟩;have hd1:=hx1.to hd (by simp);rw [← hids];refine Bv 17178820992 (α:=HSt) (fun t=>[(20,.int .i64 (t.i:Int))]) (fun t w'=>t.i≤zs.length∧OS a acs.length c 2 t.full ((Sx acs (fun i=>zs.getD i 0) t.i).flatMap CX)∧Ctx w1 ids w' (ent a 43 t.full)) (fun t=>zs.length - t.i) ⟨0,full⟩ U ?_ ?_ ?_
  ·exact ⟨rfl,trivial⟩
  ·exact ⟨Nat.zero_le _,by dsimp only; rw [QO]; exact O,H⟩
  ·rintro ⟨i,fu⟩ j w ⟨hi,O,H⟩; dsimp only at hi O H; dsimp only;refine Ae (Bj U U (Ab (Aa (Au (Ao _ U ?_ ?_)))))
   ·intro h1;replace h1:=AM h1;obtain ⟨z,hz⟩:=A8 (l:=zs) (i:=i);have hzne:zs≠[]:=fun h=>by rw [h] at hz; cases hz
    have hz0:zs.getD i 0=z:=Bi hz;obtain ⟨q,rfl⟩:=O.form (by omega);have hil:i<acs.length:=by omega
    obtain ⟨ac,hac⟩:=A8 (h:=hil);have hOl:=O.len;have hqn:=O.le;have hzb:(adr a4).block∉ids:=fun h=>by have:=hidl _ h; have:=hbz hzne; omega
    refine Ap (Aa (Au (A0 (Ae (Ad U (AX R4 AU Bz U U (by rfl) ?_))))));refine AV Bs U (((R4.ext H.ext hzb).fld hz U (j:=0) U)) ?_;refine Af U (Af U (Ab (Aa (Ax (A2 U (AA U (Ah E5 U (AV Ff U ((H.old (Aj hd1 _) (fun h=>(hidl _ h).2 rfl))) ?_))))))));refine Ad U (Ad U (Bn DA DB U U ?_));refine Ah Ec U (Ci (.int _ _) Bz U U U H at0 (by omega) ?_);rintro w H;refine Ab (A6 (Aa (Ax (Aw U U ?_))));refine Ad U (Ab (Aa ?_));rw [show 0+((i:Int)).toNat*2+0=i*2+0 by omega] at H;have O1:=OS.setf O (y:=acZ acs (fun i=>zs.getD i 0) (i+1) i) (j:=0) (v := .int .i64 z) (fun _=>rfl) (Pt hil) (by decide) (by unfold acZ CX; dsimp only; rw [if_pos (by omega),if_neg (by omega),hz0]; rfl);rw [Aaq] at O1;exact ⟨⟨i+1,_⟩,rfl,⟨rfl,trivial⟩,⟨by dsimp only; omega,O1,H⟩,by dsimp only; omega⟩
   ·intro h1;replace h1:=AN h1;refine Br (An (An (AK (Aa (Ae (Ad U (Af U (Ab (Aa (A5 (A9 (v:=(.int _ _)) U U U ?_)))))))))));obtain rfl:i=zs.length:=by omega
    exact ⟨rfl,fu,O,fun x hx=>H.blk x hx,(hx1.mono (by simp)).trans H.ext⟩
end Go.Proofs.YtdagmpmdcgedcaaGreat
namespace Go.Proofs.YtdagmpmdcgedcaaGreat
open Go.GV
attribute [local irreducible] AD W Wq Wt
end Go.Proofs.YtdagmpmdcgedcaaGreat
namespace Go.Proofs.YtdagmpmdcgedcaaGreat
open Go.GV
attribute [local irreducible] AD W Wq Wt
def inM (x y:Int):Bool:=Df x && G1 y
end Go.Proofs.YtdagmpmdcgedcaaGreat
namespace Go.Proofs.YtdagmpmdcgedcaaGreat
open Go.GV
attribute [local irreducible] AD W Wq Wt
end Go.Proofs.YtdagmpmdcgedcaaGreat
namespace Go.Proofs.YtdagmpmdcgedcaaGreat
open Go.GV
attribute [local irreducible] AD W Wq Wt
theorem Aar (x y:Ac):decide (x=y)=true↔CX x=CX y:=by
 obtain ⟨a,b⟩:=x;obtain ⟨c,d⟩:=y;simp [CX]
theorem Aas (x y:Du):decide (x=y)=true↔CT x=CT y:=by
 obtain ⟨a,b,c,d,e,f,g⟩:=x;obtain ⟨a',b',c',d',e',f',g'⟩:=y;simp [CT]
theorem Mf {α:Type} {xs ys:List α} (hl:xs.length=ys.length) (h:∀ (k:Nat) (x y:α),k<xs.length→xs[k]? = some x→ys[k]? = some y→x=y):xs=ys:=by
 refine List.ext_getElem? fun i=>?_
 rcases Nat.lt_or_ge i xs.length with h7 | h7
 ·obtain ⟨x,hx⟩:=A8 (l:=xs) (i:=i) (h:=h7);obtain ⟨y,hy⟩:=A8 (l:=ys) (i:=i);rw [hx,hy,h i x y h7 hx hy]
 ·rw [List.getElem?_eq_none (by omega),List.getElem?_eq_none (by omega)]
set_option maxRecDepth 20000 in
theorem XR (a b:Option Addr) (n c m d:Nat) (xs ys:List Ac) (w:World) (R:Rd w a 2 CX xs) (hn:xs.length=n) (hn2:n≤1000000) (Ry:Rd w b 2 CX ys) (hm:ys.length=m) (hm2:m≤1000000) :
  Ret Tryz.prog 68 #[.slice a n c,.slice b m d] w fun v w'=>v = .bool (decide (xs=ys))∧Ext [] w w':=by
 subst hn hm;obtain ⟨w0,rfl⟩:∃ w0,w0=w:=⟨_,rfl⟩;have H:=Ctx.start w0 [];refine Az (fn:=Tryz.f68) Tryz.func68 U [.slice a xs.length c,.slice b ys.length d] U (by kernel_rfl) ?_;refine Ae (Ai U (Ab (Aa (Au (Ae (Ay U (Be DA U (Ay U (Be DA U (C0 U U ?_))))))))));refine Ab (Aa (Ao _ U ?_ ?_))
 ·intro h1;replace h1:=C7 h1;refine Ae (Ai U (Ab (Aa (A5 (Aq (A9 (v:=(.bool _)) U U U ?_))))));exact ⟨congrArg Value.bool (decide_eq_false fun h=>by rw [h] at h1; simp at h1).symm,H.ext⟩
 ·intro h1;replace h1:=C8 h1;have hle:xs.length=ys.length:=by omega
  refine Ap (Aa (Au (Ae (Af U (Ab (Aa (A0 (Bv 67106864 (α:=Nat) (fun i=>[(5,.int .i64 (i:Int))]) (fun i w'=>i≤xs.length∧Ctx w0 [] w' []∧∀ (k:Nat) (x y:Ac),k<i→xs[k]? = some x→ys[k]? = some y→x=y) (fun i=>xs.length - i) 0 U ?_ ?_ ?_))))))))
  ·exact ⟨rfl,trivial⟩
  ·exact ⟨Nat.zero_le _,H,fun k x y h=>absurd h (Nat.not_lt_zero _)⟩
  ·clear H;rintro i j w ⟨hi,H,hb⟩;refine Au (Ae (Ad U (Ay U (Be DA U (Bj U U (Ab (Aa (Ao _ U ?_ ?_))))))))
   ·intro h2;replace h2:=AM h2;obtain ⟨x,hx⟩:=A8 (l:=xs) (i:=i);obtain ⟨y,hy⟩:=A8 (l:=ys) (i:=i);refine Ap (Aa (Au (A0 (Dw (fun x=>x=_) Bq (by kernel_rfl) U ?_))));refine Ch U (AY U (BE R DA DB U U (by rfl) ?_));refine Gu _ OH DB U U (by rintro _ rfl; exact ((R.ext0 H.drew.ext).row hx rfl)) ?_;refine Ch U (AY U (BE Ry DA DB U U (by rfl) ?_));refine Gu _ OH DB U U (by rintro _ rfl; exact ((Ry.ext0 H.drew.ext).row hy rfl)) ?_;refine Wh (ks:=[true,true]) (xs:=CX x) (ys:=CX y) (decide (x=y)) U (by kernel_rfl) U U ⟨rfl,rfl,trivial⟩ (Aar x y) ?_;refine BQ ?_;rintro _ rfl;replace H:=H.drew;refine Ao _ U ?_ ?_
    ·intro h3;refine Ae (Ai U (Ab (Aa (A5 (AB (Aq (Aq (AB (Aq (A9 (v:=(.bool _)) U U U ?_))))))))));have hne:¬ x=y:=by simpa using h3
     exact ⟨congrArg Value.bool (decide_eq_false fun h=>by subst h; rw [hx] at hy; injection hy with hy; exact hne hy).symm,H.ext⟩
    ·intro h3;refine Ap (A6 (Aa (Ax (Ad U (Aw U U ?_)))));refine Af U (Ab (Aa ?_));have heq:x=y:=by simpa using h3
     refine ⟨i+1,rfl,⟨rfl,trivial⟩,⟨by omega,H,fun k x' y' hk hx' hy'=>?_⟩,by omega⟩
     rcases Nat.lt_or_ge k i with h7 | h7
     ·exact hb k x' y' h7 hx' hy'
     ·obtain rfl:k=i:=by omega
      rw [hx] at hx'; rw [hy] at hy';cases hx'; cases hy';exact heq
   ·intro h2;replace h2:=AN h2;refine Br (An (An (AK (Aa (Ae (Ai U (Ab (Aa (A5 (A9 (v:=(.bool _)) U U U ?_))))))))));obtain rfl:i=xs.length:=by omega
    exact ⟨congrArg Value.bool (decide_eq_true (Mf hle hb)).symm,H.ext⟩
end Go.Proofs.YtdagmpmdcgedcaaGreat
namespace Go.Proofs.YtdagmpmdcgedcaaGreat
open Go.GV
attribute [local irreducible] AD W Wq Wt
set_option maxRecDepth 20000 in
theorem XS (a b:Option Addr) (n c m d:Nat) (xs ys:List Du) (w:World) (R:Rd w a 7 CT xs) (hn:xs.length=n) (hn2:n≤1000000) (Ry:Rd w b 7 CT ys) (hm:ys.length=m) (hm2:m≤1000000) :
  Ret Tryz.prog 69 #[.slice a n c,.slice b m d] w fun v w'=>v = .bool (decide (xs=ys))∧Ext [] w w':=by
 subst hn hm;obtain ⟨w0,rfl⟩:∃ w0,w0=w:=⟨_,rfl⟩;have H:=Ctx.start w0 [];refine Az (fn:=Tryz.f69) Tryz.func69 U [.slice a xs.length c,.slice b ys.length d] U (by kernel_rfl) ?_;refine Ae (Ai U (Ab (Aa (Au (Ae (Ay U (Be CE U (Ay U (Be CE U (C0 U U ?_))))))))));refine Ab (Aa (Ao _ U ?_ ?_))
 ·intro h1;replace h1:=C7 h1;refine Ae (Ai U (Ab (Aa (A5 (Aq (A9 (v:=(.bool _)) U U U ?_))))));exact ⟨congrArg Value.bool (decide_eq_false fun h=>by rw [h] at h1; simp at h1).symm,H.ext⟩
 ·intro h1;replace h1:=C8 h1;have hle:xs.length=ys.length:=by omega
  refine Ap (Aa (Au (Ae (Af U (Ab (Aa (A0 (Bv 67106864 (α:=Nat) (fun i=>[(5,.int .i64 (i:Int))]) (fun i w'=>i≤xs.length∧Ctx w0 [] w' []∧∀ (k:Nat) (x y:Du),k<i→xs[k]? = some x→ys[k]? = some y→x=y) (fun i=>xs.length - i) 0 U ?_ ?_ ?_))))))))
  ·exact ⟨rfl,trivial⟩
  ·exact ⟨Nat.zero_le _,H,fun k x y h=>absurd h (Nat.not_lt_zero _)⟩
  ·clear H;rintro i j w ⟨hi,H,hb⟩;refine Au (Ae (Ad U (Ay U (Be CE U (Bj U U (Ab (Aa (Ao _ U ?_ ?_))))))))
   ·intro h2;replace h2:=AM h2;obtain ⟨x,hx⟩:=A8 (l:=xs) (i:=i);obtain ⟨y,hy⟩:=A8 (l:=ys) (i:=i);refine Ap (Aa (Au (A0 (Dw (fun x=>x=_) Bq (by kernel_rfl) U ?_))));refine Ch U (AY U (BE R CE Cg U U (by rfl) ?_));refine Gu _ Fq Cg U U (by rintro _ rfl; exact ((R.ext0 H.drew.ext).row hx rfl)) ?_;refine Ch U (AY U (BE Ry CE Cg U U (by rfl) ?_));refine Gu _ Fq Cg U U (by rintro _ rfl; exact ((Ry.ext0 H.drew.ext).row hy rfl)) ?_;refine Wh (ks:=[true,true,true,true,true,true,false]) (xs:=CT x) (ys:=CT y) (decide (x=y)) U (by kernel_rfl) U U ⟨rfl,rfl,rfl,rfl,rfl,rfl,True.intro,True.intro⟩ (Aas x y) ?_;refine BQ ?_;rintro _ rfl;replace H:=H.drew;refine Ao _ U ?_ ?_
    ·intro h3;refine Ae (Ai U (Ab (Aa (A5 (AB (Aq (Aq (AB (Aq (A9 (v:=(.bool _)) U U U ?_))))))))));have hne:¬ x=y:=by simpa using h3
     exact ⟨congrArg Value.bool (decide_eq_false fun h=>by subst h; rw [hx] at hy; injection hy with hy; exact hne hy).symm,H.ext⟩
    ·intro h3;refine Ap (A6 (Aa (Ax (Ad U (Aw U U ?_)))));refine Af U (Ab (Aa ?_));have heq:x=y:=by simpa using h3
     refine ⟨i+1,rfl,⟨rfl,trivial⟩,⟨by omega,H,fun k x' y' hk hx' hy'=>?_⟩,by omega⟩
     rcases Nat.lt_or_ge k i with h7 | h7
     ·exact hb k x' y' h7 hx' hy'
     ·obtain rfl:k=i:=by omega
      rw [hx] at hx'; rw [hy] at hy';cases hx'; cases hy';exact heq
   ·intro h2;replace h2:=AN h2;refine Br (An (An (AK (Aa (Ae (Ai U (Ab (Aa (A5 (A9 (v:=(.bool _)) U U U ?_))))))))));obtain rfl:i=xs.length:=by omega
    exact ⟨congrArg Value.bool (decide_eq_true (Mf hle hb)).symm,H.ext⟩
end Go.Proofs.YtdagmpmdcgedcaaGreat
namespace Go.Proofs.YtdagmpmdcgedcaaGreat
open Go.GV
attribute [local irreducible] AD W Wq Wt
end Go.Proofs.YtdagmpmdcgedcaaGreat
namespace Go.Proofs.YtdagmpmdcgedcaaGreat
open Go.GV
attribute [local irreducible] AD W Wq Wt
theorem XT (ds:List Du):∀ v∈ds.flatMap CT,Bg v=true:=fun v hv=>by
 obtain ⟨a,_,h⟩:=List.mem_flatMap.1 hv;exact Dg a v h
theorem Pu (ds:List Du):(ds.flatMap CT).length=ds.length*7:=by
 induction ds with
 | nil=>rfl
 | cons a ds ih =>
  rw [List.flatMap_cons,List.length_append,ih];show 7+ds.length*7=(ds.length+1)*7;omega
end Go.Proofs.YtdagmpmdcgedcaaGreat
namespace Go.Proofs.YtdagmpmdcgedcaaGreat
open Go.GV
attribute [local irreducible] AD W Wq Wt
def pC (d:Du) (x:Int):Int:=if x<0 then 1 else if d.held=true then 14 else if d.am<x then 12 else 0
def pD (d:Du) (x:Int):Du:=if pC d x=0 then { d with am:=d.am - x } else d
set_option maxRecDepth 20000 in
set_option maxHeartbeats 2000000 in
theorem Aef {b7 bx:Nat} {d:Du} {x:Int} (w:World) (h7:w.heap[b7]? = some (Bl 67 (CT d))) (hx:w.heap[bx]? = some (Bl 2 [.int .i64 x])) (ham:0≤d.am∧d.am≤4503599627370496)  (hne:bx≠b7:=by omega):
  Ret Tryz.prog 222 #[ptr b7,ptr bx] w fun v w'=>v = .int .i64 (pC d x)∧Ctx w [b7] w' [(b7,Bl 67 (CT (pD d x)))]:=by
 obtain ⟨w0,rfl⟩:∃ w0,w0=w:=⟨_,rfl⟩;have H:=Ctx.start1 h7;have hn:bx∉[b7]:=by rw [List.mem_singleton]; exact hne
 refine Az (fn:=Tryz.f222) Tryz.func222 U [.pointer (some ⟨b7,0,none⟩),.pointer (some ⟨bx,0,none⟩)] U (by kernel_rfl) ?_;refine Ae (Af U (Ab (Aa (Au (A0 (Ae (AV Bs U ((H.old (Aj hx _) hn)) ?_)))))));refine Bj U U (Ai U (Ab (Aa (Ao _ U ?_ ?_))))
 ·intro h1;replace h1:=AM h1;refine Ae (Af U (Ab (Aa (A5 (AB (Aq (A9 (v:=(.int _ _)) U U U ?_)))))));have hp:pC d x=1:=if_pos h1;exact ⟨by rw [hp],by unfold pD; rw [hp,if_neg (by decide)]; exact H⟩
 ·intro h1;replace h1:=AN h1;refine Ae (A2 U (AA U (Ah LR U (AH KG U H at0 U (Ai U (Ab (Aa (Ao _ U ?_ ?_))))))))
  ·intro h2;refine Ae (Af U (Ab (Aa (A5 (AB (Aq (A9 (v:=(.int _ _)) U U U ?_)))))));have hp:pC d x=14:=by unfold pC; rw [if_neg (by omega),if_pos h2]
   exact ⟨by rw [hp],by unfold pD; rw [hp,if_neg (by decide)]; exact H⟩
  ·intro h2;refine Dw (fun x=>x=_) Bq (by kernel_rfl) U ?_;refine BR Bs U (by rintro _ rfl; exact ((H.old (Aj hx _) hn))) ?_;refine B5 U (AZ U (A3 EM U (Cc Bs U (by rintro _ rfl; exact H.drew) at0 U ?_)));refine Qw U U U (MD U U (BQ ?_));rintro _ rfl;replace H:=H.drew;refine Ao _ U ?_ ?_
   ·intro h3;replace h3:=AM h3;refine Ae (Af U (Ab (Aa (A5 (AB (Aq (A9 (v:=(.int _ _)) U U U ?_)))))));have hp:pC d x=12:=by unfold pC; rw [if_neg (by omega),if_neg (by rw [h2]; decide),if_pos h3]
    exact ⟨by rw [hp],by unfold pD; rw [hp,if_neg (by decide)]; exact H⟩
   ·intro h3;replace h3:=AN h3;refine Ap (A6 (Aa (DZ 8 Bq (by kernel_rfl) U U ?_)));refine B5 U (AZ U (A3 EM U (Cc Bs U (by rintro _ rfl; exact H.drew) at0 U ?_)));refine BR Bs U (by rintro _ rfl; exact ((H.old (Aj hx _) hn))) ?_;refine Ek U U ?_;refine AZ U (A3 EM U (BQ ?_));replace H:=H.drew;refine Ci (.int _ _) Bz U U U H at0 (by (simp; done)) ?_;rintro w H;refine Ab (Aa (Ae (Af U (Ab (Aa (A5 (A9 (v:=(.int _ _)) U U U ?_)))))));have hp:pC d x=0:=by unfold pC; rw [if_neg (by omega),if_neg (by rw [h2]; decide),if_neg (by omega)]
    exact ⟨by rw [hp],by unfold pD; rw [hp,if_pos rfl]; exact H⟩
def CQ (ds:List Du) (k:Int):Option Du:=ds.find? fun d=>d.id == k
theorem Hx (ds:List Du) (k:Int):Eo (dm ds) k=(CQ ds k).map Gm:=by
 induction ds with
 | nil=>rfl
 | cons x ds ih =>
  unfold dm Eo CQ at ih ⊢;rw [List.map_cons,List.find?_cons,List.find?_cons]
  cases h:x.id == k with
  | true=>rfl
  | false=>exact ih
def Hr:List Du→Int→Int→List Du
 | [],_,_=>[]
 | d::ds,k,x=>if d.id=k then (if d.am=x then ds else { d with am:=d.am - x }::ds) else d::Hr ds k x
theorem Aat {ds:List Du} {k x:Int} {d:Du} (h:CQ ds k=some d) (hx:d.am=x:=by omega):Lc (dm ds) k=dm (Hr ds k x):=by
 induction ds with
 | nil=>cases h
 | cons y ds ih =>
  unfold CQ at h;rw [List.find?_cons] at h
  by_cases e:y.id=k
  ·rw [show (y.id == k)=true by simpa using e] at h
   injection h with h
   subst h;unfold Hr;rw [if_pos e,if_pos hx];show (if y.id=k then dm ds else _)=_;rw [if_pos e]
  ·rw [show (y.id == k)=false by simpa using e] at h;unfold Hr;rw [if_neg e];show (if y.id=k then _ else (y.id,Gm y)::Lc (dm ds) k)=_;rw [if_neg e,ih h]; rfl
theorem Aau {ds:List Du} {k x:Int} {d:Du} (h:CQ ds k=some d) (hx:¬ d.am=x):LA (dm ds) k (Gm { d with am:=d.am - x })=dm (Hr ds k x):=by
 induction ds with
 | nil=>cases h
 | cons y ds ih =>
  unfold CQ at h;rw [List.find?_cons] at h
  by_cases e:y.id=k
  ·rw [show (y.id == k)=true by simpa using e] at h
   injection h with h
   subst h;unfold Hr;rw [if_pos e,if_neg hx];show (if y.id=k then (k,_)::dm ds else _)=_;rw [if_pos e,← e]; rfl
  ·rw [show (y.id == k)=false by simpa using e] at h;unfold Hr;rw [if_neg e];show (if y.id=k then _ else (y.id,Gm y)::LA (dm ds) k _)=_;rw [if_neg e,ih h]; rfl
def N9 (ds:List Du) (k x:Int):Int:=match CQ ds k with
 | none=>11
 | some d=>pC d x
def TW (ds:List Du) (k x:Int):List Du:=if N9 ds k x=0 then Hr ds k x else ds
def payF (bx:Nat):Value := .func (.func 222) #[] #[ptr bx]
set_option maxRecDepth 20000 in
set_option maxHeartbeats 2000000 in
theorem XU {bd b bx:Nat} {nx k x:Int} {o:Obj} {ds:List Du} (w:World) (hd:w.heap[bd]? = some (Bl 165 (DU b nx))) (hb:w.heap[b]? = some o) (hM:Db .u64 (dm ds) o) (hbd:bd≠b) (hf:CQ ds k=none) :
  Ret Tryz.prog 177 #[ptr bd,.int .u64 k,payF bx] w fun v w'=>v = .int .i64 (N9 ds k x)∧∃ o',Db .u64 (dm (TW ds k x)) o'∧Ctx w [b] w' [(b,o')]:=by
 obtain ⟨w0,rfl⟩:∃ w0,w0=w:=⟨_,rfl⟩;have H:=Ctx.start1 hb;have hc:N9 ds k x=11:=by unfold N9; rw [hf]
 have hmg:Eo (dm ds) k=none:=by rw [Hx,hf]; rfl
 unfold TW;rw [hc,if_neg (by decide)];refine Az (fn:=Tryz.f177) Tryz.func177 U [.pointer (some ⟨bd,0,none⟩),.int .u64 k,.func (.func 222) #[] #[.pointer (some ⟨bx,0,none⟩)]] U (by kernel_rfl) ?_;refine Ae (Af U (Ab (Aa (Au (Ae (A2 U (Cw I6 U ?_)))))));refine Ab (Aa (Ao _ U ?_ ?_))
 ·intro h0;cases h0
 ·intro h0;refine Ap (Aa (Ae (A2 U (AA U (Ah DP U (AV Fo U ((H.old (Aj hd _) (by rw [List.mem_singleton]; exact hbd))) ?_))))));refine Ad U (GK U F8 F5 OY U U H at0 hM ?_);rw [hmg];rw [Option.getD_none,Option.isSome_none];refine CA U (AS U U (AS U U (Ba Ex H ?_)));rintro b7 w - H;refine Bm Cg U U U (by exact Dg d00) H at0 U ?_;rintro w H;refine Ai U (Ab (Aa (Au (Ae (A7 U (BF U (Ab (Aa (Ao _ U ?_ ?_)))))))))
  ·intro h1;replace h1:=BG h1;refine Ae (Af U (Ab (Aa (A5 (Aq (A9 (v:=(.int _ _)) U U U ?_))))));exact ⟨rfl,o,hM,H.tail⟩
  ·intro h1;replace h1:=BH h1;cases h1
end Go.Proofs.YtdagmpmdcgedcaaGreat
