/- Part 8 of the proof. -/
import Derived.Test.YtffclglpjlcojaaGreatPart7
set_option maxRecDepth 20000
set_option maxHeartbeats 8000000
namespace Go.Proofs.YtffclglpjlcojaaGreat
open Go.GV Go.Proofs.Tryz
attribute [local irreducible] AG W Wq Wt
theorem VB(x:Nat)(w:World)(hx:x<=4503599627370496:=by omega):Ret prog 162 #[.int .u64 (x:Int)] w fun v w'=>∃r:Nat,v=.int .i64 (r:Int)/\x<2 ^ r/\r<=64/\(0<x->2 ^ r<=2*x)/\w=w':=by
 refine Ay (fn:=f162) func162 U [.int .u64 (x:Int)] U (Ad (Ae U (qA (Ao (An _ U ?_ ?_)))))
 .intro h;cases h
 .intro h;refine Aq (Aa (Ad (Af U (Al qB (TT x hx w) U ?_))));rintro v w ⟨r,rfl,h1,h2,h3,-,rfl⟩;refine Ae U (qA (A7 (AD (v:=(.int _ _)) U U U ?_)));exact⟨r,rfl,h1,h2,h3,rfl⟩
theorem Afu(l:Nat)(w:World)(h0:0<l:=by omega)(hl:l<=1000000000:=by omega):Ret prog 207 #[.int .i64 (l:Int)] w fun v w'=>∃r:Nat,v=.int .u64 (r:Int)/\0<r/\r<=2*l/\w=w':=by
 refine Ay (fn:=f207) func207 U [.int .i64 (l:Int)] U (Ad (Ae U (qA (Ad (Af U (DX U Ph Sn ?_))))));refine Al qB (VB l w) U ?_;rintro v w ⟨r,rfl,h1,h2,h3,rfl⟩;refine UU (a:=1) (n:=r) U U U h2 (Ae U (qA (A7 (AD (v:=(.int _ _)) U U U ?_))));have h4:=h3 h0;have h5:=Nat.two_pow_pos r;exact⟨2 ^ r,qaa (Value.int .u64) (by rw[Nat.one_mul,qcj (by omega)]),h5,h4,rfl⟩
theorem Abl{x y:Nat}(hx:x<18446744073709551616)(hy:y<18446744073709551616):x ^^^ y<18446744073709551616:=Nat.xor_lt_two_pow (n:=64) hx hy
section
variable {w:World}{q n c m s:Nat}{f:Nat->Int}
theorem Afv{z:Nat}(hs:w.heap[s]?=some (Bl 283 [.int .u64 (z:Int)]))(hz:z<18446744073709551616) :
  Ret prog 208 #[ptr s] w fun v w'=>∃z':Nat,v=.int .u64 (z':Int)/\z'<18446744073709551616/\Ctx w [s] w' [(s,Bl 283 [.int .u64 (z':Int)])]:=by
 obtain⟨w0,rfl⟩:=qD w;have H:=Ctx.start1 hs;refine Ay (fn:=f208) func208 U [.pointer (some ⟨s,0,none⟩)] U ?_;have b1:=Nat.mod_lt (z*2 ^ 13) (show 0<18446744073709551616 by decide);obtain⟨y1,hy1⟩:=qD (z*2 ^ 13 % 18446744073709551616);rw[<-hy1]at b1;refine Ad (Ae U (qA (Ec 9 Bq U U ?_)));refine B6 U (Bb U (Cc LA U (by rintro _ rfl;exact H.drew) at0 U ?_));refine B6 U (Bb U (Cc LA U (by rintro _ rfl;exact H.drew) at0 U ?_));refine Q0 (a:=z) (n:=13) U U U ?_;rw[<-hy1];refine MX (a:=z) (b:=y1) U U U hz b1 (Bb U (BT ?_));replace H:=H.drew;refine Ct (.int _ _) Sm U U U H at0 (by(simp;done)) ?_;rintro w H;refine qA ?_;obtain⟨z1,hz1⟩:=qD (z ^^^ y1);have c1:=Abl hz b1;rw[<-hz1]at c1;replace H:Ctx w0 [s] w [(s,Bl 283 [.int .u64 (z1:Int)])]:=by rw[hz1];exact H
 have b2:z1 / 2 ^ 7<18446744073709551616:=Nat.lt_of_le_of_lt (Nat.div_le_self _ _) c1;obtain⟨y2,hy2⟩:=qD (z1 / 2 ^ 7);rw[<-hy2]at b2;refine Ec 9 Bq U U (B6 U (Bb U (Cc LA U (by rintro _ rfl;exact H.drew) at0 U ?_)));refine B6 U (Bb U (Cc LA U (by rintro _ rfl;exact H.drew) at0 U ?_));refine X1 (a:=z1) (n:=7) U U U ?_;rw[<-hy2];refine MX (a:=z1) (b:=y2) U U U c1 b2 (Bb U (BT ?_));replace H:=H.drew;refine Ct (.int _ _) Sm U U U H at0 (by(simp;done)) ?_;rintro w H;refine qA ?_;obtain⟨z2,hz2⟩:=qD (z1 ^^^ y2);have c2:=Abl c1 b2;rw[<-hz2]at c2;replace H:Ctx w0 [s] w [(s,Bl 283 [.int .u64 (z2:Int)])]:=by rw[hz2];exact H
 have b3:=Nat.mod_lt (z2*2 ^ 17) (show 0<18446744073709551616 by decide);obtain⟨y3,hy3⟩:=qD (z2*2 ^ 17 % 18446744073709551616);rw[<-hy3]at b3;refine Ec 9 Bq U U (B6 U (Bb U (Cc LA U (by rintro _ rfl;exact H.drew) at0 U ?_)));refine B6 U (Bb U (Cc LA U (by rintro _ rfl;exact H.drew) at0 U ?_));refine Q0 (a:=z2) (n:=17) U U U ?_;rw[<-hy3];refine MX (a:=z2) (b:=y3) U U U c2 b3 (Bb U (BT ?_));replace H:=H.drew;refine Ct (.int _ _) Sm U U U H at0 (by(simp;done)) ?_;rintro w H;refine qA (Ad (Ax U (AE U (AB LA U H at0 U (Ae U (qA (A7 (AD (v:=(.int _ _)) U U U ?_))))))));exact⟨z2 ^^^ y3,rfl,Abl c2 b3,H⟩
theorem Abm{a b:Nat}(hd:w.heap[q]?=some (Bl 23 (CK f m)))(hn:n<=m)(hm:n<=1000000000)(hab:a<b:=by omega)(hb:b<=n:=by omega):
  Ret prog 183 #[.slice (some ⟨q,0,none⟩) n c,.int .i64 (a:Int),.int .i64 (b:Int)] w fun v w'=>v=.tuple #[]/\∃g,Sw a b f g/\Ctx w [q] w' [(q,Bl 23 (CK g m))]:=by
 obtain⟨w0,rfl⟩:=qD w;have H:=Ctx.start1 hd;obtain⟨l,rfl⟩:∃l,b=a+l:=⟨b - a,by omega⟩;have hl:((a+l:Nat):Int) - (a:Int)=(l:Int):=by omega
 refine Ay (fn:=f183) func183 U [.slice (some ⟨q,0,none⟩) n c,.int .i64 (a:Int),.int .i64 ((a+l:Nat):Int)] U ?_;refine Ad (Af U (Af U (Bu U U ?_)));rw[hl];refine Ae U (qA (Ad (Af U (CG U U (qA (An _ U ?_ ?_))))))
 .intro h1;replace h1:=AM h1;refine Ad (Af U (DX U Ph Ako ?_));refine AU Akt H ?_;rintro b7 w - H;refine Ct (.int _ _) Sm U U U H at0 (by decide) ?_;rintro w H;refine qA (Ad (Af U (Al qB (Afu l _) U ?_)));rintro v w ⟨M,rfl,hM0,hM,rfl⟩;refine Ae U (qA (Ad (Af U (Af U (Kd U U (show _<=(9223372036854775807:Int)by omega) ?_)))));refine DL U U (Az U U ?_);refine Bu U U ?_;rw[show(a:Int)+(l:Int) / 4*2 - 1=((a+l / 4*2 - 1:Nat):Int)by omega]
  refine Ae U (qA (A1 (Bt 36893488147351995904 (α:=Nat × (Nat->Int) × Nat) (fun t=>[(9,.int .i64 (t.1:Int))]) (fun t w'=>a<=t.1/\t.1<=a+l / 4*2+2/\t.2.2<18446744073709551616/\Sw a (a+l) f t.2.1/\Ctx w0 [q] w' [(b7,Bl 283 [.int .u64 (t.2.2:Int)]),(q,Bl 23 (CK t.2.1 m))]) (fun t=>a+l / 4*2+2 - t.1) (a+l / 4*2 - 1,f,l) U ?_ ?_ ?_)))
  .exact⟨rfl,trivial⟩
  .exact⟨by dsimp only;omega,by dsimp only;omega,by dsimp only;omega,.refl _,H⟩
  .rintro⟨i,g,z⟩ j0 w ⟨hi1,hi2,hz,hS,H⟩;dsimp only at hi1 hi2 hz hS H;dsimp only;refine Ao (Ad (Af U (Af U (Af U (Kd U U (show _<=(9223372036854775807:Int)by omega) ?_)))));refine DL U U (Az U U ?_);refine Az U U ?_;refine Kc U U (qA (An _ U ?_ ?_))
   .intro h2;replace h2:=AM h2;refine Aq (Aa (Ao (A1 (Ad (Al qB (Afv (H.get at0) hz) U ?_)))));rintro v w ⟨z2,rfl,hz2,H2⟩;replace H:=Ctx.back (L1:=[_]) (L2:=[_]) H H2;refine Af U (L7 U U U ?_);rw[show(M:Int) - 1=((M - 1:Nat):Int)by omega];refine J3 (a:=z2) (b:=M - 1) U U U (ha:=hz2) ?_;have hand:z2 &&& (M - 1)<=M - 1:=Nat.and_le_right;refine GZ U U Sn Ph (Ae U (qA (Ao (Ad (Af U (Af U (CG U U (qA ?_))))))));obtain⟨r,hr⟩:=qD (z2 &&& (M - 1));have hr2:r<=M - 1:=by rw[hr];exact Nat.and_le_right
    rw[<-hr];refine FS 123145302311936 (α:=Nat) (fun r=>[(10,.int .i64 (r:Int))]) (fun r w'=>r<l/\Ctx w0 [q] w' [(b7,Bl 283 [.int .u64 (z2:Int)]),(q,Bl 23 (CK g m))]) U ?_ ?_
    .skip
     refine An _ U ?_ ?_
     .intro h3;replace h3:=AM h3;refine A0 (Af U (Af U (Bu U U ?_)));refine Ae U (qA ?_);exact⟨r - l,rfl,⟨qaa (Value.int .i64) (by omega),trivial⟩,by omega,H⟩
     .intro h3;replace h3:=AN h3;refine Aq (Aa ?_);exact⟨r,rfl,⟨rfl,trivial⟩,by omega,H⟩
    .rintro r2 j1 w ⟨hr3,H⟩;refine Fh [([0,1,2,3,4,5,6,7,8,9,10,11,12,13,14,15,16],17),([18],19)] (fun z=>z.heap[q]?=some (Bl 23 (CK (g) m))) [17,19] Bq (H.drew.get at1) (AH U U ?_);refine B4 U (Bd U (B4 U (Bd U (Bd U (Ev U U ?_)))));refine B4 U (Bd U (Bd U (Ev U U ?_)));refine AP Bh Bo U U (B3 Bz U (fun _ hx=>(C5 hx)) ?_);refine B4 U (Bd U (AP Bh Bo U U ?_));refine B3 Bz U (fun _ hx=>(C5 hx)) (AP Bh Bo U U ?_);refine AR ?_;replace H:=H.drew;refine Ch (i) (fun z => .int .u64 (if z=i then(g) (a+r2)else(g) z)) (.int _ _) Bo U U U H at1 (by omega) (by rw[if_pos rfl];exact qaa (fun z=>Value.int .u64 ((g) z)) (by omega)) (fun z _ hz=>by rw[if_neg hz]) ?_;rintro w H
     refine Ab (B5 U (AH U U ?_));refine AP Bh Bo U U ?_;refine AR (Ch (a+r2) (fun z => .int .u64 (sw (g) (i) (a+r2) z)) (.int _ _) Bo U U U H at1 (by omega) (by rw[DW];exact qaa (fun z=>Value.int .u64 ((g) z)) (by omega)) (fun z _ hz=>by rw[DP hz]) ?_);rintro w H;refine Ab (B5 U (BG (A8 (Aa (A0 (Af U (Az U U ?_)))))));refine Ae U (qA ?_);exact⟨(i+1,sw g i (a+r2),z2),rfl,⟨rfl,trivial⟩,⟨by dsimp only;omega,by dsimp only;omega,hz2,hS.step i (a+r2) ⟨by omega,by omega⟩ ⟨by omega,by omega⟩,H⟩,by dsimp only;omega⟩
   .intro h2;replace h2:=AN h2;refine Bp (Am (Am (AO (CO U U ?_))));exact⟨rfl,g,hS,H.tail⟩
 .intro h1;replace h1:=AN h1;refine Aq (CO U U ?_);exact⟨rfl,f,.refl _,H⟩
end
structure PQ(f g:Nat->Int)(a b a' b':Nat):Prop where
 ha:a<=a'
 hab:a'<=b'
 hb:b'<=b
 sw:Sw a b f g
 out:∀x y,a<=x->x<y->y<b->¬(a'<=x/\y<b')->g x<=g y
 lb:0<a'->∀x,a'<=x->x<b'->g (a' - 1)<=g x
section
variable {f g g':Nat->Int}{a b a' b':Nat}
theorem PQ.swap(h:PQ f g a b a' b')(s:Sw a' b' g g'):PQ f g' a b a' b':=by
 refine⟨h.ha,h.hab,h.hb,h.sw.trans (s.mono h.ha h.hb),fun x y hx hxy hy hn=>?_,fun h0 x hx hxb=>?_⟩
 .by_cases ix:a'<=x/\x<b'
  .obtain⟨x2,h1,h2,h3⟩:=s.mem x ix.1 ix.2;rw[h3,s.out y (.inr (by omega))];exact h.out x2 y (qa0 h.ha h1) (by omega) hy (by omega)
  .rw[s.out x (by omega)]
   by_cases iy:a'<=y/\y<b'
   .obtain⟨y2,h1,h2,h3⟩:=s.mem y iy.1 iy.2;rw[h3];exact h.out x y2 hx (by omega) (qaw h2 h.hb) (by omega)
   .rw[s.out y (by omega)];exact h.out x y hx hxy hy hn
 .obtain⟨x2,h1,h2,h3⟩:=s.mem x hx hxb;rw[h3,s.out (a' - 1) (.inl (by omega))];exact h.lb h0 x2 h1 h2
theorem PQ.done(h:PQ f g a b a' b')(s:JW g a' b'):JW g a b:=fun x y hx hxy hy=>by
 by_cases hn:a'<=x/\y<b'
 .exact s x y hn.1 hxy hn.2
 .exact h.out x y hx hxy hy hn
theorem PQ.eq{i:Nat}(h:PQ f g a b a' b')(h0:0<a')(hle:g a'<=g (a' - 1))(hi:a'<i)(hi2:i<=b')(h1:∀x,a'<=x->x<i->g x<=g a')(h2:∀y,i<=y->y<b'->g a'<g y):PQ f g a b i b':=by
 refine⟨by have:=h.ha;omega,hi2,h.hb,h.sw,fun x y hx hxy hy hn=>?_,fun _ x hx hxb=>?_⟩
 .by_cases hin:a'<=x/\y<b'
  .have hxi:x<i:=by omega
   have hx1:=h1 x hin.1 hxi
   rcases qap y i with h3|h3
   .have:=h.lb h0 y (by omega) hin.2;omega
   .have:=h2 y h3 hin.2;omega
  .exact h.out x y hx hxy hy hin
 .have e1:=h1 (i - 1) (by omega) (by omega);have e2:=h2 x hx hxb;omega
theorem PartU.sw{mid lo hi:Nat}(p:PartU g a' mid b')(s:Sw lo hi g g')(h:(a'<=lo/\hi<=mid)\/(mid<lo/\hi<=b')):PartU g' a' mid b':=by
 have hm:g' mid=g mid:=s.out mid (by omega);refine⟨fun x hx hxm=>?_,fun y hy hyb=>?_⟩
 .rw[hm]
  by_cases ix:lo<=x/\x<hi
  .obtain⟨x2,h1,h2,h3⟩:=s.mem x ix.1 ix.2;rw[h3];exact p.le x2 (by omega) (by omega)
  .rw[s.out x (by omega)];exact p.le x hx hxm
 .rw[hm]
  by_cases iy:lo<=y/\y<hi
  .obtain⟨y2,h1,h2,h3⟩:=s.mem y iy.1 iy.2;rw[h3];exact p.ge y2 (by omega) (by omega)
  .rw[s.out y (by omega)];exact p.ge y hy hyb
theorem PQ.right{mid:Nat}(h:PQ f g a b a' b')(hm1:a'<=mid)(hm2:mid<b')(p:PartU g a' mid b')(s:JW g a' mid):PQ f g a b (mid+1) b':=by
 refine⟨by have:=h.ha;omega,by omega,h.hb,h.sw,fun x y hx hxy hy hn=>?_,fun _ x hx hxb=>p.ge x (by omega) hxb⟩
 by_cases hin:a'<=x/\y<b'
 .rcases qap y mid with h1|h1
  .exact s x y hin.1 hxy h1
  .have hxm:x<=mid:=by omega
   have e1:g x<=g mid:=by
    rcases qap x mid with h2|h2
    .exact p.le x hin.1 h2
    .rw[show x=mid by omega];exact qax _
   rcases qap mid y with h2|h2
   .exact qbg e1 (p.ge y h2 hin.2)
   .rw[show y=mid by omega];exact e1
 .exact h.out x y hx hxy hy hin
theorem PQ.left{mid:Nat}(h:PQ f g a b a' b')(hm1:a'<=mid)(hm2:mid<b')(p:PartU g a' mid b')(s:JW g (mid+1) b'):PQ f g a b a' mid:=by
 refine⟨h.ha,hm1,by have:=h.hb;omega,h.sw,fun x y hx hxy hy hn=>?_,fun h0 x hx hxb=>h.lb h0 x hx (by omega)⟩
 by_cases hin:a'<=x/\y<b'
 .rcases qap mid x with h1|h1
  .exact s x y h1 hxy hin.2
  .have hym:mid<=y:=by omega
   have e1:g x<=g mid:=by
    rcases qap x mid with h2|h2
    .exact p.le x hin.1 h2
    .rw[show x=mid by omega];exact qax _
   rcases qap mid y with h2|h2
   .exact qbg e1 (p.ge y h2 hin.2)
   .rw[show y=mid by omega];exact e1
 .exact h.out x y hx hxy hy hin
end
structure QSt where
 a:Nat
 b:Nat
 lim:Nat
 t8:Bool
 t9:Bool
 g:Nat->Int
theorem Ak4{q n c m:Nat}(hn:n<=m)(hm:n<=1000000000):∀(Z:Nat) {w:World} {f:Nat->Int} {a b lim:Nat},b - a<Z->w.heap[q]?=some (Bl 23 (CK f m))->a<=b->b<=n->lim<=1000->(0<a->∀x,a<=x->x<b->f (a - 1)<=f x) ->
  Ret prog 161 #[.slice (some ⟨q,0,none⟩) n c,.int .i64 (a:Int),.int .i64 (b:Int),.int .i64 (lim:Int)] w fun v w'=>v=.tuple #[]/\∃g,Sw a b f g/\JW g a b/\Ctx w [q] w' [(q,Bl 23 (CK g m))]:=by
 intro Z
 induction Z with
 |zero=>intro w f a b lim h;omega
 |succ Z ih =>
 intro w f a b lim hZ hd hab hb hlim hLB;obtain⟨w0,rfl⟩:=qD w;have H:=Ctx.start1 hd;refine Ay (fn:=f161) func161 U [.slice (some ⟨q,0,none⟩) n c,.int .i64 (a:Int),.int .i64 (b:Int),.int .i64 (lim:Int)] U ?_;refine Ad (Ai U (qA (Ad (Ai U (qA (A1 (Bt 21778071482940061661655974875633165532942 (α:=QSt) (fun t=>[(1,.int .i64 (t.a:Int)),(2,.int .i64 (t.b:Int)),(3,.int .i64 (t.lim:Int)),(8,.bool t.t8),(9,.bool t.t9)]) (fun t w'=>t.lim<=1000/\PQ f t.g a b t.a t.b/\Ctx w0 [q] w' [(q,Bl 23 (CK t.g m))]) (fun t=>t.b - t.a) ⟨a,b,lim,true,true,f⟩ U ?_ ?_ ?_)))))))
 .exact⟨rfl,rfl,rfl,rfl,rfl,trivial⟩
 .exact⟨hlim,⟨qan _,hab,qan _,.refl _,fun x y h1 h2 h3 h4=>absurd ⟨h1,h3⟩ h4,hLB⟩,H⟩
 .rintro⟨a',b',lim,t8,t9,g⟩ j0 w ⟨hlim,P,H⟩;dsimp only at hlim P H;dsimp only;have hP1:=P.ha;have hP2:=P.hab;have hP3:=P.hb;refine A1 (Ad (Af U (Af U (Bu U U ?_))));refine Ae U (qA (Ao (Ad (Af U (Kc U U (qA (An _ U ?_ ?_)))))))
  .intro h1;replace h1:=AM h1;refine Ad (A2 U (Af U (Af U (Al qB (SA (a:=a') (b:=b') (H.get at0) hP2 hn hm) U ?_))));rintro rv w ⟨rfl,g2,s2,o2,H2⟩;replace H:=Ctx.back (L1:=[_]) (L2:=[]) H H2;refine qA (A7 (Av (AF (Av (AF (FW U U ?_))))));exact⟨rfl,g2,(P.swap s2).sw,(P.swap s2).done o2,H⟩
  .intro h1;replace h1:=AN h1;refine Aq (Aa (Ao (Ad (Af U (BP U U (qA (An _ U ?_ ?_)))))))
   .intro h2;replace h2:=AM h2;refine Ad (A2 U (Af U (Af U (Al qB (TV (a:=a') (b:=b') (H.get at0) hn hm) U ?_))));rintro rv w ⟨rfl,g2,s2,o2,H2⟩;replace H:=Ctx.back (L1:=[_]) (L2:=[]) H H2;refine qA (A7 (Av (AF (Av (AF (FW U U ?_))))));exact⟨rfl,g2,(P.swap s2).sw,(P.swap s2).done o2,H⟩
   .intro h2;replace h2:=AN h2;refine Aq (Aa (Ao (Ad (Aw U (BE U (qA (FS 4329327034376 (α:=Nat × (Nat->Int)) (fun t=>[(3,.int .i64 (t.1:Int))]) (fun t w'=>t.1<=1000/\PQ f t.2 a b a' b'/\Ctx w0 [q] w' [(q,Bl 23 (CK t.2 m))]) U ?_ ?_)))))))
    .skip
     refine An _ U ?_ ?_
     .intro h3;replace h3:=B7 h3;refine Ad (A2 U (Af U (Af U (Al qB (Abm (a:=a') (b:=b') (H.get at0) hn hm) U ?_))));rintro rv w ⟨rfl,g2,s2,H2⟩;replace H:=Ctx.back (L1:=[_]) (L2:=[]) H H2;refine qA (A0 (Af U (Bu U U ?_)));refine Ae U (qA ?_);exact⟨(lim - 1,g2),rfl,⟨qaa (Value.int .i64) (by dsimp only;omega),trivial⟩,by dsimp only;omega,P.swap s2,H⟩
     .intro h3;replace h3:=B9 h3;refine Aq (Aa ?_);exact⟨(lim,g),rfl,⟨rfl,trivial⟩,hlim,P,H⟩
    .rintro⟨lim,g⟩ j1 w ⟨hlim,P,H⟩;dsimp only at hlim P H;dsimp only;refine Ad (A2 U (Af U (Af U (Al qB (Abk (a:=a') (b:=b') (H.get at0) hn hm) U ?_))));rintro rv w ⟨p,hint,hp1,hp2,rfl,hx46⟩;replace H:=H.call hx46;refine Cb U (AJ U U (AJ U U (Ae U (Ae U (qA (Ao (Ad (Af U (BP U U ?_)))))))));refine qA (FS 2303591209400014848 (α:=Nat × Int × (Nat->Int)) (fun t=>[(11,.int .i64 (t.1:Int)),(12,.int .i64 t.2.1)]) (fun t w'=>a'<=t.1/\t.1<b'/\PQ f t.2.2 a b a' b'/\Ctx w0 [q] w' [(q,Bl 23 (CK t.2.2 m))]) U ?_ ?_)
     .skip
      refine An _ U ?_ ?_
      .intro h4;replace h4:=AM h4;refine Ad (A2 U (Af U (Af U (Al qB (V9 (a:=a') (b:=b') (H.get at0) hn hm) U ?_))));rintro rv w ⟨rfl,g2,s2,H2⟩;replace H:=Ctx.back (L1:=[_]) (L2:=[]) H H2;refine qA (Ad (Af U (Bu U U ?_)));refine Af U (Af U (Bu U U ?_));refine Bu U U (Ae U (qA (A0 (Ae U (qA ?_)))));exact⟨(b' - 1 - (p - a'),1,g2),rfl,⟨qaa (Value.int .i64) (by dsimp only;omega),rfl,trivial⟩,by dsimp only;omega,by dsimp only;omega,P.swap s2,H⟩
      .intro h4;replace h4:=AN h4;refine Aq (Aa ?_);exact⟨(p,hint,g),rfl,⟨rfl,rfl,trivial⟩,hp1,hp2,P,H⟩
     .rintro⟨p,hint,g⟩ j2 w ⟨hp1,hp2,P,H⟩;dsimp only at hp1 hp2 P H;dsimp only;refine Ao (DQ 587989967349491957760 (α:=Bool) (fun t=>[(68,.bool t)]) (fun _ w'=>Ctx w0 [q] w' [(q,Bl 23 (CK g m))]) U ?_ ?_)
      .skip
       refine A0 (Aw U (Aw U (AK 62 U ?_ ?_)))
       .intro h1;refine Aw U (A6 U (.bool _) U (Aw U (AK 65 U ?_ ?_)))
        .intro h2;refine Af U (BP U U (A6 U (.bool _) U (qA ?_)));exact⟨_,rfl,⟨rfl,trivial⟩,H⟩
        .intro h3;refine Ag U (Ag U (A9 U (.bool _) U (qA ?_)));exact⟨_,rfl,⟨rfl,trivial⟩,H⟩
       .intro h4;refine Ag U (A9 U (.bool _) U (Aw U (Ag U (Ag U (A9 U (.bool _) U (qA ?_))))));exact⟨_,rfl,⟨rfl,trivial⟩,H⟩
      .rintro t68 j3 w H;refine FS 8854437155380584775680 (α:=Nat->Int) (fun _=>[]) (fun g w'=>PQ f g a b a' b'/\Ctx w0 [q] w' [(q,Bl 23 (CK g m))]) U ?_ ?_
       .skip
        refine An _ U ?_ ?_
        .intro h5;refine Ad (A2 U (Af U (Af U (Al qB (VA (a:=a') (b:=b') (H.get at0) hn hm P.lb) U ?_))));rintro rv w ⟨t72,g2,rfl,s2,o2,H2⟩;replace H:=Ctx.back (L1:=[_]) (L2:=[]) H H2;refine qA (An _ U ?_ ?_)
         .intro h6;refine A7 (Av (AF (Av (AF (FW U U ?_)))));exact⟨rfl,g2,(P.swap s2).sw,(P.swap s2).done (o2 h6),H⟩
         .intro h6;refine Aq (Aa ?_);exact⟨g2,rfl,trivial,P.swap s2,H⟩
        .intro h5;refine Aq (Aa ?_);exact⟨g,rfl,trivial,P,H⟩
       .rintro g j4 w ⟨P,H⟩;have hP1:=P.ha;have hP3:=P.hb;have e1:((a':Int) - 1).toNat=a' - 1:=by omega
        refine Ao (DQ 309475565088379329434353664 (α:=Unit) (fun _=>[(87,.bool (decide (0<a'/\¬g (a' - 1)<g p)))]) (fun _ w'=>Ctx w0 [q] w' [(q,Bl 23 (CK g m))]) U ?_ ?_)
        .skip
         refine FX 12 Bq U U (AX U (Qy U U U (CZ U (D6 75 U ?_ ?_))))
         .intro h5;replace h5:=AM h5;refine Cm U (AX U (DY U U ?_));refine Bi Bh Bo U U ?_;refine BX Bz U (by rintro _ rfl;exact((C5 (H.drew.get at0)))) ?_;refine Cm U (AX U (Bi Bh Bo U U ?_));refine BX Bz U (by rintro _ rfl;exact((C5 (H.drew.get at0)))) ?_;refine BT ?_;replace H:=H.drew;refine Al qB (Fl _ _ _) U ?_;rintro v w ⟨rfl,rfl⟩;rw[e1,qbe];refine BE U (A6 U (.bool _) U (qA ?_));exact⟨(),rfl,⟨qaa Value.bool (by clear P ih hLB;rw[qad];simp_all;try omega),trivial⟩,H⟩
         .intro h6;replace h6:=AN h6;refine A3 U (A3 U (A3 U (A3 U (A3 U (A3 U (A3 U (A3 U (A3 U (BT ?_)))))))));replace H:=H.drew;refine Ag U (Ag U (A9 U (.bool _) U (qA ?_)));exact⟨(),rfl,⟨qaa Value.bool (by clear P ih hLB;rw[qad];simp_all;try omega),trivial⟩,H⟩
        .rintro - j5 w H;refine An _ U ?_ ?_
         .intro h7;have h7:=qba h7;refine Ad (A2 U (Af U (Af U (Af U (Al qB (Ye (a:=a') (b:=b') (p:=p) (H.get at0) hn hm ⟨hp1,hp2⟩) U ?_)))));rintro rv w ⟨i,g2,rfl,s2,hi1,hi2,hga,o1,o2,H2⟩;replace H:=Ctx.back (L1:=[_]) (L2:=[]) H H2;refine Ae U (qA (Ad (Af U (Ae U (qA (Bp (Am (AO (Aa ?_)))))))));have P2:=P.swap s2;have hout:=s2.out (a' - 1) (.inl (by omega));exact⟨⟨i,b',lim,t8,t9,g2⟩,rfl,⟨rfl,rfl,rfl,rfl,rfl,trivial⟩,⟨hlim,P2.eq h7.1 (by rw[hga,hout];omega) hi1 hi2 o1 o2,H⟩,by dsimp only;omega⟩
         .intro h7;refine Aq (Aa (Ad (A2 U (Af U (Af U (Af U (Al qB (SB (a:=a') (b:=b') (p:=p) (H.get at0) hn hm ⟨hp1,hp2⟩) U ?_)))))));rintro rv w ⟨mid,t,g2,rfl,s2,hm1,hm2,PP,H2⟩;replace H:=Ctx.back (L1:=[_]) (L2:=[]) H H2;refine Cb U (AJ U U (AJ U U (Ae U (Ai U (qA ?_)))));have P2:=P.swap s2;refine Ad (Aw U (Ai U (qA (Ad (Af U (Af U (Bu U U ?_)))))));refine Af U (Af U (Bu U U ?_));refine Ae U (Ae U (qA (Ad (Af U (Kd U U (show _<=(9223372036854775807:Int)by omega) ?_)))));refine Ae U (qA (Ad (Af U (Af U (Bm U U (qA (An _ U ?_ ?_)))))))
          .intro h8;replace h8:=AM h8;refine Ad (Af U (Af U (CG U U (Ai U (qA (Ad (A2 U (Af U (Af U ?_)))))))));refine Af U (Al qB (ih (a:=a') (b:=mid) (lim:=lim) (f:=g2) (by omega) (H.get at0) hm1 (by omega) hlim (fun h0 x hx hxb=>P2.lb h0 x hx (by omega))) U ?_);rintro rv w ⟨rfl,g3,s3,o3,H2⟩;replace H:=Ctx.back (L1:=[_]) (L2:=[]) H H2;refine qA (A0 (Af U (Az U U ?_)));refine Ae U (Ab (A8 (Aa ?_)));have P3:=P2.swap (s3.mono (qan _) (by omega));exact⟨⟨mid+1,b',lim,_,t,g3⟩,rfl,⟨rfl,rfl,rfl,rfl,rfl,trivial⟩,⟨hlim,P3.right hm1 hm2 (PartU.sw PP s3 (.inl ⟨qan _,qan _⟩)) o3,H⟩,by dsimp only;omega⟩
          .intro h8;replace h8:=AN h8;refine Ad (Af U (Af U (CG U U (Ai U (qA (Ad (A2 U (Af U (Az U U ?_)))))))));rw[show(mid:Int)+1=((mid+1:Nat):Int)by omega];refine Af U (Af U (Al qB (ih (a:=mid+1) (b:=b') (lim:=lim) (f:=g2) (by omega) (H.get at0) (by omega) (by omega) hlim (fun _ x hx hxb=>PP.ge x (by omega) hxb)) U ?_));rintro rv w ⟨rfl,g3,s3,o3,H2⟩;replace H:=Ctx.back (L1:=[_]) (L2:=[]) H H2;refine qA (A0 (Af U (Ae U (Ab (A8 (Aa ?_))))));have P3:=P2.swap (s3.mono (by omega) (qan _));have P4:=P3.left hm1 hm2 (PartU.sw PP s3 (.inr ⟨by omega,qan _⟩)) o3;exact⟨⟨a',mid,lim,_,t,g3⟩,rfl,⟨rfl,rfl,rfl,rfl,rfl,trivial⟩,⟨hlim,P4,H⟩,by show mid - a'<b' - a';omega⟩
theorem Abn{q n c m:Nat}{w:World}{f:Nat->Int}(hd:w.heap[q]?=some (Bl 23 (CK f m)))(hn:n<=m)(hm:n<=1000000000) :
  Ret prog 127 #[.slice (some ⟨q,0,none⟩) n c] w fun v w'=>v=.tuple #[]/\∃g,(tab g n).Perm (tab f n)/\JW g 0 n/\Ctx w [q] w' [(q,Bl 23 (CK g m))]:=by
 obtain⟨w0,rfl⟩:=qD w;refine Ay (fn:=f127) func127 U [.slice (some ⟨q,0,none⟩) n c] U ?_;refine Ad (A2 U (Ba Bh U (Ae U (qA (A0 (A2 U (Af U (Af U (DX U Ph Sn ?_)))))))));refine Al qB (VB n _) U ?_;rintro v w ⟨r,rfl,h1,h2,h3,rfl⟩;refine Al qB (Ak4 hn hm (n+1) (a:=0) (b:=n) (lim:=r) (by omega) hd (qaj _) (qan _) (by omega) (fun h=>absurd h (Nat.lt_irrefl _))) U ?_;rintro rv w ⟨rfl,g,s,o,H⟩;refine Ab (CO U U ?_);exact⟨rfl,g,s.perm (qan _),o,H⟩
theorem VC(c:Nat)(w:World):Ret prog 127 #[.slice none 0 c] w fun v w'=>v=.tuple #[]/\w=w':=by
 have ins:∀w,Ret prog 181 #[.slice none 0 c,.int .i64 0,.int .i64 0] w fun v w'=>v=.tuple #[]/\w=w':=fun w=>by
  refine Ay (fn:=f181) func181 U [.slice none 0 c,.int .i64 0,.int .i64 0] U (Ad (Af U (Az U U ?_)));refine Ae U (qA (A1 (Bt 562949953420480 (α:=Unit) (fun _=>[(6,.int .i64 1)]) (fun _ w'=>w=w') (fun _=>0) () U ?_ ?_ ?_)))
  .exact⟨rfl,trivial⟩
  .rfl
  .rintro - j0 w rfl;refine Ao (Ad (Af U (Af U (Bm U U (qA (An _ U ?_ ?_))))))
   .intro h1;replace h1:=AM h1;omega
   .intro h1;replace h1:=AN h1;refine Bp (Am (Am (AO (CO U U ?_))));exact⟨rfl,rfl⟩
 have pdq:∀(r:Nat) (w:World),Ret prog 161 #[.slice none 0 c,.int .i64 0,.int .i64 0,.int .i64 (r:Int)] w fun v w'=>v=.tuple #[]/\w=w':=fun r w=>by
  refine Ay (fn:=f161) func161 U [.slice none 0 c,.int .i64 0,.int .i64 0,.int .i64 (r:Int)] U ?_;refine Ad (Ai U (qA (Ad (Ai U (qA (A1 (Bt 21778071482940061661655974875633165532942 (α:=Unit) (fun _=>[(1,.int .i64 0),(2,.int .i64 0),(3,.int .i64 (r:Int)),(8,.bool true),(9,.bool true)]) (fun _ w'=>w=w') (fun _=>0) () U ?_ ?_ ?_)))))))
  .exact⟨rfl,rfl,rfl,rfl,rfl,trivial⟩
  .rfl
  .rintro - j0 w rfl;refine A1 (Ad (Af U (Af U (Bu U U ?_))));refine Ae U (qA (Ao (Ad (Af U (Kc U U (qA (An _ U ?_ ?_)))))))
   .intro h1;replace h1:=AM h1;refine Ad (A2 U (Af U (Af U (Al qB (ins _) U ?_))));rintro v w ⟨rfl,rfl⟩;refine qA (A7 (Av (AF (Av (AF (FW U U ?_))))));exact⟨rfl,rfl⟩
   .intro h1;replace h1:=AN h1;omega
 refine Ay (fn:=f127) func127 U [.slice none 0 c] U (Ad (A2 U (Ba Bh U (Ae U (qA (A0 (A2 U (Af U (Af U (DX U Ph Sn ?_))))))))));refine Al qB (VB 0 _) U ?_;rintro v w ⟨r,rfl,h1,h2,h3,rfl⟩;refine Al qB (pdq r _) U ?_;rintro v w ⟨rfl,rfl⟩;refine Ab (CO U U ?_);exact⟨rfl,rfl⟩
def Dc(x:Int):Bool:=decide (0<=x) && decide (x<=4503599627370496)
theorem JK(x:Int)(w:World):Ret prog 96 #[.int .i64 x] w fun v w'=>v=.bool (Dc x)/\w=w':=by
 obtain⟨w0,rfl⟩:=qD w;refine Ay (fn:=f96) func96 U [.int .i64 x] U (Ad (Ai U (qA (Ad (Af U (CG U U (Aw U (AK 5 U ?_ ?_))))))))
 .intro h1;replace h1:=AM h1;refine Af U (Kc U U (A6 U (.bool _) U (Ai U (qA (A7 (AD (v:=(.bool _)) U U U ?_))))));exact⟨qaa Value.bool (by unfold Dc;rw[qad];simp_all;try omega),rfl⟩
 .intro h2;replace h2:=AN h2;refine Ag U (Ag U (A9 U (.bool _) U (Ai U (qA (A7 (AD (v:=(.bool _)) U U U ?_))))));exact⟨qaa Value.bool (by unfold Dc;rw[qad];simp_all;try omega),rfl⟩
theorem QP(a:Option Addr)(n c:Nat)(xs:List Int)(w:World)(R:Rd w a 1 I1 xs)(hn:xs.length=n)(hn2:n<=1000000) :
  Ret prog 137 #[.slice a n c] w fun v w'=>v=.bool (xs.all Dc)/\w=w':=by
 subst hn;obtain⟨w0,rfl⟩:=qD w;refine Ay (fn:=f137) func137 U [.slice a xs.length c] U (Ad (Ai U (qA (Ao (Ad (A2 U (Ba AV U (Af U (qA (A1 ?_))))))))));refine Bt 32660 (α:=Nat) (fun i=>[(7,.int .i64 (i:Int))]) (fun i w'=>i<=xs.length/\w0=w'/\∀(k:Nat) (x:Int),k<i->xs[k]?=some x->Dc x=true) (fun i=>xs.length - i) 0 U ?_ ?_ ?_
 .exact⟨rfl,trivial⟩
 .exact⟨qaj _,rfl,fun k x h=>absurd h (qa7 _)⟩
 .rintro i j w ⟨hi,rfl,hb⟩;refine Ad (Bm U U (qA (Ao (An _ U ?_ ?_))))
  .intro h1;replace h1:=AM h1;obtain⟨x,hx⟩:=AA (l:=xs) (i:=i);refine Aq (Aa (Ao (A1 (Ad (Be R AV B2 U U (by rfl) ?_)))));refine Bc Bw U ((R.fld hx U (j:=0) U)) (Ae U (qA (Ad (Af U (Al qB (JK x _) U ?_)))));rintro v w ⟨rfl,rfl⟩;refine BE U (qA (An _ U ?_ ?_))
   .intro h2;replace h2:=B7 h2;refine Ad (Ai U (qA (A7 (AF (Av (Av (AF (Av (AD (v:=(.bool _)) U U U ?_)))))))));refine⟨qaa Value.bool ?_,rfl⟩;exact(Ew hx (show Dc x=false by simpa using h2)).symm
   .intro h2;replace h2:=B9 h2;refine Aq (A8 (Aa (A0 (Az U U ?_))));refine Af U (qA ?_);refine⟨i+1,rfl,⟨rfl,trivial⟩,⟨by omega,rfl,fun k y hk hy=>?_⟩,by omega⟩
    rcases qap k i with h7|h7
    .exact hb k y h7 hy
    .obtain rfl:k=i:=by omega
     rw[hx]at hy;cases hy
     simpa using h2
  .intro h1;replace h1:=AN h1;refine Bp (Am (Am (AO (Aa (Ad (Ai U (qA (A7 (AD (v:=(.bool _)) U U U ?_)))))))));exact⟨qaa Value.bool (Fx fun k x hk hx=>hb k x (by omega) hx).symm,rfl⟩
def Cw(xs:List Int):Int:=xs.foldl (·+·) 0
theorem Yf(xs:List Int):∀a:Int,xs.foldl (·+·) a=a+Cw xs:=by
 induction xs with
 |nil=>intro a;show a=a+0;omega
 |cons x xs ih =>
  intro a;show xs.foldl (·+·) (a+x)=a+xs.foldl (·+·) (0+x);rw[ih,ih (0+x)];omega
theorem Lc{xs:List Int}{i:Nat}{x:Int}(h:xs[i]?=some x):Cw (xs.take (i+1))=Cw (xs.take i)+x:=by
 rw[qbw,h];unfold Cw;rw[qdk];rfl
theorem Cg(x:Int)(xs:List Int):Cw (x::xs)=x+Cw xs:=by
 show xs.foldl (·+·) (0+x)=_;rw[Yf];omega
theorem EL(xs ys:List Int):Cw (xs++ys)=Cw xs+Cw ys:=by
 induction xs with
 |nil=>show Cw ys=0+_;omega
 |cons x xs ih=>rw[qcx,Cg,Cg,ih];omega
theorem Yg{xs ys:List Int}(h:xs.Perm ys):Cw xs=Cw ys:=by
 induction h with
 |nil=>rfl
 |cons x _ ih=>rw[Cg,Cg,ih]
 |swap x y l=>rw[Cg,Cg,Cg,Cg];omega
 |trans _ _ h1 h2=>exact h1.trans h2
theorem Hm{xs:List Int}(h:∀x∈xs,0<=x):0<=Cw xs:=by
 induction xs with
 |nil=>exact qax _
 |cons x xs ih =>
  rw[Cg];have:=h x (qai ..);have:=ih fun y hy=>h y (qah _ hy);omega
theorem Abo(f:Nat->Int)(n:Nat):Cw (tab f n)=BC f n:=by
 induction n with
 |zero=>rfl
 |succ n ih =>
  unfold tab at ih |-;rw[qdz,qay,EL,ih];show _+(0+f n)=BC f n+f n;omega
def ER(xs:List Int):Int × Int:=if xs.all Dc=false then(0,1)else if Cw xs<=4503599627370496 then(Cw xs,0)else(0,13)
theorem CN{x:Int}:Dc x=true↔0<=x/\x<=4503599627370496:=by unfold Dc;simp
theorem Le(a:Option Addr)(n c:Nat)(xs:List Int)(w:World)(R:Rd w a 1 I1 xs)(hn:xs.length=n)(hn2:n<=1000000:=by omega):
  Ret prog 97 #[.slice a n c] w fun v w'=>v=.tuple #[.int .i64 (ER xs).1,.int .i64 (ER xs).2]/\w=w':=by
 subst hn;obtain⟨w0,rfl⟩:=qD w;refine Ay (fn:=f97) func97 U [.slice a xs.length c] U (Ad (Ae U (Ae U (qA (Ao (Ad (A2 U (Al qB (QP a xs.length c xs _ R U hn2) U ?_))))))));rintro v w ⟨rfl,rfl⟩;refine BE U (qA (An _ U ?_ ?_))
 .intro h1;replace h1:=B7 h1;refine Ad (Ae U (Ae U (qA (A7 (Av (BR (v1:=(.int _ _)) (v2:=(.int _ _)) U U U U ?_))))));have h1':xs.all Dc=false:=by simpa using h1
  exact⟨by unfold ER;rw[if_pos h1'],rfl⟩
 .intro h1;replace h1:=B9 h1;have h1':xs.all Dc=true:=by simpa using h1
  have hall:∀(k:Nat) (x:Int),xs[k]?=some x->0<=x/\x<=4503599627370496:=fun k x hx=>CN.1 (qau.1 h1' x (qac hx));have hpos:∀x∈xs,0<=x:=fun x hx=>(CN.1 (qau.1 h1' x hx)).1;refine Aq (Aa (Ad (Ae U (qA (Ao (Ad (A2 U (Ba AV U (Af U (qA ?_))))))))));refine A1 (Bt 8384604 (α:=Nat) (fun i=>[(4,.int .i64 (Cw (xs.take i))),(12,.int .i64 (i:Int))]) (fun i w'=>i<=xs.length/\w0=w'/\Cw (xs.take i)<=4503599627370496) (fun i=>xs.length - i) 0 U ?_ ?_ ?_)
  .exact⟨rfl,rfl,trivial⟩
  .exact⟨qaj _,rfl,by show(0:Int)<=_;omega⟩
  .rintro i j w ⟨hi,rfl,hb⟩;have hs0:0<=Cw (xs.take i):=Hm fun y hy=>hpos y (qdv hy);refine Ad (Bm U U (qA (Ao (An _ U ?_ ?_))))
   .intro h2;replace h2:=AM h2;obtain⟨x,hx⟩:=AA (l:=xs) (i:=i);obtain⟨hx0,hx1⟩:=hall i x hx;have hst:=Lc hx;refine Aq (Aa (Ao (A1 (Ad (Be R AV B2 U U (by rfl) ?_)))));refine Bc Bw U ((R.fld hx U (j:=0) U)) (Ae U (qA (Ad (Af U (Af U (Az U U ?_))))));rw[<-hst];refine Ae U (qA (Ad (Af U (Al qB (JK (Cw (xs.take (i+1))) _) U ?_))));rintro v w ⟨rfl,rfl⟩;refine BE U (qA (An _ U ?_ ?_))
    .intro h3;replace h3:=B7 h3;refine Ad (Ae U (Ae U (qA (A7 (AF (Av (Av (AF (Av (BR (v1:=(.int _ _)) (v2:=(.int _ _)) U U U U ?_))))))))));have h4:Dc (Cw (xs.take (i+1)))=false:=by simpa using h3
     have h5:¬Cw (xs.take (i+1))<=4503599627370496:=fun h=>by
      rw[CN.2 ⟨by omega,h⟩]at h4;cases h4
     have h6:Cw xs=Cw (xs.take (i+1))+Cw (xs.drop (i+1)):=by rw[<-EL,qbp]
     have h7:=Hm (xs:=xs.drop (i+1)) fun y hy=>hpos y (qc9 hy);exact⟨by unfold ER;rw[if_neg (by rw[h1'];decide),if_neg (by omega)],rfl⟩
    .intro h3;replace h3:=B9 h3;refine Aq (A8 (Aa (A0 (Az U U ?_))));refine Af U (qA ?_);have h4:Dc (Cw (xs.take (i+1)))=true:=by simpa using h3
     exact⟨i+1,rfl,⟨rfl,rfl,trivial⟩,⟨by omega,rfl,(CN.1 h4).2⟩,by omega⟩
   .intro h2;replace h2:=AN h2;refine Bp (Am (Am (AO (Aa (Ad (Af U (Ae U (Ae U (qA (A7 (BR (v1:=(.int _ _)) (v2:=(.int _ _)) U U U U ?_)))))))))));obtain rfl:i=xs.length:=by omega
    rw[qbj]at hb |-;exact⟨by unfold ER;rw[if_neg (by rw[h1'];decide),if_pos hb],rfl⟩
section
variable {P:Program}{r:Option Nat}{ops rest:List Oper}{Q:Exit->Env->World->Prop}{e:Env}{w:World}{dst:Option Tmp}{ty:TypeId}{pos:String}{af:Array Edge}{g:Option (Nat × Bool)}
theorem Afw{t t2:TypeId}{x y:Operand}{a b:Int}(hg:AS ⟨dst,.binOp .quo t x y t2,ty,pos,af,g⟩ ops e=true)(hx:ev e x=.int .i64 a)(hy:ev e y=.int .i64 b)(h:AG P r ops Q rest (put e dst (.int .i64 (a.tdiv b))) w)(hb:0<b:=by decide)(h1: -9223372036854775808<=a.tdiv b:=by omega)(h2:a.tdiv b<=9223372036854775807:=by omega):AG P r ops Q (⟨dst,.binOp .quo t x y t2,ty,pos,af,g⟩::rest) e w :=
 BK hg rfl (Ce hx hy (v := .int .i64 (a.tdiv b)) (by simp[binOp,Op.intDiv,show ¬b=0 from by omega,Dg (k := .i64) (n:=a.tdiv b) h1 h2])) h
end
theorem tdm(t:Int):∃q r,t.tdiv 4503599627370496=q/\t.tmod 4503599627370496=r/\t=4503599627370496*q+r /\ -4503599627370496<r/\r<4503599627370496/\(-9007199254740992<t->t<9007199254740992 -> -1<=q/\q<=1):=by
 refine⟨_,_,rfl,rfl,?_⟩
 rcases TG t 0 with h|h
 .obtain⟨s,rfl⟩:∃s,t = -s:=⟨-t,by omega⟩;rw[Int.neg_tdiv,Int.neg_tmod,qei (by omega),qd7 (by omega)];exact⟨by omega,by omega,by omega,fun h1 h2=>by omega⟩
 .rw[qei h,qd7 h];exact⟨by omega,by omega,by omega,fun h1 h2=>by omega⟩
def GH(x:Int):Bool:=decide (-4503599627370496<=x) && decide (x<=4503599627370496)
def IH(xs:List Int):Bool:=xs.all GH && decide (Cw xs=0)
theorem Abp(a:Option Addr)(n c:Nat)(xs:List Int)(w:World)(R:Rd w a 1 I1 xs)(hn:xs.length=n)(hn2:n<=1000000) :
  Ret prog 179 #[.slice a n c] w fun v w'=>v=.bool (IH xs)/\w=w':=by
 subst hn;obtain⟨w0,rfl⟩:=qD w;refine Ay (fn:=f179) func179 U [.slice a xs.length c] U (Ad (Ai U (qA (Ad (Ae U (Ae U (qA (Ao (Ad (A2 U ?_))))))))));refine Ba AV U (Af U (qA (A1 (Bt 536870492 (α:=Nat × Int × Int) (fun t=>[(3,.int .i64 t.2.1),(4,.int .i64 t.2.2),(9,.int .i64 (t.1:Int))]) (fun t w'=>t.1<=xs.length/\w0=w'/\Cw (xs.take t.1)=4503599627370496*t.2.1+t.2.2 /\ -4503599627370496<t.2.2/\t.2.2<4503599627370496 /\ -(t.1:Int)<=t.2.1/\t.2.1<=t.1/\∀(k:Nat) (x:Int),k<t.1->xs[k]?=some x->GH x=true) (fun t=>xs.length - t.1) (0,0,0) U ?_ ?_ ?_))))
 .exact⟨rfl,rfl,rfl,trivial⟩
 .exact⟨qaj _,rfl,rfl,by dsimp only;omega,by dsimp only;omega,by dsimp only;omega,by dsimp only;omega,fun k x h=>absurd h (qa7 _)⟩
 .rintro⟨i,hh,ll⟩ j w ⟨hi,rfl,hs,hl1,hl2,hh1,hh2,hb⟩;dsimp only at hi hs hl1 hl2 hh1 hh2 hb;dsimp only;refine Ad (Bm U U (qA (Ao (An _ U ?_ ?_))))
  .intro h1;replace h1:=AM h1;obtain⟨x,hx⟩:=AA (l:=xs) (i:=i);refine Aq (Aa (Ao (A1 (Ad (Be R AV B2 U U (by rfl) ?_)))));refine Bc Bw U ((R.fld hx U (j:=0) U)) ?_;refine Ae U (qA (Ao (Ad (BV (α:=Unit) 516096 (fun _=>[(18,.bool (!GH x))]) (fun _ w'=>w'=w0) U ?_ ?_))))
   .refine Af U (Bm U U (Aw U (AK 15 U ?_ ?_)))
    .intro h1;replace h1:=AM h1;refine Ag U (Ag U (A6 U (.bool _) U (Ab ?_)));exact⟨rfl,(),rfl,⟨qaa Value.bool (by unfold GH;rw[qad];simp_all;try omega),trivial⟩,rfl⟩
    .intro h2;replace h2:=AN h2;refine Af U (CD U U (A9 U (.bool _) U (Ab ?_)));exact⟨rfl,(),rfl,⟨qaa Value.bool (by unfold GH;rw[qad];simp_all;try omega),trivial⟩,rfl⟩
   rintro - j18 w hw;subst hw;refine An _ U ?_ ?_
   .intro h2;replace h2:=B7 h2;refine Ad (Ai U (qA (A7 (Av (AF (Av (Av (AF (Av (AD (v:=(.bool _)) U U U ?_))))))))));refine⟨qaa Value.bool ?_,rfl⟩;unfold IH;rw[Ew hx (show GH x=false by simpa using h2)];rfl
   .intro h2;replace h2:=B9 h2;have h2':GH x=true:=by simpa using h2
    have h3 : -4503599627370496<=x/\x<=4503599627370496:=by unfold GH at h2';simpa using h2'
    have hst:=Lc hx;obtain⟨q,r,hq,hr,he,hr1,hr2,hq2⟩:=tdm (ll+x);have hq3:=hq2 (by omega) (by omega);refine Aq (Aa (Ad (Af U (Af U (Az U U ?_)))));refine Ae U (qA (Ad (Af U (Af U (Afw U U U ?_)))));rw[hq];refine Az U U (Ae U (qA (A0 (Af U (Aep U U U ?_)))));rw[hr];refine Ae U (Ab (A8 (Aa (A0 (Az U U ?_)))));refine Af U (qA ?_);refine⟨(i+1,hh+q,r),rfl,⟨rfl,rfl,rfl,trivial⟩,⟨by dsimp only;omega,rfl,by dsimp only;omega,hr1,hr2,by dsimp only;omega,by dsimp only;omega,fun k y hk hy=>?_⟩,by dsimp only;omega⟩
    rcases qap k i with h7|h7
    .exact hb k y h7 hy
    .obtain rfl:k=i:=by dsimp only at hk;omega
     rw[hx]at hy;cases hy;exact h2'
  .intro h1;replace h1:=AN h1;obtain rfl:i=xs.length:=by omega
   rw[qbj]at hs;have hall:xs.all GH=true:=Fx fun k x hk hx=>hb k x hk hx;refine Bp (Am (Am (AO (Aa (Ad (Af U (BP U U (Aw U (AK 31 U ?_ ?_)))))))))
   .intro h3;replace h3:=AM h3;refine Af U (BP U U (A6 U (.bool _) U (Ai U (qA (A7 (AD (v:=(.bool _)) U U U ?_))))));exact⟨qaa Value.bool (by unfold IH;rw[hall,qcp,qad];simp_all;try omega),rfl⟩
   .intro h4;replace h4:=AN h4;refine Ag U (Ag U (A9 U (.bool _) U (Ai U (qA (A7 (AD (v:=(.bool _)) U U U ?_))))));exact⟨qaa Value.bool (by unfold IH;rw[hall,qcp,qad];simp_all;try omega),rfl⟩
def Df(xs ys:List Int):List Int:=List.zipWith (·+·) xs ys
def DF(xs ys:List Int):Int :=
 if(decide (xs.length=ys.length) && (xs.all Dc && IH ys))=false then 1 else if(Df xs ys).all (fun x=>decide (0<=x))=false then 12 else if(Df xs ys).all Dc=false then 13 else 0
theorem K6{xs ys:List Int}{i:Nat}{x y:Int}(hx:xs[i]?=some x)(hy:ys[i]?=some y):(Df xs ys)[i]?=some (x+y):=by
 unfold Df;rw[qdx,hx,hy]
theorem VD{xs ys:List Int}{i:Nat}{x y:Int}(hx:xs[i]?=some x)(hy:ys[i]?=some y):(Df xs ys).take (i+1)=(Df xs ys).take i++[x+y]:=by
 rw[qbw,K6 hx hy];rfl
theorem Yh(a b:Option Addr)(n c m d:Nat)(xs ys:List Int)(w:World)(R:Rd w a 1 I1 xs)(hn:xs.length=n)(Ry:Rd w b 1 I1 ys)(hm:ys.length=m)(hm2:m<=1000000)(hn2:n<=1000000:=by omega):
  Ret prog 156 #[.slice a n c,.slice b m d] w fun v w'=>∃v',v=.tuple #[v',.int .i64 (DF xs ys)]/\(DF xs ys≠0->v'=.slice none 0 0)/\(DF xs ys=0->Fresh w w' 2 1 v' ((Df xs ys).map Dj))/\Ext [] w w':=by
 subst hn hm;obtain⟨w0,rfl,H⟩:=qE w;refine Ay (fn:=f156) func156 U [.slice a xs.length c,.slice b ys.length d] U ?_;refine Ad (A4 U (Ae U (qA (Ao (Ad (BV (α:=Unit) 33553408 (fun _=>[(24,.bool (!(decide (xs.length=ys.length) && (xs.all Dc && IH ys))))]) (fun _ w'=>w'=w0) U ?_ ?_))))))
 .refine A2 U (Ba AV U (A2 U (Ba AV U (Cv U U (Aw U (AK 15 U ?_ ?_))))))
  .intro h1;replace h1:=Cy h1;refine Ag U (Ag U (Ag U (A6 U (.bool _) U (Aw U (Ag U (Ag U (Ag U (A6 U (.bool _) U (Ab ?_)))))))));exact⟨rfl,(),rfl,⟨qaa Value.bool (by generalize xs.all Dc=A at *;generalize IH ys=B at *;rw[qad];simp_all;try omega),trivial⟩,rfl⟩
  .intro h2;replace h2:=Cz h2;refine A2 U (Al qB (QP a xs.length c xs _ R U hn2) U ?_);rintro v w ⟨rfl,rfl⟩;refine BE U (A9 U (.bool _) U (Aw U (AK 20 U ?_ ?_)))
   .intro h3;replace h3:=B7 h3;refine Ag U (Ag U (Ag U (A6 U (.bool _) U (Ab ?_))));exact⟨rfl,(),rfl,⟨qaa Value.bool (by generalize xs.all Dc=A at *;generalize IH ys=B at *;rw[qad];simp_all;try omega),trivial⟩,rfl⟩
   .intro h4;replace h4:=B9 h4;refine A2 U (Al qB (Abp b ys.length d ys _ Ry U hm2) U ?_);rintro v w ⟨rfl,rfl⟩;refine BE U (A9 U (.bool _) U (Ab ?_));exact⟨rfl,(),rfl,⟨qaa Value.bool (by generalize xs.all Dc=A at *;generalize IH ys=B at *;rw[qad];simp_all;try omega),trivial⟩,rfl⟩
 rintro - j24 w hw;subst w;refine An _ U ?_ ?_
 .intro h1;replace h1:=B7 h1;refine Ad (A4 U (Ae U (qA (A7 (Av (BR (v1:=(.slice _ _ _)) (v2:=(.int _ _)) U U U U ?_))))));have h1':DF xs ys=1:=by unfold DF;rw[if_pos (by simpa using h1)]
  exact⟨_,by rw[h1'],fun _=>rfl,(fun h=>by omega),H.ext⟩
 .intro h1;replace h1:=B9 h1;have h1':(decide (xs.length=ys.length) && (xs.all Dc && IH ys))=true:=by simpa using h1
  have h1c:¬(decide (xs.length=ys.length) && (xs.all Dc && IH ys))=false:=by rw[h1'];decide
  have hE:=h1';simp only[qaf,qas,qau]at hE;obtain⟨hle,hma,hev⟩:=hE
  have hsm:∀y∈ys,-4503599627370496<=y/\y<=4503599627370496:=fun y hy=>by
   unfold IH at hev;simp only[qaf,qau]at hev;have:=hev.1 y hy;unfold GH at this
   simpa using this
  have hlen:(Df xs ys).length=xs.length:=by unfold Df;rw[qcn];omega
  refine Aq (Aa (Ad (A4 U (qA (Ad (Ae U (qA (Ao (Ad (A2 U ?_))))))))));refine Ba AV U (Af U (qA (A1 (Bt 1125899772625904 (α:=LSt × Int) (fun t=>[(6,.slice t.1.a t.1.i t.1.c),(7,.int .i64 t.2),(27,.int .i64 (t.1.i:Int))]) (fun t w'=>t.1.i<=xs.length/\OS t.1.a t.1.i t.1.c 1 t.1.full (((Df xs ys).take t.1.i).map Dj)/\Ctx w0 [] w' (ent t.1.a 2 t.1.full)/\(∀(k:Nat) (x:Int),k<t.1.i->(Df xs ys)[k]?=some x->0<=x)/\((t.2=0/\∀(k:Nat) (x:Int),k<t.1.i->(Df xs ys)[k]?=some x->Dc x=true)\/(t.2=13/\(Df xs ys).all Dc=false))) (fun t=>xs.length - t.1.i) (⟨0,none,0,[]⟩,0) U ?_ ?_ ?_))))
  .exact⟨rfl,rfl,rfl,trivial⟩
  .exact⟨qaj _,OS.nil,H,fun k x h=>absurd h (qa7 _),.inl ⟨rfl,fun k x h=>absurd h (qa7 _)⟩⟩
  .rintro⟨⟨i,a2,c2,full⟩,ov⟩ j w ⟨hi,O,H,hp,hov⟩;dsimp only at hi O H hp hov;dsimp only;refine Ad (Bm U U (qA (Ao (An _ U ?_ ?_))))
   .intro h2;replace h2:=AM h2;obtain⟨x,hx⟩:=AA (l:=xs) (i:=i);obtain⟨y,hy⟩:=AA (l:=ys) (i:=i);have hx1:=CN.1 (hma x (qac hx));have hy1:=hsm y (qac hy);have hat:=K6 hx hy;have htk:=VD hx hy;refine Aq (Aa (Ao (A1 (Ad (Af U (Be R AV B2 U U (by rfl) ?_))))));refine Bc Bw U (((R.ext0 H.ext).fld hx U (j:=0) U)) (Ae U (Ae U (qA (Ad (Af U (A2 U (Af U (Be Ry AV B2 U U (by rfl) ?_))))))));refine Bc Bw U (((Ry.ext0 H.ext).fld hy U (j:=0) U)) (Az U U ?_);refine Ae U (qA (Ao (A1 (Ad (Af U (Bm U U (Ai U (qA (An _ U ?_ ?_)))))))))
    .intro h3;replace h3:=AM h3;refine Ad (A4 U (Ae U (qA (A7 (AF (Av (AF (Av (Av (AF (Av (BR (v1:=(.slice _ _ _)) (v2:=(.int _ _)) U U U U ?_))))))))))))
     have h4:DF xs ys=12:=by
      unfold DF;rw[if_neg h1c,if_pos (Ew hat (by simpa using h3))]
     exact⟨_,by rw[h4],fun _=>rfl,(fun h=>by omega),H.ext⟩
    .intro h3;replace h3:=AN h3
     have hp':∀(k:Nat) (z:Int),k<i+1->(Df xs ys)[k]?=some z->0<=z:=fun k z hk hz=>by
      rcases qap k i with h7|h7
      .exact hp k z h7 hz
      .obtain rfl:k=i:=by omega
       rw[hat]at hz;cases hz;omega
     have hO:((Df xs ys).take (i+1)).map Dj=((Df xs ys).take i).map Dj++[.int .i64 (x+y)]:=by rw[htk,qay];rfl
     refine Ad (Af U (Al qB (JK (x+y) _) U ?_));rintro v w ⟨rfl,rfl⟩;refine BE U (Ai U (qA (An _ U ?_ ?_)))
     .intro h4;replace h4:=B7 h4;have h4':Dc (x+y)=false:=by simpa using h4
      refine A0 (Ae U (Ab (A8 (Aa (A0 (A2 U (Af U (Cs _ (.int _ _) AV B2 E5 U U U U H ?_))))))));rintro b47 w - H;refine CI (L:=[]) AV AV B2 LB E5 U U U H O U (by simp[AZ]) ?_;rintro a' c' full' w H O;refine A4 U (Ab (A8 (Aa (A0 (Az U U ?_)))));refine Af U (qA ?_);exact⟨(⟨i+1,a',c',full'⟩,13),rfl,⟨rfl,rfl,rfl,trivial⟩,⟨by dsimp only;omega,by dsimp only;rw[hO];exact O,H,hp',.inr ⟨rfl,Ew hat h4'⟩⟩,by dsimp only;omega⟩
     .intro h4;replace h4:=B9 h4;have h4':Dc (x+y)=true:=by simpa using h4
      refine Aq (A8 (Aa (A0 (A2 U (Af U (Cs _ (.int _ _) AV B2 E5 U U U U H ?_))))));rintro b47 w - H;refine CI (L:=[]) AV AV B2 LB E5 U U U H O U (by simp[AZ]) ?_;rintro a' c' full' w H O;refine A4 U (Ab (A8 (Aa (A0 (Az U U ?_)))));refine Af U (qA ?_);refine⟨(⟨i+1,a',c',full'⟩,ov),rfl,⟨rfl,rfl,rfl,trivial⟩,⟨by dsimp only;omega,by dsimp only;rw[hO];exact O,H,hp',?_⟩,by dsimp only;omega⟩
      rcases hov with⟨h5,h6⟩|h5
      .refine .inl ⟨h5,fun k z hk hz=>?_⟩
       rcases qap k i with h7|h7
       .exact h6 k z h7 hz
       .obtain rfl:k=i:=by dsimp only at hk;omega
        rw[hat]at hz;cases hz;exact h4'
      .exact .inr h5
   .intro h2;replace h2:=AN h2;obtain rfl:i=xs.length:=by omega
    have hpa:¬(Df xs ys).all (fun x=>decide (0<=x))=false:=by
     rw[Fx fun k x hk hx=>qar (hp k x (by omega) hx)];decide
    rw[show(Df xs ys).take xs.length=Df xs ys by rw[<-hlen,qbj]]at O;refine Bp (Am (Am (AO (Aa (Ao (Ad (Af U (Cv U U (qA (An _ U ?_ ?_))))))))))
    .intro h3;replace h3:=Cy h3
     rcases hov with⟨h5,-⟩|⟨rfl,h6⟩
     .exact absurd h5 h3
     .refine Ad (Af U (A4 U (Ae U (qA (A7 (Av (BR (v1:=(.slice _ _ _)) (v2:=(.int _ _)) U U U U ?_)))))));have h4:DF xs ys=13:=by unfold DF;rw[if_neg h1c,if_neg hpa,if_pos h6]
      exact⟨_,by rw[h4],fun _=>rfl,(fun h=>by omega),H.ext⟩
    .intro h3;replace h3:=Cz h3;refine Aq (Aa (Ad (A2 U (A4 U (Ae U (qA (A7 (BR (v1:=(.slice _ _ _)) (v2:=(.int _ _)) U U U U ?_))))))))
     have h4:DF xs ys=0:=by
      unfold DF
      rcases hov with⟨-,h6⟩|⟨h5,-⟩
      .rw[if_neg h1c,if_neg hpa,if_neg (by rw[Fx fun k x hk hx=>h6 k x (by omega) hx];decide)]
      .omega
     exact⟨_,by rw[h4],(fun h=>absurd h4 h),(fun _=>Ctx.fresh (L:=[]) H O),H.ext⟩
structure DueK(b2 b:Nat)(o:Obj)(w:World):Prop where
 h2:w.heap[b2]?=some (Bl 130 [.map (some b)])
 hb:w.heap[b]?=some o
def Ahr(m:List (Int × Value))(vis:List (Int × Value))(v:List Value)(vis':List (Int × Value)):Prop:=∃p,vis'=vis++[p]/\v=[.int .u64 p.1]/\p∈m/\vis.length<m.length
theorem Abq{b2 b:Nat}{o:Obj}{m:List (Int × Value)}(hM:CY .u64 m o):Wh prog 128 #[ptr b2] [] (fun _ w=>DueK b2 b o w) ([]:List (Int × Value)) (Ahr m) (fun vis=>vis.Perm m) (fun _=>True):=by
 intro l w _ J E hJ0 hJs hEs hK hY;obtain⟨M0,hJ0⟩:=hJ0;obtain⟨w0,rfl,H⟩:=qE w;refine Ay (fn:=f128) func128 U [.func (.yield l) #[] #[],.pointer (some ⟨b2,0,none⟩)] U ?_;have K0:=(hK _ _ _ hJ0).2;refine Ad (Bc Ft U ((by rw[Aj K0.h2];rfl)) ?_);refine Tv U FG U H K0.hb hM ?_;rintro bi it w hV H;refine qA (A1 ?_);have hbi:w0.heap.size<=bi:=(H.own (bi,it) (qai ..)).elim (fun h=>by cases h) id;have hJ1:=hJs _ _ _ _ [] hJ0 (fun x hx=>by cases hx) H.ext
 have hM0:¬M0 bi:=fun h=>by
  have:=(hK _ _ _ hJ0).1 bi h;omega
 refine Bt 16328 (α:=List (Int × Value) × Obj) (fun _=>[]) (fun z w'=>VisO .u64 b m z.1 o z.2/\∃M,J z.1 M w'/\¬M bi/\w'.heap[bi]?=some z.2) (fun z=>m.length - z.1.length) (([]:List (Int × Value)),it) U ?_ ?_ ?_
 .exact trivial
 .exact⟨hV,M0,hJ1,hM0,H.get at0⟩
 .rintro⟨vis,it⟩ j w ⟨hV,M,hJ,hMb,hit⟩;dsimp only at hV hJ hit;dsimp only;have KK:=(hK _ _ _ hJ).2;obtain⟨w1,rfl⟩:=qD w;have H:=Ctx.start1 hit;have hT:∀x∈[bi],¬M x/\w0.heap.size<=x:=fun x hx=>by rw[qab]at hx;subst hx;exact⟨hMb,hbi⟩
  refine Ad (Wj U (fun _=>rfl) U H KK.hb at0 hV ?_);rintro vs more it' w hc H
  skip
  refine qA (Ao (An _ U ?_ ?_))
  .intro h1;obtain⟨p,hV'⟩:∃p,VisO .u64 b m (vis++[p]) o it':=hc.elim (fun h=>by rw[h.1]at h1;cases h1) fun h=>h.2;have hJw:=hJs _ _ _ _ [bi] hJ hT H.ext;have KR:=(hK _ _ _ hJw).2;have hle:=hV'.le;rw[qat]at hle;have hst:Ahr m vis [.int .u64 p.1] (vis++[p]):=⟨p,rfl,rfl,hV'.mem p (by simp),by simp at hle;omega⟩;refine Aq (Aa (A1 (Ad (Tw U U H KR.hb at0 hV' ?_))));refine AJ U U (Ae U (qA ?_));have hY1:=hY vis [.int .u64 p.1] (vis++[p]) M w hst hJw;refine Ad (CU (.func _ _ _) U ?_);refine Af U (Hb (vs:=[.int .u64 p.1]) U hY1 U ?_);rintro u w hu
   obtain⟨bb,rfl,hu1,hu0⟩:∃bb,u=.bool bb/\(bb=true->∃M,J (vis++[p]) M w/\¬M bi/\w.heap[bi]?=some it')/\(bb=false->E w):=hu.elim (fun h=>⟨true,h.1,fun _=>let ⟨M',h1,g⟩:=h.2;⟨M',h1,fun hx=>(g.new _ hx).elim hMb (fun h=>by have:=H.lt at0;omega),g.to (H.get at0) hMb⟩,fun h=>by cases h⟩) (fun h=>⟨false,h.1,(fun h=>by cases h),fun _=>h.2⟩);refine BE U (qA (An _ U ?_ ?_))
   .intro h2;replace h2:=B7 h2;refine A7 (AF (Av (AF (FW U U ?_))));exact .inr (hu0 (by simpa using h2))
   .intro h2;replace h2:=B9 h2;refine Aq (A8 (Aa ?_));exact⟨(vis++[p],it'),rfl,trivial,⟨hV',hu1 (by simpa using h2)⟩,by dsimp only;rw[qat];simp;simp at hle;omega⟩
  .intro h1;obtain⟨hp,rfl⟩:vis.Perm m/\it'=it:=hc.elim (fun h=>h.2) fun h=>by rw[h.1]at h1;cases h1
   refine Bp (Am (Am (AO (CO U U ?_))));exact .inl ⟨vis,M,hp,hJs _ _ _ _ [bi] hJ hT H.ext⟩
def G3(x:Int):Value := .int .u64 x
structure FreshU(w w':World)(v:Value)(l:List Int):Prop where
 ex:∃a n c full,v=.slice a n c/\OS a n c 1 full (l.map G3)/\(∀x∈full,∃z,x=G3 z)/\∀x∈ent a 23 full,w'.heap[x.1]?=some x.2/\w.heap.size<=x.1
 ext:Ext [] w w'
def WG(bk:Nat):Value := .func (.func 128) #[] #[ptr bk]
theorem Afx{b:Nat}(w:World):Ret prog 92 #[.map (some b)] w fun v w'=>∃bk,v=WG bk/\w'.heap[bk]?=some (Bl 130 [.map (some b)])/\w.heap.size<=bk/\Ext [] w w':=by
 obtain⟨w0,rfl,H⟩:=qE w;refine Ay (fn:=f92) func92 U [.map (some b)] U (Ad (Br _ (.map _) U U H ?_));rintro b1 w - H;refine CX U .nilFunc U (qA (Ad (Cf [.pointer _] U (CX U (.func _ _ _) U ?_))));refine qA (A7 (AD (v:=(.func _ _ _)) U U U ?_));exact⟨_,rfl,H.get at0,(H.own _ (qai ..)).elim (fun h=>by cases h) id,H.ext⟩
def appJ(w0:World)(bk b bb k:Nat)(o:Obj)(vis:List (Int × Value))(M:Mt)(w:World):Prop :=
 ∃a c full,(M=fun y=>y∈((bb,Bl 120 [.slice a vis.length c])::ent a 23 full).map (·.1))/\Ctx w0 [] w ((bb,Bl 120 [.slice a vis.length c])::ent a 23 full) /\
  OS a vis.length c 1 full (vis.map fun p=>G3 p.1)/\(∀x∈full,∃z,x=G3 z)/\DueK bk b o w/\∀y∈((bb,Bl 120 [.slice a vis.length c])::ent a 23 full).map (·.1),y≠k/\y≠k+1
theorem Yi{bk b:Nat}{o:Obj}{m:List (Int × Value)}(hM:CY .u64 m o)(hm:m.length<=1000000)(w:World)(K:DueK bk b o w) :
  Ret prog 160 #[.slice none 0 0,WG bk] w fun v w'=>∃vis:List (Int × Value),vis.Perm m/\FreshU w w' v (vis.map (·.1)):=by
 obtain⟨w0,rfl,H⟩:=qE w;have lk:=AY K.h2;have lb:=AY K.hb;refine HU (fn:=f160) func160 U [.slice none 0 0,.func (.func 128) #[] #[.pointer (some ⟨bk,0,none⟩)]] U ?_;refine Ad (Br _ (.slice _ _ _) U U H ?_);rintro b2 w - H;refine A4 U (qA (Ao (Ad (CU (.func _ _ _) U ?_))));refine qA (A1 ?_);obtain⟨ws,rfl⟩:=qD w;have hb2:=(H.own _ (qai ..)).elim (fun h=>by cases h) id;have l2:=H.lt at0;have hsz:=H.size;dsimp only at hb2;have K2:DueK bk b o ws:=⟨H.ext.to K.h2 (by simp),H.ext.to K.hb (by simp)⟩
 refine Zq (gf:=128) U qB (Abq (b2:=bk) (b:=b) hM) (by kernel_rfl) (by kernel_rfl) (fun vis v vis' h=>by obtain⟨p,-,rfl,-⟩:=h;rfl)
  (appJ w0 bk b b2 ws.heap.size o) (fun _=>False) (by simp) (fun _ _=>True.intro)
  (fun w2 hx2 _=>⟨_,none,0,[],rfl,H.call hx2,OS.nil,by simp,⟨hx2.to K2.h2 (by simp),hx2.to K2.hb (by simp)⟩,by simp[ent];omega⟩)
  (fun vis M w' w'' T hJ hT hx=>?_) (fun _ _ h _=>h) (fun vis M w' hJ=>?_) ?_ ?_ (fun _ h _=>h.elim)
 .obtain⟨a,c,full,hMM,HJ,O,Z,KJ,hne⟩:=hJ;refine⟨a,c,full,hMM,HJ.step hx (fun y hy hy2=>(hT _ hy2).1 (by rw[hMM];exact qa5 (f:=(·.1)) hy)) (fun x hx => .inr (by have:=(hT x hx).2;omega)),O,Z,⟨hx.to KJ.h2 (fun h=>by have:=(hT _ h).2;omega),hx.to KJ.hb (fun h=>by have:=(hT _ h).2;omega)⟩,hne⟩
 .obtain⟨a,c,full,hMM,HJ,O,Z,KJ,hne⟩:=hJ;refine⟨fun x hx=>?_,KJ⟩;rw[hMM]at hx;obtain⟨y,hy,rfl⟩:=qag.1 hx;exact⟨AY (HJ.blk y hy),hne _ hx⟩
 .rintro vis v vis' M w ⟨p,rfl,rfl,hpm,hvl⟩ ⟨a,c,full,rfl,HJ,O,Z,KJ,hne⟩ hsz2;obtain⟨w1,rfl⟩:=qD w;refine A0 (Ae U (Ab ?_));refine⟨Ext.refl _ _,fun wB hxB=>?_⟩;have HB:=HJ.step hxB (fun y hy h=>(hne _ (qa5 (f:=(·.1)) hy)).2 (qab.1 h)) (fun z hz => .inr (by rw[qab.1 hz];omega));have KB:DueK bk b o wB:=⟨hxB.to KJ.h2 (by rw[qab];omega),hxB.to KJ.hb (by rw[qab];omega)⟩
  have hown:∀y∈((b2,Bl 120 [.slice a vis.length c])::ent a 23 full).map (·.1),w0.heap.size<=y:=fun y hy=>by
   obtain⟨z,hz,rfl⟩:=qag.1 hy;exact(HJ.own z hz).elim (fun h=>by cases h) id
  have hsB:=hxB.size;obtain⟨w2,rfl⟩:=qD wB;rw[<-qa3 ((b2,Bl 120 [.slice a vis.length c])::ent a 23 full)]at HB;have H:=Ctx.lend (L1:=(b2,Bl 120 [.slice a vis.length c])::ent a 23 full) (L2:=[]) HB;obtain⟨SS,hSS⟩:=qD (((b2,Bl 120 [.slice a vis.length c])::ent a 23 full).map (·.1));rw[<-hSS]at H;refine A1 (A0 (AB FE U H at0 U (Af U (Cs _ (.int _ _) Bh Bo Pi U U U U H ?_))));rintro b10 w - H;refine T0 (L:=[_]) U Bh Bh Bo Wm Pi U U U H O U (by simp[AZ]) ?_;rintro a' c' full' w H O Z2;refine Ct (.slice _ _ _) Aag U U U H at0 (by(simp;done)) ?_;rintro w H;refine Ab (A8 ?_);have hl:(vis++[p]).length=vis.length+1:=by rw[qat];rfl
  rw[hSS]at H;have HE:=H.ext;refine⟨_,⟨a',c',full',rfl,by rw[hl,<-qa3 (_::ent a' _ full')];exact Ctx.back HB H,by rw[hl,qay];exact O,fun x hx=>?_,⟨HE.to KB.h2 fun h=>by have:=hown _ h;omega,HE.to KB.hb fun h=>by have:=hown _ h;omega⟩,fun y hy=>?_⟩,fun y hy=>?_,_,HE,fun y hy => .inl hy⟩
  .rcases Z2 x hx with h|h|h
   .exact Z x h
   .exact⟨_,qab.1 h⟩
   .exact⟨_,qab.1 h⟩
  .rw[hl]at hy;obtain⟨z,hz,rfl⟩:=qag.1 hy
   rcases H.own z hz with h|h
   .exact hne _ h
   .omega
  .rw[hl]at hy;obtain⟨z,hz,rfl⟩:=qag.1 hy;exact(H.own z hz).imp id fun h=>by omega
 .rintro vis M w hp ⟨a,c,full,rfl,HJ,O,Z,KJ,hne⟩ hD;have H:=HJ;refine A8 (Aa (Ad (AB FE U H at0 U (A4 U (qA (A7 (Mj (v:=(.slice _ _ _)) U U (HV hD U fun wF hxF=>?_))))))));have HF:=H.step hxF (fun y hy h=>(hne _ (qa5 (f:=(·.1)) hy)).1 (qab.1 h)) (fun z hz => .inr (by rw[qab.1 hz];omega));refine⟨vis,hp,⟨a,vis.length,c,full,rfl,by rw[qbx];exact O,Z,fun x hx=>⟨HF.blk x (qah _ hx),(HF.own x (qah _ hx)).elim (fun h=>by cases h) id⟩⟩,HF.ext⟩
theorem VE{bk b:Nat}{o:Obj}{m:List (Int × Value)}(hM:CY .u64 m o)(hm:m.length<=1000000)(w:World)(K:DueK bk b o w) :
  Ret prog 126 #[WG bk] w fun v w'=>∃vis:List (Int × Value),vis.Perm m/\FreshU w w' v (vis.map (·.1)):=by
 obtain⟨w0,rfl⟩:=qD w;refine Ay (fn:=f126) func126 U [.func (.func 128) #[] #[.pointer (some ⟨bk,0,none⟩)]] U ?_;refine Ad (A4 U (qA (Ad (CU (.func _ _ _) U ?_))));refine Al qB (Yi hM hm _ K) U ?_;rintro v w ⟨vis,hp,F⟩;obtain⟨a,n,c,full,rfl,O,Z,hb⟩:=F.ex;refine A4 U (qA (A7 (AD (v:=(.slice _ _ _)) U U U ?_)));exact⟨vis,hp,F⟩
theorem Abr{x y:Int}(h:G3 x=G3 y):x=y:=by unfold G3 at h;injection h
theorem WH:∀(l:List Value),(∀x∈l,∃z,x=G3 z)->∃zs:List Int,l=zs.map G3
 | [],_=>⟨[],rfl⟩
 |x::l,h=>by
  obtain⟨z,rfl⟩:=h x (qai ..);obtain⟨zs,rfl⟩:=WH l fun y hy=>h y (qah _ hy);exact⟨z::zs,rfl⟩
theorem QQ:∀{l m:List Int},l.map G3=m.map G3->l=m
 | [],[],_=>rfl
 | [],_::_,h=>by cases h
 |_::_,[],h=>by cases h
 |x::l,y::m,h=>by
  simp only[qav,qdb]at h;rw[Abr h.1,QQ h.2]
theorem P0(f:Nat->Int)(n:Nat):CK f n=(tab f n).map G3:=by unfold tab;rw[qbx];rfl
theorem TW(f:Nat->Int){n m:Nat}(h:n<=m):(tab f m).take n=tab f n:=by
 unfold tab;rw[<-List.map_take,List.take_range,qb7 h]
theorem Ak5{g:Nat->Int}{n:Nat}(h:JW g 0 n):(tab g n).Pairwise (·<=·):=by
 rw[qd5];intro i j hi hj hij;rw[Di]at hi hj;have h1:=BW (f:=g) hi;have h2:=BW (f:=g) hj;rw[qbz (by rw[Di];exact hi)]at h1;rw[qbz (by rw[Di];exact hj)]at h2
 injection h1 with h1
 injection h2 with h2
 rw[h1,h2];exact h i j (qaj _) hij hj
theorem sortF{a:Option Addr}{n c:Nat}{full:List Value}{l:List Int}(w:World)(O:OS a n c 1 full (l.map G3))(Z:∀x∈full,∃z,x=G3 z)(hb:∀x∈ent a 23 full,w.heap[x.1]?=some x.2)(hn:n<=1000000000) :
  Ret prog 127 #[.slice a n c] w fun v w'=>v=.tuple #[]/\∃(full':List Value) (l':List Int),l'.Perm l/\l'.Pairwise (·<=·)/\OS a n c 1 full' (l'.map G3)/\(∀x∈full',∃z,x=G3 z)/\(∀x∈ent a 23 full',w'.heap[x.1]?=some x.2)/\Ext ((ent a 23 full).map (·.1)) w w':=by
 cases a with
 |none =>
  obtain rfl:n=0:=by have:=O.none' rfl;have:=O.le;omega
  have hl:l=[]:=by have:=O.llen;rw[qak]at this;exact qbt (by omega)
  subst hl;refine Ret.mono (VC c w) ?_;rintro v w' ⟨rfl,rfl⟩;exact⟨rfl,full,[],List.Perm.refl _,.nil,O,Z,hb,Ext.refl _ _⟩
 |some p =>
  have hp:=O.zero p rfl;obtain⟨q,o,sp⟩:=p;simp only[Addr.mk.injEq,true_and]at hp;obtain⟨rfl,rfl⟩:=hp;obtain⟨zs,rfl⟩:=WH full Z;have hlen:=O.len;rw[qak,qc3]at hlen;have hpre:=O.pre;rw[qc3,<-List.map_take]at hpre;have hpre:=QQ hpre;have hzs:tab (fun i=>zs.getD i 0) c=zs:=by rw[<-hlen];exact Akx zs
  have hb0:w.heap[q]?=some (Bl 23 (CK (fun i=>zs.getD i 0) c)):=by
   rw[P0,hzs];exact hb (q,Bl 23 (zs.map G3)) (qab.2 U)
  refine Ret.mono (Abn (c:=c) hb0 O.le hn) ?_;rintro v w' ⟨rfl,g,hP,hS,H⟩;have hS0:((ent (some ⟨q,0,none⟩) 23 (zs.map G3)).map (·.1))=[q]:=by simp[ent]
  refine⟨rfl,CK g c,tab g n,?_,Ak5 hS,⟨O.zero,O.none',by simp,O.le,?_⟩,fun x hx=>?_,fun x hx=>?_,by rw[hS0];exact H.ext⟩
  .rw[<-TW (fun i=>zs.getD i 0) O.le,hzs,hpre]at hP;exact hP
  .rw[qc3,P0,<-List.map_take,TW g O.le]
  .rw[P0,qag]at hx;obtain⟨z,_,rfl⟩:=hx;exact⟨z,rfl⟩
  .simp only[ent,qab]at hx;subst hx;exact H.get at0
theorem Yj{bk b:Nat}{o:Obj}{m:List (Int × Value)}(hM:CY .u64 m o)(w:World)(K:DueK bk b o w)(hm:m.length<=1000000:=by omega):
  Ret prog 91 #[WG bk] w fun v w'=>∃l:List Int,l.Perm (m.map (·.1))/\l.Pairwise (·<=·)/\FreshU w w' v l:=by
 obtain⟨w0,rfl⟩:=qD w;refine Ay (fn:=f91) func91 U [.func (.func 128) #[] #[.pointer (some ⟨bk,0,none⟩)]] U ?_;refine Ad (A4 U (qA (Ad (CU (.func _ _ _) U ?_))));refine Al qB (VE hM hm _ K) U ?_;rintro v w ⟨vis,hp,F⟩;obtain⟨a,n,c,full,rfl,O,Z,hb⟩:=F.ex;have hx5:=F.ext;have hvn:=O.llen;have hvm:=hp.length_eq;rw[qak,qak]at hvn;refine A4 U (qA (Ad (A2 U (Al qB (sortF _ O Z (fun x hx=>(hb x hx).1) (by omega)) U ?_))));rintro v w ⟨rfl,full',l',hP,hS,O',Z',hb',hx7⟩;refine qA (Ad (A2 U (A4 U (qA (A7 (AD (v:=(.slice _ _ _)) U U U ?_))))));refine⟨l',hP.trans (hp.map _),hS,⟨_,_,_,_,rfl,O',Z',fun x hx=>⟨hb' x hx,?_⟩⟩,hx5.then hx7 fun x hx=>?_⟩
 .cases a with
  |none=>simp[ent]at hx
  |some p =>
   simp only[ent,qab]at hx;subst hx;exact(hb (p.block,Bl 23 full) (by simp[ent])).2
 .obtain⟨y,hy,rfl⟩:=qag.1 hx;exact .inr (hb y hy).2
structure Du where
 id:Int
 fr:Int
 to:Int
 am:Int
 we:Int
 un:Int
 held:Bool
instance:DecidableEq Du:=fun x y=>if h:x.id=y.id/\x.fr=y.fr/\x.to=y.to/\x.am=y.am/\x.we=y.we/\x.un=y.un/\x.held=y.held then isTrue (by cases x;cases y;simp_all)else isFalse fun e=>h (by subst e;exact⟨rfl,rfl,rfl,rfl,rfl,rfl,rfl⟩)
abbrev CS(d:Du):List Value:=[.int .u64 d.id,.int .i64 d.fr,.int .i64 d.to,.int .i64 d.am,.int .i64 d.we,.int .i64 d.un,.bool d.held]
abbrev G0(d:Du):Value := .agg #[.int .u64 d.id,.int .i64 d.fr,.int .i64 d.to,.int .i64 d.am,.int .i64 d.we,.int .i64 d.un,.bool d.held]
theorem CW(d:Du):∀v∈CS d,AZ v=true:=by simp[CS,AZ]
def dm(ds:List Du):List (Int × Value):=ds.map fun d=>(d.id,G0 d)
theorem Ak6{ds:List Du}{p:Int × Value}(h:p∈dm ds):∃d∈ds,p=(d.id,G0 d):=by
 obtain⟨d,hd,rfl⟩:=qag.1 h;exact⟨d,hd,rfl⟩
def amV(p:Int × Value):Int:=match p.2 with
 | .agg vs=>match vs.toList with | [_,_,_,.int _ x,_,_,_]=>x|_=>0
 |_=>0
theorem Ak7(ds:List Du):(dm ds).map amV=ds.map (·.am):=by unfold dm;rw[qbx];rfl
abbrev DU(b:Nat)(nx:Int):List Value:=[.map (some b),.int .u64 nx]
structure VSt where
 vis:List (Int × Value)
 it:Obj
 a:Option Addr
 c:Nat
 full:List Value
theorem P5{bd b:Nat}{nx:Int}{o:Obj}{ds:List Du}(w:World)(hd:w.heap[bd]?=some (Bl 132 (DU b nx)))(hb:w.heap[b]?=some o)(hM:CY .u64 (dm ds) o)(hn:ds.length<=1000000:=by omega):
  Ret prog 100 #[ptr bd] w fun v w'=>∃l:List Int,l.Perm (ds.map (·.am))/\Fresh w w' 2 1 v (l.map Dj):=by
 obtain⟨w0,rfl,H⟩:=qE w;have hdl:(dm ds).length=ds.length:=by unfold dm;rw[qak]
 refine Ay (fn:=f100) func100 U [.pointer (some ⟨bd,0,none⟩)] U ?_;refine Ad (A4 U (qA (Ad (A4 U (qA (Ao (Ad (Ax U (AE U ?_)))))))));refine Ah DO U (Bc Ft U ((by rw[Aj hd];rfl)) ?_);refine Tv U FG U H hb hM ?_;rintro bi it w hV H;refine qA (A1 (Bt 1046568 (α:=VSt) (fun t=>[(3,.slice t.a t.vis.length t.c)]) (fun t w'=>VisO .u64 b (dm ds) t.vis o t.it/\OS t.a t.vis.length t.c 1 t.full ((t.vis.map amV).map Dj)/\Ctx w0 [] w' ((bi,t.it)::ent t.a 2 t.full)) (fun t=>(dm ds).length - t.vis.length) ⟨[],it,none,0,[]⟩ U ?_ ?_ ?_))
 .exact⟨rfl,trivial⟩
 .exact⟨hV,OS.nil,H⟩
 .rintro⟨vis,it,a,c,full⟩ j w ⟨hV,O,H⟩;dsimp only at hV O H;dsimp only;refine Ad (Wj U (fun _=>rfl) U H (H.ext.to hb (by simp)) at0 hV ?_);rintro vs more it' w hc H1;clear H;have H:Ctx w0 [] w ((bi,it')::ent a 2 full):=H1;clear H1
  skip
  refine qA (Ao (An _ U ?_ ?_))
  .intro h1;obtain⟨p,hV'⟩:∃p,VisO .u64 b (dm ds) (vis++[p]) o it':=hc.elim (fun h=>by rw[h.1]at h1;cases h1) fun h=>h.2;obtain⟨d,hd2,rfl⟩:=Ak6 (hV'.mem p (by simp));have hle:=hV'.le;rw[hdl]at hle;have hl1:(vis++[(d.id,G0 d)]).length=vis.length+1:=by rw[qat];rfl
   rw[hl1]at hle;refine Aq (Aa (A1 (Ad (XE U U H (H.ext.to hb (by simp)) at0 hV' ?_))));refine AJ U U (AU D4 H ?_);rintro b5 w - H;refine Bj BO U U U (by exact CW _) H at0 U ?_;rintro w H;refine qA (A0 (A2 U (Ah Ez U (AB Bw U H at0 U (Cs _ (.int _ _) AV B2 E5 U U U U H ?_)))));rintro b18 w - H;refine CI (L:=[_,_]) AV AV B2 LB E5 U U U H O U (by simp[AZ]) ?_;rintro a' c' full' w H O;refine A4 U (Ab (A8 (Aa ?_)));exact⟨⟨vis++[(d.id,G0 d)],it',a',c',full'⟩,rfl,⟨by dsimp only;rw[hl1];rfl,trivial⟩,⟨hV',by dsimp only;rw[hl1,qay,qay];exact O,H.tail⟩,by dsimp only;rw[hl1,hdl];omega⟩
  .intro h1;obtain⟨hp,rfl⟩:vis.Perm (dm ds)/\it'=it:=hc.elim (fun h=>h.2) fun h=>by rw[h.1]at h1;cases h1
   refine Bp (Am (Am (AO (Aa (Ad (A2 U (A4 U (qA (A7 (AD (v:=(.slice _ _ _)) U U U ?_))))))))));refine⟨vis.map amV,?_,Ctx.fresh (L:=[_]) H O⟩;rw[<-Ak7];exact hp.map _
def d00:Du:=⟨0,0,0,0,0,0,false⟩
def JS(ds:List Du)(k:Int):Du:=(ds.find? fun d=>d.id == k).getD d00
theorem Nl{d:Du}:∀{ds:List Du},(ds.map (·.id)).Nodup->d∈ds->JS ds d.id=d
 |x::ds,hn,h=>by
  simp only[qav,qec]at hn;unfold JS
  by_cases e:x.id=d.id
  .rcases qae.1 h with rfl|h
   .simp
   .exact absurd (qa5 (f:=(·.id)) h) (by rw[<-e];exact hn.1)
  .rcases qae.1 h with rfl|h
   .exact absurd U e
   .have:=Nl hn.2 h;unfold JS at this;rw[qb2,show(x.id == d.id)=false by simpa using e];exact this
theorem Abs{ds:List Du}(hn:(ds.map (·.id)).Nodup):(ds.map (·.id)).map (JS ds)=ds:=by
 rw[qbx];have:ds.map (JS ds ∘ (·.id))=ds.map id:=qbl fun d hd=>Nl hn hd;rw[this,List.map_id]
theorem WI{d:Du}:∀{ds:List Du},(ds.map (·.id)).Nodup->d∈ds->Ey (dm ds) d.id=some (G0 d)
 |x::ds,hn,h=>by
  simp only[qav,qec]at hn;unfold dm Ey;rw[qav,qb2]
  by_cases e:x.id=d.id
  .rcases qae.1 h with rfl|h
   .simp
   .exact absurd (qa5 (f:=(·.id)) h) (by rw[<-e];exact hn.1)
  .rcases qae.1 h with rfl|h
   .exact absurd U e
   .have:=WI hn.2 h;unfold dm Ey at this;rw[show(x.id == d.id)=false by simpa using e];exact this
def Abt(ds' ds:List Du):Prop:=ds'.Perm ds/\(ds'.map (·.id)).Pairwise (·<·)
theorem Yk{ds:List Du}{l:List Int}(hn:(ds.map (·.id)).Nodup)(hp:l.Perm ((dm ds).map (·.1)))(hs:l.Pairwise (·<=·)):Abt (l.map (JS ds)) ds/\(l.map (JS ds)).map (·.id)=l:=by
 have h1:(dm ds).map (·.1)=ds.map (·.id):=by unfold dm;rw[qbx];rfl
 rw[h1]at hp
 have h2:(l.map (JS ds)).map (·.id)=l:=by
  rw[qbx]
  have:l.map ((·.id) ∘ JS ds)=l.map id:=qbl fun k hk=>by
   obtain⟨d,hd,rfl⟩:=qag.1 (hp.mem_iff.1 hk);show(JS ds d.id).id=d.id;rw[Nl hn hd]
  rw[this,List.map_id]
 refine⟨⟨?_,?_⟩,h2⟩
 .have:=hp.map (JS ds)
  rwa [Abs hn]at this
 .rw[h2];have hnd:=hp.nodup_iff.2 hn;exact(hs.and (List.nodup_iff_pairwise_ne.1 hnd)).imp fun h=>by omega
theorem Yl{ds:List Du}{i:Nat}{d:Du}(h:ds[i]?=some d):(ds.take (i+1)).flatMap CS=(ds.take i).flatMap CS++CS d:=by
 rw[qbw,h,qb1];simp
theorem M6{bd b:Nat}{nx:Int}{o:Obj}{ds:List Du}(w:World)(hd:w.heap[bd]?=some (Bl 132 (DU b nx)))(hb:w.heap[b]?=some o)(hM:CY .u64 (dm ds) o)(hnd:(ds.map (·.id)).Nodup)(hn:ds.length<=1000000:=by omega):
  Ret prog 47 #[ptr bd] w fun v w'=>∃ds':List Du,Abt ds' ds/\Fresh w w' 118 7 v (ds'.flatMap CS):=by
 obtain⟨w0,rfl,H⟩:=qE w;have hdl:(dm ds).length=ds.length:=by unfold dm;rw[qak]
 refine Ay (fn:=f47) func47 U [.pointer (some ⟨bd,0,none⟩)] U ?_;refine Ad (A4 U (qA (Ao (Ad (Ax U (Cu Ls U ?_))))));refine qA (An _ U ?_ ?_)
 .intro h0;cases h0
 .intro h0;refine Aq (Aa (Ad (A4 U (qA (Ao (Ad (Ax U (AE U (Ah DO U (Bc Ft U ((by rw[Aj hd];rfl)) ?_))))))))));refine Al qB (Afx (b:=b) _) U ?_;rintro v w ⟨bk,rfl,hbk,-,hx12⟩;replace H:=H.call hx12;refine Al qB (Yj hM _ ⟨hbk,H.ext.to hb (by simp)⟩) U ?_;rintro v w ⟨l,hlp,hls,F⟩;obtain⟨ak,nk,ck,fk,rfl,OK,ZK,hbl⟩:=F.ex;replace H:=H.call F.ext;refine Ba Bh U (Af U (qA (A1 ?_)));obtain⟨w1,rfl⟩:=qD w;have H0:=H.ext;replace H:=Ctx.start w1 [];have R:Rd w1 ak 1 (fun x=>[G3 x]) l:=OK.rd1 fun x hx=>(hbl x hx).1;have hd1:=H0.to hd (by simp);have hb1:=H0.to hb (by simp);obtain⟨hSD,hid⟩:=Yk hnd hlp hls;obtain⟨ds',hds'⟩:∃ds',ds'=l.map (JS ds):=⟨_,rfl⟩;rw[<-hds']at hSD hid;have hlen:ds'.length=l.length:=by rw[hds',qak]
  have hll:l.length=nk:=by have:=OK.llen;rw[qak]at this;omega
  have hle:l.length=ds.length:=by have:=hlp.length_eq;rw[qak]at this;omega
  subst hll;refine Bt 536838184 (α:=LSt) (fun t=>[(3,.slice t.a t.i t.c),(15,.int .i64 (t.i:Int))]) (fun t w'=>t.i<=l.length/\OS t.a t.i t.c 7 t.full ((ds'.take t.i).flatMap CS)/\Ctx w1 [] w' (ent t.a 118 t.full)) (fun t=>l.length - t.i) ⟨0,none,0,[]⟩ U ?_ ?_ ?_
  .exact⟨rfl,rfl,trivial⟩
  .exact⟨qaj _,OS.nil,H⟩
  .rintro⟨i,a,c,full⟩ j w ⟨hi,O,H⟩;dsimp only at hi O H;dsimp only;refine Ad (Bm U U (qA (Ao (An _ U ?_ ?_))))
   .intro h1;replace h1:=AM h1;obtain⟨k,hk⟩:=AA (l:=l) (i:=i);obtain⟨d,hdi⟩:=AA (l:=ds') (i:=i)
    have hkd:k=d.id:=by
     have h7:(ds'.map (·.id))[i]?=some d.id:=by rw[qa1,hdi];rfl
     rw[hid,hk]at h7;injection h7
    subst hkd;have hmg:=WI hnd (hSD.1.mem_iff.1 (qac hdi));refine Aq (Aa (Ao (A1 (Ad (Be R Bh Bo U U (by rfl) ?_)))));refine Bc Bz U (((R.ext0 H.ext).fld hk U (j:=0) U)) (Ae U (qA (A0 (A2 U (Ax U (AE U (Ah DO U (Bc Ft U ((H.old0 (by rw[Aj hd1];rfl))) ?_))))))));refine Af U (UX U FG Fk LD U U (H.ext.to hb1 (by simp)) hM ?_);rw[hmg];rw[Option.getD_some];refine Cs _ (.agg _) Dh BO D4 U U U U H ?_;rintro b26 w - H;refine CI (L:=[]) Dh Dh BO Vh D4 U U U H O U (by simp[AZ]) ?_;rintro a' c' full' w H O;refine A4 U (Ab (A8 (Aa (A0 (Az U U ?_)))));refine Af U (qA ?_);exact⟨⟨i+1,a',c',full'⟩,rfl,⟨rfl,rfl,trivial⟩,⟨by dsimp only;omega,by dsimp only;rw[Yl hdi];exact O,H⟩,by dsimp only;omega⟩
   .intro h1;replace h1:=AN h1;refine Bp (Am (Am (AO (Aa (Ad (A2 U (A4 U (qA (A7 (AD (v:=(.slice _ _ _)) U U U ?_))))))))));obtain rfl:i=l.length:=by omega
    have FF:=Ctx.fresh (L:=[]) H O;rw[show ds'.take l.length=ds' by rw[<-hlen,qbj]]at FF;obtain⟨⟨a2,n2,c2,f2,e1,e2,e3⟩,e4⟩:=FF;exact⟨ds',hSD,⟨a2,n2,c2,f2,e1,e2,fun x hx=>⟨(e3 x hx).1,qa0 H0.size (e3 x hx).2⟩⟩,H0.trans e4⟩
def QR(x:Int):Bool:=decide (0<=x) && decide (x<16)
theorem TX(x:Int)(w:World):Ret prog 138 #[.int .i64 x] w fun v w'=>v=.bool (QR x)/\w=w':=by
 obtain⟨w0,rfl⟩:=qD w;refine Ay (fn:=f138) func138 U [.int .i64 x] U (Ad (Ai U (qA (Ad (Af U (CG U U (Aw U (AK 5 U ?_ ?_))))))))
 .intro h1;replace h1:=AM h1;refine Af U (Bm U U (A6 U (.bool _) U (Ai U (qA (A7 (AD (v:=(.bool _)) U U U ?_))))));exact⟨qaa Value.bool (by unfold QR;rw[qad];simp_all;try omega),rfl⟩
 .intro h2;replace h2:=AN h2;refine Ag U (Ag U (A9 U (.bool _) U (Ai U (qA (A7 (AD (v:=(.bool _)) U U U ?_))))));exact⟨qaa Value.bool (by unfold QR;rw[qad];simp_all;try omega),rfl⟩
def Es(d:Du):Bool:=(QR d.fr && (QR d.to && !decide (d.fr=d.to))) && (decide (1<=d.am) && (Dc d.am && (decide (1<=d.we) && (decide (d.we<=1000) && decide (0<=d.un)))))
theorem WJ(d:Du)(w:World):Ret prog 99 #[G0 d] w fun v w'=>v=.bool (Es d)/\Ext [] w w':=by
 obtain⟨w0,rfl,H⟩:=qE w;refine Ay (fn:=f99) func99 U [G0 d] U (Ad (Br (CS d) (.agg _) U U H ?_));rintro b1 w - H;refine Ai U (qA (Ao (A1 (Ao (Ad (Ah Gw U (AB Cd U H at0 U (Al qB (TX d.fr _) U ?_))))))));rintro v w ⟨rfl,rfl⟩;refine BE U (Ai U (qA (Db 3 U ?_ ?_)))
 .intro h1;replace h1:=B7 h1;refine Aq (Aa (DH U (Ad (Ai U (qA (A7 (AF (Av (AD (v:=(.bool _)) U U U ?_)))))))));exact⟨qaa Value.bool (by unfold Es;rw[qad];simp_all;try omega),H.ext⟩
 .intro h2;replace h2:=B9 h2;refine Ad (Ah He U (AB Cd U H at0 U (Al qB (TX d.to _) U ?_)));rintro v w ⟨rfl,rfl⟩;refine BE U (Ai U (qA (Db 3 U ?_ ?_)))
  .intro h3;replace h3:=B7 h3;refine Aq (Aa (DH U (Ad (Ai U (qA (A7 (AF (Av (AD (v:=(.bool _)) U U U ?_)))))))));exact⟨qaa Value.bool (by unfold Es;rw[qad];simp_all;try omega),H.ext⟩
  .intro h4;replace h4:=B9 h4;refine A0 (Ah Gw U (AB Cd U H at0 U (Ah He U (AB Cd U H at0 U (BP U U (Ai U (qA (Db 3 U ?_ ?_))))))))
   .intro h5;replace h5:=AM h5;refine Ad (Ai U (qA (A7 (AF (Av (AD (v:=(.bool _)) U U U ?_))))));exact⟨qaa Value.bool (by unfold Es;rw[qad];simp_all;try omega),H.ext⟩
   .intro h6;replace h6:=AN h6;refine Ao (Ad (Ah Ez U (AB Bw U H at0 U (Bm U U (Ai U (qA (Db 17 U ?_ ?_)))))))
    .intro h7;replace h7:=AM h7;refine Aq (Aa (DH U (Ad (Ai U (qA (A7 (AF (Av (AD (v:=(.bool _)) U U U ?_)))))))));exact⟨qaa Value.bool (by unfold Es;rw[qad];simp_all;try omega),H.ext⟩
    .intro h8;replace h8:=AN h8;refine Ad (Ah Ez U (AB Bw U H at0 U (Al qB (JK d.am _) U ?_)));rintro v w ⟨rfl,rfl⟩;refine BE U (Ai U (qA (Db 17 U ?_ ?_)))
     .intro h9;replace h9:=B7 h9;refine Aq (Aa (DH U (Ad (Ai U (qA (A7 (AF (Av (AD (v:=(.bool _)) U U U ?_)))))))));exact⟨qaa Value.bool (by unfold Es;rw[qad];simp_all;try omega),H.ext⟩
     .intro h10;replace h10:=B9 h10;refine Ad (Ah Kn U (AB Bw U H at0 U (Bm U U (Ai U (qA (Db 17 U ?_ ?_))))))
      .intro h11;replace h11:=AM h11;refine Aq (Aa (DH U (Ad (Ai U (qA (A7 (AF (Av (AD (v:=(.bool _)) U U U ?_)))))))));exact⟨qaa Value.bool (by unfold Es;rw[qad];simp_all;try omega),H.ext⟩
      .intro h12;replace h12:=AN h12;refine Ad (Ah Kn U (AB Bw U H at0 U (CD U U (Ai U (qA (Db 17 U ?_ ?_))))))
       .intro h13;replace h13:=AM h13;refine Aq (Aa (DH U (Ad (Ai U (qA (A7 (AF (Av (AD (v:=(.bool _)) U U U ?_)))))))));exact⟨qaa Value.bool (by unfold Es;rw[qad];simp_all;try omega),H.ext⟩
       .intro h14;replace h14:=AN h14;refine A0 (Ah Pa U (AB Bw U H at0 U (Bm U U (Ai U (qA (Db 17 U ?_ ?_))))))
        .intro h15;replace h15:=AM h15;refine Ad (Ai U (qA (A7 (AF (Av (AD (v:=(.bool _)) U U U ?_))))));exact⟨qaa Value.bool (by unfold Es;rw[qad];simp_all;try omega),H.ext⟩
        .intro h16;replace h16:=AN h16;refine Aq (A8 (Aa (Ad (Ai U (qA (A7 (AD (v:=(.bool _)) U U U ?_)))))));exact⟨qaa Value.bool (by unfold Es;rw[qad];simp_all;try omega),H.ext⟩
def FP(nx:Int):Int->List Du->Bool
 |_,[]=>true
 |ah,d::ds=>(Es d && (decide (ah<d.id) && decide (d.id<nx))) && FP nx d.id ds
def K8(ah:Int):List Du->Int
 | []=>ah
 |d::ds=>K8 d.id ds
theorem K9(nx:Int):∀(ah:Int) (ds es:List Du),FP nx ah (ds++es)=(FP nx ah ds && FP nx (K8 ah ds) es)
 |_,[],_=>rfl
 |ah,d::ds,es=>by simp only[qcx,FP,K8,K9 nx d.id ds es,qdo]
theorem Qn(ah:Int)(ds:List Du)(d:Du):K8 ah (ds++[d])=d.id:=by
 induction ds generalizing ah with
 |nil=>rfl
 |cons x ds ih=>exact ih x.id
theorem JL{nx:Int}:∀{ah:Int} {ds:List Du},FP nx ah ds=true->(∀d∈ds,ah<d.id/\d.id<=K8 ah ds/\d.id<nx/\Es d=true)/\(ds.map (·.id)).Pairwise (·<·)/\ah<=K8 ah ds
 |_,[],_=>⟨fun _ h=>(by cases h),List.Pairwise.nil,qax _⟩
 |ah,x::ds,h=>by
  simp only[FP,qaf,qas]at h;obtain⟨⟨hm,h1,h2⟩,h3⟩:=h;obtain⟨i1,i2,i3⟩:=JL h3;refine⟨fun d hd=>?_,?_,?_⟩
  .rcases qae.1 hd with rfl|hd
   .exact⟨h1,i3,h2,hm⟩
   .obtain⟨a,b,c,e⟩:=i1 d hd;exact⟨by omega,b,c,e⟩
  .rw[qav,qbf];refine⟨fun k hk=>?_,i2⟩;obtain⟨d,hd,rfl⟩:=qag.1 hk;exact(i1 d hd).1
  .show ah<=K8 x.id ds;omega
def ofC(ds:List Du)(nx:Int):Int :=
 if 64<ds.length then 6 else if(decide (1<=nx) && decide (nx<=4611686018427387904))=false then 1 else if FP nx 0 ds=false then 1 else(ER (ds.map (·.am))).2
theorem QS{xs ys:List Int}(h:xs.Perm ys):ER xs=ER ys:=by
 have h1:xs.all Dc=ys.all Dc:=by
  rw[qad,qau,qau];exact⟨fun g x hx=>g x (h.mem_iff.2 hx),fun g x hx=>g x (h.mem_iff.1 hx)⟩
 unfold ER;rw[h1,Yg h]
theorem QT{ds:List Du}{k:Int}(h:∀d∈ds,d.id≠k):Ey (dm ds) k=none:=by
 induction ds with
 |nil=>rfl
 |cons x ds ih =>
  unfold dm Ey at ih |-;rw[qav,qb2,show(x.id == k)=false by simpa using h x (qai ..)];exact ih fun d hd=>h d (qah _ hd)
theorem Abu(ds:List Du)(d:Du):dm ds++[(d.id,G0 d)]=dm (ds++[d]):=by unfold dm;rw[qay];rfl
theorem Abv{w:World}{b:Nat}{t:TypeId}{l:List Value}(h:w.heap[b]?=some (Bl t l)):∀j v,l[j]?=some v->w.cell? ⟨b,0+j,none⟩=some v:=fun j v hv=>by rw[Aj h,qa4];exact hv
structure OSt where
 i:Nat
 ah:Int
 o:Obj
theorem Abw(a:Option Addr)(n c:Nat)(ds:List Du)(nx:Int)(w:World)(R:Rd w a 7 CS ds)(hn:ds.length=n)(hid:∀d∈ds,0<=d.id/\d.id<18446744073709551616)(hn2:n<=1000000000:=by omega)(_:0<=nx/\nx<18446744073709551616:=by omega):
  Ret prog 67 #[.slice a n c,.int .u64 nx] w fun v w'=>∃p,v=.tuple #[p,.int .i64 (ofC ds nx)]/\(ofC ds nx≠0->p=.pointer none)/\(ofC ds nx=0->∃bd b o,p=ptr bd/\w'.heap[bd]?=some (Bl 132 (DU b nx))/\w'.heap[b]?=some o/\CY .u64 (dm ds) o/\w.heap.size<=bd/\w.heap.size<=b/\bd≠b)/\Ext [] w w':=by
 subst hn;obtain⟨w0,rfl,H⟩:=qE w;refine Ay (fn:=f67) func67 U [.slice a ds.length c,.int .u64 nx] U (Ad (B1 U (Ae U (qA (Ao (Ad (A2 U (Ba Dh U (CD U U (qA ?_))))))))));refine An _ U ?_ ?_
 .intro h1;replace h1:=AM h1;refine Ad (B1 U (Ae U (qA (A7 (Av (BR (v1:=(.pointer _)) (v2:=(.int _ _)) U U U U ?_))))));have h1':ofC ds nx=6:=by unfold ofC;rw[if_pos (by omega)]
  exact⟨_,by rw[h1'],fun _=>rfl,(fun h=>by omega),H.ext⟩
 .intro h1;replace h1:=AN h1;have h1':¬64<ds.length:=by omega
  refine Aq (Aa (Ao (Ad (BV (α:=Unit) 2064384 (fun _=>[(20,.bool (!(decide (1<=nx) && decide (nx<=4611686018427387904))))]) (fun _ w'=>w'=w0) U ?_ ?_))))
  .refine Af U (Bm U U (Aw U (AK 17 U ?_ ?_)))
   .intro h1;replace h1:=AM h1;refine Ag U (Ag U (A6 U (.bool _) U (Ab ?_)));exact⟨rfl,(),rfl,⟨qaa Value.bool (by rw[qad];simp_all;try omega),trivial⟩,rfl⟩
   .intro h2;replace h2:=AN h2;refine Af U (CD U U (A9 U (.bool _) U (Ab ?_)));exact⟨rfl,(),rfl,⟨qaa Value.bool (by rw[qad];simp_all;try omega),trivial⟩,rfl⟩
  rintro - j20 w hw;subst w;refine An _ U ?_ ?_
  .intro h2;replace h2:=B7 h2;refine Ad (B1 U (Ae U (qA (A7 (Av (BR (v1:=(.pointer _)) (v2:=(.int _ _)) U U U U ?_))))));have h2':ofC ds nx=1:=by unfold ofC;rw[if_neg h1',if_pos (by simpa using h2)]
   exact⟨_,by rw[h2'],fun _=>rfl,(fun h=>by omega),H.ext⟩
  .intro h2;replace h2:=B9 h2;have h2':(decide (1<=nx) && decide (nx<=4611686018427387904))=true:=by simpa using h2
   have h2n:¬(decide (1<=nx) && decide (nx<=4611686018427387904))=false:=by rw[h2'];decide
   refine Aq (Aa (Ad (OB .u64 U H ?_)));rintro b o w hM H;refine Af U (Bx (DU b nx) Aac Aak ?_);refine Br (DU b nx) (.agg _) U U H ?_;rintro b24 w - H;refine B1 U (qA (Ad (Ae U (qA (Ao (Ad (A2 U (Ba Dh U (Af U ?_)))))))));refine qA (A1 (Bt 288230376017494704 (α:=OSt) (fun t=>[(7,.int .u64 t.ah),(27,.int .i64 (t.i:Int))]) (fun t w'=>t.i<=ds.length/\t.ah=K8 0 (ds.take t.i)/\FP nx 0 (ds.take t.i)=true/\CY .u64 (dm (ds.take t.i)) t.o/\Ctx w0 [] w' [(b24,Bl 132 (DU b nx)),(b,t.o)]) (fun t=>ds.length - t.i) ⟨0,0,o⟩ U ?_ ?_ ?_))
   .exact⟨rfl,rfl,trivial⟩
   .exact⟨qaj _,rfl,rfl,hM,H⟩
   .rintro⟨i,ah,o⟩ j w ⟨hi,hah,has,hM,H⟩;dsimp only at hi hah has hM H;dsimp only;refine Ad (Bm U U (qA (Ao (An _ U ?_ ?_))))
    .intro h3;replace h3:=AM h3;obtain⟨d,hd⟩:=AA (l:=ds) (i:=i);have hdi:=hid d (qac hd);have htk:ds.take (i+1)=ds.take i++[d]:=by rw[qbw,hd];rfl
     have hasc:FP nx 0 (ds.take (i+1))=(Es d && (decide (ah<d.id) && decide (d.id<nx))):=by
      rw[htk,K9,has,qcp,<-hah];show(_ && FP nx d.id [])=_;show(_ && true)=_;rw[qdj]
     refine Aq (Aa (Ao (A1 (Ad (Be R Dh BO U U (by rfl) ?_)))));refine BQ _ DT BO U U ((R.ext0 H.ext).row hd U) (AU D4 H ?_);rintro b9 w - H;refine Bj BO U U U (by exact CW _) H at0 U ?_;rintro w H;refine qA (Ao (Ad (BV (α:=Unit) 70366596694016 (fun _=>[(45,.bool (!(Es d && (decide (ah<d.id) && decide (d.id<nx)))))]) (fun _ w'=>Ctx w0 [] w' [(b9,Bl 118 (CS d)),(b24,Bl 132 (DU b nx)),(b,o)]) U ?_ ?_)))
     .refine Cj DT BO U H at0 U (Al qB (WJ d _) U ?_);rintro v w ⟨rfl,hx32⟩;replace H:=H.call hx32;refine BE U (Aw U (AK 34 U ?_ ?_))
      .intro h3;replace h3:=B7 h3;refine Ag U (Ag U (Ag U (Ag U (A6 U (.bool _) U (Aw U (Ag U (Ag U (Ag U (Ag U ?_)))))))));refine A6 U (.bool _) U (Ab ?_);exact⟨rfl,(),rfl,⟨qaa Value.bool (by clear hasc;rw[qad];simp_all;try omega),trivial⟩,H⟩
      .intro h4;replace h4:=B9 h4;refine Ah FJ U (AB Bz U H at0 U (Af U (Kc U U (A9 U (.bool _) U (Aw U (AK 40 U ?_ ?_))))))
       .intro h5;replace h5:=AM h5;refine Ag U (Ag U (Ag U (Ag U (A6 U (.bool _) U (Ab ?_)))));exact⟨rfl,(),rfl,⟨qaa Value.bool (by clear hasc;rw[qad];simp_all;try omega),trivial⟩,H⟩
       .intro h6;replace h6:=AN h6;refine Ah FJ U (AB Bz U H at0 U (Af U (CG U U (A9 U (.bool _) U (Ab ?_)))));exact⟨rfl,(),rfl,⟨qaa Value.bool (by clear hasc;rw[qad];simp_all;try omega),trivial⟩,H⟩
     rintro - j45 w H;refine An _ U ?_ ?_
     .intro h4;replace h4:=B7 h4;refine Ad (B1 U (Ae U (qA (A7 (Av (AF (Av (Av (AF (Av (BR (v1:=(.pointer _)) (v2:=(.int _ _)) U U U U ?_)))))))))))
      have h4':ofC ds nx=1:=by
       unfold ofC;rw[if_neg h1',if_neg h2n,if_pos];have h5:FP nx 0 ds=FP nx 0 (ds.take (i+1)++ds.drop (i+1)):=by rw[qbp]
       rw[h5,K9,hasc,show(Es d && (decide (ah<d.id) && decide (d.id<nx)))=false by simpa using h4];rfl
      exact⟨_,by rw[h4'],fun _=>rfl,(fun h=>by omega),H.ext⟩
     .intro h4;replace h4:=B9 h4;have h4':(Es d && (decide (ah<d.id) && decide (d.id<nx)))=true:=by simpa using h4
      have hgt:ah<d.id:=by simp only[qaf,qas]at h4';exact h4'.2.1
      have hno:Ey (dm (ds.take i)) d.id=none:=QT fun x hx=>by
       have:=((JL has).1 x hx).2.1;omega
      refine Aq (Aa (Fh [([0,1,2,3,4,5,6,7,8],9),([10],11),([],12)] (fun z=>z.heap[b9]?=some (Bl 118 (CS d))/\z.heap[b24]?=some (Bl 132 (DU b nx))) [] Bq (⟨H.drew.get at0,H.drew.get at1⟩) ?_));refine AH U U (BF U (Bg U (Ap DO U (B3 Ft U (fun _ hx=>(by rw[Aj hx.2];rfl)) ?_))));refine Ap FJ U (B3 Bz U (fun _ hx=>(by rw[Aj hx.1];rfl)) ?_);refine Gh _ DT BO U U (fun _ hx=>(Abv hx.1)) (Ap FJ U (B3 Bz U (fun _ hx=>(by rw[Aj hx.1];rfl)) ?_));refine AR ?_;replace H:=H.drew;refine Tx U FG Fk LD U U H at2 hM hno ?_;rintro st o1 w hE H;refine Ab (BM (⟨H.get at0,H.get at1⟩) (AH U U ?_));refine Bv U U (AR (Qj (G0 d) U U U U H at2 hE ?_));rintro o2 w hM2 H;refine Ab (BM (⟨H.get at0,H.get at1⟩) (AH U U ?_));refine AR (Ae U (Ab (BM (⟨H.get at0,H.get at1⟩) (BG (A8 (Aa (A0 (Az U U ?_))))))));refine Af U (qA ?_)
      exact⟨⟨i+1,d.id,o2⟩,rfl,⟨rfl,rfl,trivial⟩,⟨by dsimp only;omega,by dsimp only;rw[htk,Qn],by dsimp only;rw[hasc];exact h4',by dsimp only;rw[htk,<-Abu];exact hM2,H.tail⟩,by dsimp only;omega⟩
    .intro h3;replace h3:=AN h3;obtain rfl:i=ds.length:=by omega
     rw[qbj]at hM has
     have hC:ofC ds nx=(ER (ds.map (·.am))).2:=by
      unfold ofC;rw[if_neg h1',if_neg h2n,if_neg (by rw[has];decide)]
     rw[hC];obtain⟨tt,htt⟩:=qD (ER (ds.map (·.am)));rw[<-htt];refine Bp (Am (Am (AO (Aa (Ao (Ad (Ax U (Al qB (P5 _ (H.get at0) (H.get at1) hM) U ?_))))))));rintro v w ⟨l,hlp,F⟩;obtain⟨a3,n3,c3,f3,rfl,O3,hb3⟩:=F.ex;replace H:=H.call F.ext;have hl3:=O3.llen;rw[qak]at hl3;have hlq:=hlp.length_eq;rw[qak]at hlq;refine Al qB (Le a3 n3 c3 l _ (O3.rd1 fun x hx=>(hb3 x hx).1) (by omega)) U ?_;rintro v w ⟨rfl,rfl⟩;rw[QS hlp];rw[<-htt];refine Cb U (AJ U U (AJ U U (Ae U (Ae U (qA (Ad (Af U (Cv U U (qA ?_)))))))));refine An _ U ?_ ?_
     .intro h5;replace h5:=Cy h5;refine Ad (Af U (B1 U (Ae U (qA (A7 (Av (BR (v1:=(.pointer _)) (v2:=(.int _ _)) U U U U ?_)))))));exact⟨_,rfl,fun _=>rfl,(fun h=>absurd h h5),H.ext⟩
     .intro h5;replace h5:=Cz h5;refine Aq (Aa (Ad (Ax U (B1 U (Ae U (qA (A7 (BR (v1:=(.pointer _)) (v2:=(.int _ _)) U U U U ?_))))))));have h5':tt.2=0:=by omega
      refine⟨_,by rw[h5'],(fun h=>absurd h5' h),(fun _=>⟨b24,b,o,rfl,H.get at0,H.get at1,hM,?_,?_,H.ne at0 at1 (by decide)⟩),H.ext⟩
      .exact(H.own (b24,_) (qac (i:=0) U)).elim (fun h=>by cases h) id
      .exact(H.own (b,_) (qac (i:=1) U)).elim (fun h=>by cases h) id
structure Ac where
 ba:Int
 re:Int
instance:DecidableEq Ac:=fun x y=>if h:x.ba=y.ba/\x.re=y.re then isTrue (by cases x;cases y;simp_all)else isFalse fun e=>h (by subst e;exact⟨rfl,rfl⟩)
abbrev CQ(a:Ac):List Value:=[.int .i64 a.ba,.int .i64 a.re]
theorem It(a:Ac):∀v∈CQ a,AZ v=true:=by simp[CQ,AZ]
theorem Ym(acs:List Ac):∀v∈acs.flatMap CQ,AZ v=true:=fun v hv=>by
 obtain⟨a,_,h⟩:=qed.1 hv;exact It a v h
theorem P6(acs:List Ac):(acs.flatMap CQ).length=acs.length*2:=by
 induction acs with
 |nil=>rfl
 |cons a acs ih =>
  rw[qby,qat,ih];show 2+acs.length*2=(acs.length+1)*2;omega
theorem QU(a:Option Addr)(n c:Nat)(acs:List Ac)(w:World)(R:Rd w a 2 CQ acs)(hn:acs.length=n)(hm:n<=1000000000) :
  Ret prog 90 #[.slice a n c] w fun v w'=>Fresh w w' 108 2 v (acs.flatMap CQ):=by
 subst hn;obtain⟨w0,rfl,H⟩:=qE w;refine Ay (fn:=f90) func90 U [.slice a acs.length c] U (Ad (A4 U (qA (Ao (Ad (A2 U (Ja U DE U (qA (An _ U ?_ ?_)))))))))
 .intro h1;have ha:a=none:=by simpa using h1
  subst ha
  have hxs:acs=[]:=by
   cases acs with
   |nil=>rfl
   |cons x xs=>obtain⟨b,o,h⟩:=R.some' (by simp);cases h
  subst hxs;refine Ad (A4 U (qA (A7 (Av (AD (v:=(.slice _ _ _)) U U U ?_)))));exact Fresh.nil H _ _
 .intro h1;refine Aq (Aa (Ad (GA DE Da H ?_)));rintro b5 w H O;refine A2 U (G9 U DE DE Da Zv GF U (acs.flatMap CQ) U U H O (P6 acs) (Ym acs) ((R.ext0 H.ext).app (fun _ _=>rfl) (by omega)) ?_);rintro a7 c7 full7 w H O;refine A4 U (qA (A7 (AD (v:=(.slice _ _ _)) U U U ?_)));exact H.fresh O
theorem P7{bd:Nat}(a:Option Addr)(n c:Nat)(acs:List Ac)(w:World)(hd:w.heap[bd]?=some (Bl 129 [.slice a n c]))(R:Rd w a 2 CQ acs)(hn:acs.length=n)(hm:n<=1000000000:=by omega):
  Ret prog 46 #[ptr bd] w fun v w'=>Fresh w w' 108 2 v (acs.flatMap CQ):=by
 obtain⟨w0,rfl,H⟩:=qE w;refine Ay (fn:=Tryz.f46) func46 U [.pointer (some ⟨bd,0,none⟩)] U ?_;refine Ad (A4 U (qA (Ao (Ad (Ax U (Cu N1 U ?_))))));refine qA (An _ U ?_ ?_)
 .intro h0;cases h0
 .intro h0;refine Aq (Aa (Ad (Ax U (AE U (Ah EF U (Bc Gi U ((by rw[Aj hd];rfl)) ?_))))));refine Al qB (QU a n c acs _ R hn hm) U ?_;rintro v w F;obtain⟨a9,n9,c9,full9,rfl,O9,hb9⟩:=F.ex;refine A4 U (qA (A7 (AD (v:=(.slice _ _ _)) U U U ?_)));exact F
theorem KA{α β:Type}{f:α->β}{l:List α}{i:Nat}{x:α}(h:l[i]?=some x):(l.take (i+1)).map f=(l.take i).map f++[f x]:=by
 rw[qbw,h,qay];rfl
theorem II{bd:Nat}(a:Option Addr)(n c:Nat)(acs:List Ac)(w:World)(hd:w.heap[bd]?=some (Bl 129 [.slice a n c]))(R:Rd w a 2 CQ acs)(hn:acs.length=n)(hm:n<=1000000:=by omega):
  Ret prog 98 #[ptr bd] w fun v w'=>Fresh w w' 2 1 v ((acs.map (·.ba)).map Dj):=by
 subst hn;obtain⟨w0,rfl,H⟩:=qE w;refine Ay (fn:=f98) func98 U [.pointer (some ⟨bd,0,none⟩)] U ?_;refine Ad (A4 U (qA (Ad (A4 U (qA (Ao (Ad (Ax U (AE U ?_)))))))));refine Ah EF U (Bc Gi U ((by rw[Aj hd];rfl)) ?_);refine Ba DE U (Af U (qA (A1 (Bt 2095144 (α:=LSt) (fun t=>[(3,.slice t.a t.i t.c),(11,.int .i64 (t.i:Int))]) (fun t w'=>t.i<=acs.length/\OS t.a t.i t.c 1 t.full (((acs.take t.i).map (·.ba)).map Dj)/\Ctx w0 [] w' (ent t.a 2 t.full)) (fun t=>acs.length - t.i) ⟨0,none,0,[]⟩ U ?_ ?_ ?_))))
 .exact⟨rfl,rfl,trivial⟩
 .exact⟨qaj _,OS.nil,H⟩
 .rintro⟨i,a2,c2,full⟩ j w ⟨hi,O,H⟩;dsimp only at hi O H;dsimp only;refine Ad (Bm U U (qA (Ao (An _ U ?_ ?_))))
  .intro h1;replace h1:=AM h1;obtain⟨x,hx⟩:=AA (l:=acs) (i:=i);refine Aq (Aa (Ao (A1 (Ad (Be R DE Da U U (by rfl) ?_)))));refine BQ _ Kk Da U U ((R.ext0 H.ext).row hx U) (AU GF H ?_);rintro b5 w - H;refine Bj Da U U U (by exact It _) H at0 U ?_;rintro w H;refine qA (A0 (A2 U (Ah Ef U (AB Bw U H at0 U (Cs _ (.int _ _) AV B2 E5 U U U U H ?_)))));rintro b18 w - H;refine CI (L:=[_]) AV AV B2 LB E5 U U U H O U (by simp[AZ]) ?_;rintro a' c' full' w H O;refine A4 U (Ab (A8 (Aa (A0 (Az U U ?_)))));refine Af U (qA ?_);exact⟨⟨i+1,a',c',full'⟩,rfl,⟨rfl,rfl,trivial⟩,⟨by dsimp only;omega,by dsimp only;rw[KA hx,qay];exact O,H.tail⟩,by dsimp only;omega⟩
  .intro h1;replace h1:=AN h1;refine Bp (Am (Am (AO (Aa (Ad (A2 U (A4 U (qA (A7 (AD (v:=(.slice _ _ _)) U U U ?_))))))))));obtain rfl:i=acs.length:=by omega
   rw[qbj]at O;exact Ctx.fresh (L:=[]) H O
def Dz(a:Ac):Int:=max 0 (a.ba - a.re)
def IJ(a:Ac):Bool:=Dc a.ba && Dc a.re
theorem Abx{bd:Nat}(a:Option Addr)(n c:Nat)(acs:List Ac)(w:World)(hd:w.heap[bd]?=some (Bl 129 [.slice a n c]))(R:Rd w a 2 CQ acs)(hn:acs.length=n)(hmay:∀x∈acs,IJ x=true)(hm:n<=1000000:=by omega):
  Ret prog 116 #[ptr bd] w fun v w'=>Fresh w w' 2 1 v ((acs.map Dz).map Dj):=by
 obtain⟨w0,rfl⟩:=qD w;refine Ay (fn:=f116) func116 U [.pointer (some ⟨bd,0,none⟩)] U ?_;refine Ad (A4 U (qA (Ad (A4 U (qA (Ao (Ad (Ax U (Al qB (P7 a n c acs _ hd R hn) U ?_)))))))));rintro v w F;obtain⟨a7,n7,c7,full7,rfl,O7,hb7⟩:=F.ex;have hl7:=O7.llen;rw[P6]at hl7;obtain rfl:acs.length=n7:=by omega
 refine Ba DE U (Af U (qA (A1 ?_)));obtain⟨w1,rfl,H⟩:=qE w;have R7:Rd w1 a7 2 CQ acs:=OS.rd O7 (fun x hx=>(hb7 x hx).1) (fun _ _=>rfl) (by omega);refine Bt 8388136 (α:=LSt) (fun t=>[(3,.slice t.a t.i t.c),(9,.int .i64 (t.i:Int))]) (fun t w'=>t.i<=acs.length/\OS t.a t.i t.c 1 t.full (((acs.take t.i).map Dz).map Dj)/\Ctx w1 [] w' (ent t.a 2 t.full)) (fun t=>acs.length - t.i) ⟨0,none,0,[]⟩ U ?_ ?_ ?_
 .exact⟨rfl,rfl,trivial⟩
 .exact⟨qaj _,OS.nil,H⟩
 .rintro⟨i,a2,c2,full⟩ j w ⟨hi,O,H⟩;dsimp only at hi O H;dsimp only;refine Ad (Bm U U (qA (Ao (An _ U ?_ ?_))))
  .intro h1;replace h1:=AM h1;obtain⟨x,hx⟩:=AA (l:=acs) (i:=i);have hxm:=hmay x (qac hx)
   have hx2:(0<=x.ba/\x.ba<=4503599627370496)/\0<=x.re/\x.re<=4503599627370496:=by
    unfold IJ at hxm;rw[qaf,CN,CN]at hxm;exact hxm
   refine Aq (Aa (Ao (A1 (Ad (Be R7 DE Da U U (by rfl) ?_)))));refine BQ _ Kk Da U U ((R7.ext0 H.ext).row hx U) (AU GF H ?_);rintro b5 w - H;refine Bj Da U U U (by exact It _) H at0 U ?_;rintro w H;refine qA (A0 (A2 U (Ah Ef U (AB Bw U H at0 U (Ah Jf U (AB Bw U H at0 U (Bu U U ?_)))))));refine KQ U U U (Cs _ (.int _ _) AV B2 E5 U U U U H ?_);rintro b20 w - H;refine CI (L:=[_]) AV AV B2 LB E5 U U U H O U (by simp[AZ]) ?_;rintro a' c' full' w H O;refine A4 U (Ab (A8 (Aa (A0 (Az U U ?_)))));refine Af U (qA ?_);exact⟨⟨i+1,a',c',full'⟩,rfl,⟨rfl,rfl,trivial⟩,⟨by dsimp only;omega,by dsimp only;rw[KA hx,qay];exact O,H.tail⟩,by dsimp only;omega⟩
  .intro h1;replace h1:=AN h1;refine Bp (Am (Am (AO (Aa (Ad (A2 U (A4 U (qA (A7 (AD (v:=(.slice _ _ _)) U U U ?_))))))))));obtain rfl:i=acs.length:=by omega
   rw[qbj]at O;obtain⟨⟨a3,n3,c3,f3,e1,e2,e3⟩,e4⟩:=Ctx.fresh (L:=[]) H O;exact⟨⟨a3,n3,c3,f3,e1,e2,fun x hx=>⟨(e3 x hx).1,qa0 F.ext.size (e3 x hx).2⟩⟩,F.ext.trans e4⟩
def El(acs:List Ac):Int:=if 16<acs.length then 6 else if acs.all IJ=false then 1 else(ER (acs.map Ac.ba)).2
theorem Ak8(a:Option Addr)(n c:Nat)(acs:List Ac)(w:World)(R:Rd w a 2 CQ acs)(hn:acs.length=n)(hm:n<=1000000000:=by omega):
  Ret prog 66 #[.slice a n c] w fun v w'=>∃p,v=.tuple #[p,.int .i64 (El acs)]/\(El acs≠0->p=.pointer none)/\(El acs=0->∃bd a' c' full,p=ptr bd/\w'.heap[bd]?=some (Bl 129 [.slice a' acs.length c'])/\OS a' acs.length c' 2 full (acs.flatMap CQ) /\
   (∀x∈ent a' 108 full,w'.heap[x.1]?=some x.2/\w.heap.size<=x.1/\x.1≠bd)/\w.heap.size<=bd)/\Ext [] w w':=by
 subst hn;obtain⟨w0,rfl,H⟩:=qE w;refine Ay (fn:=f66) func66 U [.slice a acs.length c] U (Ad (B1 U (Ae U (qA (Ao (Ad (A2 U (Ba DE U (CD U U (qA ?_))))))))));refine An _ U ?_ ?_
 .intro h1;replace h1:=AM h1;refine Ad (B1 U (Ae U (qA (A7 (Av (BR (v1:=(.pointer _)) (v2:=(.int _ _)) U U U U ?_))))));have h1':El acs=6:=by unfold El;rw[if_pos (by omega)]
  exact⟨_,by rw[h1'],fun _=>rfl,(fun h=>by omega),H.ext⟩
 .intro h1;replace h1:=AN h1;have h1':¬16<acs.length:=by omega
  refine Aq (Aa (Ad (A2 U (Al qB (QU a acs.length c acs _ R U hm) U ?_))));rintro v w F;obtain⟨a3,n3,c3,full3,rfl,O3,hb3⟩:=F.ex;have hx13:=F.ext;replace H:=H.call hx13;have hl3:=O3.llen;rw[P6]at hl3;obtain rfl:acs.length=n3:=by omega
  obtain⟨w13,rfl⟩:=qD w;replace H:=Ctx.start w13 [];refine Bx [.slice a3 acs.length c3] Aab Aaj (Br [.slice a3 acs.length c3] (.agg _) U U H ?_);rintro b15 w - H;refine B1 U (qA (Ao (Ad (A2 U (Ba DE U (Af U (qA (A1 (Bt 8589672524 (α:=Nat) (fun i=>[(18,.int .i64 (i:Int))]) (fun i w'=>i<=acs.length/\Ctx w13 [] w' [(b15,Bl 129 [.slice a3 acs.length c3])]/\(∀(k:Nat) (x:Ac),k<i->acs[k]?=some x->IJ x=true)) (fun i=>acs.length - i) 0 U ?_ ?_ ?_)))))))))
  .exact⟨rfl,trivial⟩
  .exact⟨qaj _,H,(fun k x h=>absurd h (qa7 _))⟩
  .rintro i j w ⟨hi,H,hall⟩;obtain⟨w1,rfl⟩:=qD w;have R1:=R.ext0 (hx13.trans H.ext);have hd1:=H.get at0;have H1:=H;clear H;have H:=Ctx.start w1 [];refine Ad (Bm U U (qA (Ao (An _ U ?_ ?_))))
   .intro h2;replace h2:=AM h2;obtain⟨x,hx⟩:=AA (l:=acs) (i:=i);refine Aq (Aa (Ao (A1 (Ad (Be R1 DE Da U U (by rfl) ?_)))));refine BQ _ Kk Da U U ((R1.ext0 H.ext).row hx U) (AU GF H ?_);rintro b6 w - H;refine Bj Da U U U (by exact It _) H at0 U ?_;rintro w H;refine qA (Ad (BV (α:=Unit) 4290772992 (fun _=>[(31,.bool (!IJ x))]) (fun _ w'=>Ctx w1 [] w' [(b6,Bl 108 (CQ x))]) U ?_ ?_))
    .refine Ah Ef U (AB Bw U H at0 U (Al qB (JK x.ba _) U ?_));rintro v w ⟨rfl,rfl⟩;refine BE U (Aw U (AK 26 U ?_ ?_))
     .intro h1;replace h1:=B7 h1;refine Ag U (Ag U (Ag U (Ag U (A6 U (.bool _) U (Ab ?_)))));exact⟨rfl,(),rfl,⟨qaa Value.bool (by unfold IJ;rw[qad];simp_all;try omega),trivial⟩,H⟩
     .intro h2;replace h2:=B9 h2;refine Ah Jf U (AB Bw U H at0 U (Al qB (JK x.re _) U ?_));rintro v w ⟨rfl,rfl⟩;refine BE U (A9 U (.bool _) U (Ab ?_));exact⟨rfl,(),rfl,⟨qaa Value.bool (by unfold IJ;rw[qad];simp_all;try omega),trivial⟩,H⟩
    rintro - j31 w H;refine An _ U ?_ ?_
    .intro h3;replace h3:=B7 h3;refine Ad (B1 U (Ae U (qA (A7 (AF (Av (Av (AF (Av (BR (v1:=(.pointer _)) (v2:=(.int _ _)) U U U U ?_))))))))));have h3':El acs=1:=by unfold El;rw[if_neg h1',if_pos (Ew hx (by simpa using h3))]
     exact⟨_,by rw[h3'],fun _=>rfl,(fun h=>by omega),(hx13.trans H1.ext).trans H.ext⟩
    .intro h3;replace h3:=B9 h3;refine Aq (A8 (Aa (A0 (Az U U ?_))));refine Af U (qA ?_);refine⟨i+1,rfl,⟨rfl,trivial⟩,⟨by omega,H1.call H.ext,(fun k y hk hy=>?_)⟩,by omega⟩
     rcases qap k i with h7|h7
     .exact hall k y h7 hy
     .obtain rfl:k=i:=by omega
      rw[hx]at hy;cases hy
      simpa using h3
   .intro h2;replace h2:=AN h2;obtain rfl:i=acs.length:=by omega
    have hal:acs.all IJ=true:=Fx fun k x hk hx=>hall k x hk hx
    have hb3':∀x∈ent a3 108 full3,w1.heap[x.1]?=some x.2/\w0.heap.size<=x.1/\x.1≠b15:=fun x hx=>by
     have h9:=hb3 x hx;have h8:=AY h9.1;have h7:=(H1.own (b15,_) (qac (i:=0) rfl)).elim (fun h=>by cases h) id;dsimp only at h7;exact⟨H1.ext.to h9.1 (by simp),h9.2,by omega⟩
    have R3:Rd w1 a3 2 CQ acs:=OS.rd O3 (fun x hx=>(hb3' x hx).1) (fun _ _=>rfl) (by omega);obtain⟨tt,htt⟩:=qD (ER (acs.map Ac.ba));have hC:El acs=tt.2:=by unfold El;rw[if_neg h1',if_neg (by rw[hal];decide),htt]
    rw[hC];refine Bp (Am (Am (AO (Aa (Ao (Ad (Ax U (Al qB (II a3 acs.length c3 acs _ hd1 R3 U) U ?_))))))));rintro v w F4;obtain⟨a4,n4,c4,f4,rfl,O4,hb4⟩:=F4.ex;replace H:=H.call F4.ext;have hl4:=O4.llen;rw[qak,qak]at hl4;refine Al qB (Le a4 n4 c4 (acs.map Ac.ba) _ (O4.rd1 fun x hx=>(hb4 x hx).1) (by rw[qak];omega)) U ?_;rintro v w ⟨rfl,rfl⟩;rw[<-htt];refine Cb U (AJ U U (AJ U U (Ae U (Ae U (qA (Ad (Af U (Cv U U (qA ?_)))))))));refine An _ U ?_ ?_
    .intro h5;replace h5:=Cy h5;refine Ad (Af U (B1 U (Ae U (qA (A7 (Av (BR (v1:=(.pointer _)) (v2:=(.int _ _)) U U U U ?_)))))));exact⟨_,rfl,fun _=>rfl,(fun h=>absurd h h5),(hx13.trans H1.ext).trans H.ext⟩
    .intro h5;replace h5:=Cz h5;refine Aq (Aa (Ad (Ax U (B1 U (Ae U (qA (A7 (BR (v1:=(.pointer _)) (v2:=(.int _ _)) U U U U ?_))))))));have h5':tt.2=0:=by omega
     refine⟨_,by rw[h5'],(fun h=>absurd h5' h),(fun _=>⟨b15,a3,c3,full3,rfl,H.ext.to hd1 (by simp),O3,fun x hx=>⟨H.ext.to (hb3' x hx).1 (by simp),(hb3' x hx).2⟩,?_⟩),(hx13.trans H1.ext).trans H.ext⟩;exact qa0 hx13.size ((H1.own (b15,_) (qac (i:=0) U)).elim (fun h=>by cases h) id)
def a00:Ac:=⟨0,0⟩
def acZ(acs:List Ac)(z:Nat->Int)(k i:Nat):Ac:=if i<k then⟨z i,(acs.getD i a00).re⟩else acs.getD i a00
def SD(acs:List Ac)(z:Nat->Int)(k:Nat):List Ac:=(List.range acs.length).map (acZ acs z k)
theorem TY(acs:List Ac)(z:Nat->Int)(k:Nat):(SD acs z k).length=acs.length:=by unfold SD;simp
theorem P8{acs:List Ac}{z:Nat->Int}{k i:Nat}(h:i<acs.length):(SD acs z k)[i]?=some (acZ acs z k i):=DZ h
theorem QV(acs:List Ac)(z:Nat->Int):SD acs z 0=acs:=by
 refine qb0 fun i=>?_
 rcases qap i acs.length with h|h
 .obtain⟨e,he⟩:=AA (h:=h);rw[P8 h,he];unfold acZ;rw[if_neg (by omega),Bs he]
 .rw[qa9 (by rw[TY];exact h),qa9 h]
theorem Aby{acs:List Ac}{z:Nat->Int}{i:Nat}:(SD acs z i).set i (acZ acs z (i+1) i)=SD acs z (i+1):=by
 unfold SD;refine Jb U fun j hj hn=>?_;unfold acZ
 by_cases h:j<i
 .rw[if_pos h,if_pos (by omega)]
 .rw[if_neg h,if_neg (by omega)]
def shA(acs:List Ac)(ys:List Int):List Ac:=if DF (acs.map Ac.ba) ys=0 then List.zipWith (fun a y=>⟨a.ba+y,a.re⟩) acs ys else acs
def shZ(acs:List Ac)(ys:List Int):List Int:=if DF (acs.map Ac.ba) ys=0 then Df (acs.map Ac.ba) ys else[]
theorem VF{xs ys:List Int}(h:DF xs ys=0):xs.length=ys.length:=by
 unfold DF at h
 split at h
 .omega
 .rename_i h1
  have h2:(decide (xs.length=ys.length) && (xs.all Dc && IH ys))=true:=by simpa using h1
  simp only[qaf,qas]at h2;exact h2.1
theorem Ak9(acs:List Ac)(ys:List Int):(shZ acs ys).length<=acs.length:=by
 unfold shZ
 split
 .unfold Df;rw[qcn,qak];omega
 .simp
theorem Ala(acs:List Ac)(ys:List Int):SD acs (fun i=>(shZ acs ys).getD i 0) (shZ acs ys).length=shA acs ys:=by
 unfold shA shZ
 by_cases h:DF (acs.map Ac.ba) ys=0
 .rw[if_pos h,if_pos h];have hl:=VF h;rw[qak]at hl;have hsl:(Df (acs.map Ac.ba) ys).length=acs.length:=by unfold Df;rw[qcn,qak];omega
  refine qb0 fun i=>?_
  rcases qap i acs.length with h7|h7
  .obtain⟨e,he⟩:=AA (h:=h7);obtain⟨y,hy⟩:=AA (l:=ys) (i:=i);rw[P8 h7,qdx,he,hy];unfold acZ;dsimp only;rw[if_pos (by omega),Bs he,Bs (K6 (xs:=acs.map Ac.ba) (x:=e.ba) (by rw[qa1,he];rfl) hy)]
  .rw[qa9 (by rw[TY];exact h7),qa9 (by rw[qcn];omega)]
 .rw[if_neg h,if_neg h];exact QV _ _
theorem Alb{acs:List Ac}{ys zs:List Int}{v':Value}{w0 w1 w:World}(hz:zs=shZ acs ys)(hx:Ext [] w0 w1)(h1:DF (acs.map Ac.ba) ys≠0->v'=.slice none 0 0)(h2:DF (acs.map Ac.ba) ys=0->Fresh w1 w 2 1 v' ((Df (acs.map Ac.ba) ys).map Dj)) :
  ∃a4 n4 c4,v'=.slice a4 n4 c4/\zs.length=n4/\Rd w a4 1 I1 zs/\(zs≠[]->w0.heap.size<=(adr a4).block):=by
 subst hz;unfold shZ
 by_cases h:DF (acs.map Ac.ba) ys=0
 .rw[if_pos h];obtain⟨a,n,c,full,rfl,O,hb⟩:=(h2 h).ex;have hl:=O.llen;rw[qak]at hl;refine⟨a,n,c,rfl,by omega,O.rd1 fun x hx=>(hb x hx).1,fun hne=>?_⟩
  have hpos:0<n:=by
   have:=qbn.2 hne;omega
  obtain⟨q,rfl⟩:=O.form hpos;exact qa0 hx.size (hb (q,Bl 2 full) (qab.2 U)).2
 .rw[if_neg h];exact⟨none,0,0,h1 h,rfl,Rd.nil,fun h=>absurd rfl h⟩
structure HSt where
 i:Nat
 full:List Value
theorem Yn{bd:Nat}(a b:Option Addr)(c m d:Nat)(full:List Value)(acs:List Ac)(ys:List Int)(w:World)(hd:w.heap[bd]?=some (Bl 129 [.slice a acs.length c]))(O:OS a acs.length c 2 full (acs.flatMap CQ))(hb:∀x∈ent a 108 full,w.heap[x.1]?=some x.2/\x.1≠bd)(Ry:Rd w b 1 I1 ys)(hm:ys.length=m)(hn:acs.length<=1000000:=by omega)(hm2:m<=1000000:=by omega):
  Ret prog 122 #[ptr bd,.slice b m d] w fun v w'=>v=.int .i64 (DF (acs.map Ac.ba) ys)/\∃full',OS a acs.length c 2 full' ((shA acs ys).flatMap CQ)/\(∀x∈ent a 108 full',w'.heap[x.1]?=some x.2)/\Ext ((ent a 108 full).map (·.1)) w w':=by
 obtain⟨w0,rfl⟩:=qD w;have R:Rd w0 a 2 CQ acs:=OS.rd O (fun x hx=>(hb x hx).1) (fun _ _=>rfl) (by omega);obtain⟨code,hcode⟩:=qD (DF (acs.map Ac.ba) ys);obtain⟨zs,hzs⟩:=qD (shZ acs ys);have hzl:zs.length<=acs.length:=by rw[hzs];exact Ak9 acs ys
 rw[<-Ala,<-hzs,<-hcode];refine Ay (fn:=f122) func122 U [.pointer (some ⟨bd,0,none⟩),.slice b m d] U ?_;refine Ad (Ae U (qA (Ao (Ad (Ax U (Cu N1 U ?_))))));refine qA (An _ U ?_ ?_)
 .intro h0;cases h0
 .intro h0;refine Aq (Aa (Ad (Ax U (Al qB (II a acs.length c acs _ hd R U (hm:=hn)) U ?_))));rintro v w F;obtain⟨a3,n3,c3,f3,rfl,O3,hb3⟩:=F.ex;have hl3:=O3.llen;rw[qak,qak]at hl3;refine A2 U (Al qB (Yh a3 b n3 c3 m d (acs.map Ac.ba) ys _ (O3.rd1 fun x hx=>(hb3 x hx).1) (by rw[qak];omega) (Ry.ext0 F.ext) hm hm2) U ?_);rintro v w ⟨v',rfl,hv1,hv2,hx15⟩;rw[<-hcode];obtain⟨a4,n4,c4,rfl,hn4,R4,hbz⟩:∃a4 n4 c4,v'=.slice a4 n4 c4/\zs.length=n4/\Rd w a4 1 I1 zs/\(zs≠[]->w0.heap.size<=(adr a4).block):=Alb hzs F.ext hv1 hv2;refine Cb U (AJ U U (AJ U U (A4 U (Ae U (qA (Ao (Ad (A2 U (Ba AV U ?_)))))))));refine Af U (qA (A1 ?_));subst hn4;obtain⟨w1,rfl⟩:=qD w;have hx1:=F.ext.trans hx15;have hb1:∀x∈ent a 108 full,w1.heap[x.1]?=some x.2:=fun x hx=>hx1.to (hb x hx).1 (by simp)
  obtain⟨ids,hids⟩:=qD ((ent a 108 full).map (·.1))
  have hidl:∀y∈ids,y<w0.heap.size/\y≠bd:=fun y hy=>by
   rw[hids]at hy;obtain⟨x,hx,rfl⟩:=qag.1 hy;exact⟨AY (hb x hx).1,(hb x hx).2⟩
  have H:Ctx w1 ids w1 (ent a 108 full):=⟨Ext.refl _ _,hb1,FY,fun x hx => .inl (by rw[hids];exact qa5 (f:=(·.1)) hx)⟩;have hd1:=hx1.to hd (by simp);rw[<-hids];refine Bt 17178820992 (α:=HSt) (fun t=>[(20,.int .i64 (t.i:Int))]) (fun t w'=>t.i<=zs.length/\OS a acs.length c 2 t.full ((SD acs (fun i=>zs.getD i 0) t.i).flatMap CQ)/\Ctx w1 ids w' (ent a 108 t.full)) (fun t=>zs.length - t.i) ⟨0,full⟩ U ?_ ?_ ?_
  .exact⟨rfl,trivial⟩
  .exact⟨qaj _,by dsimp only;rw[QV];exact O,H⟩
  .rintro⟨i,fu⟩ j w ⟨hi,O,H⟩;dsimp only at hi O H;dsimp only;refine Ad (Bm U U (qA (Ao (An _ U ?_ ?_))))
   .intro h1;replace h1:=AM h1;obtain⟨z,hz⟩:=AA (l:=zs) (i:=i);have hzne:zs≠[]:=fun h=>by rw[h]at hz;cases hz
    have hz0:zs.getD i 0=z:=Bs hz;obtain⟨q,rfl⟩:=O.form (by omega);have hil:i<acs.length:=by omega
    obtain⟨ac,hac⟩:=AA (h:=hil);have hOl:=O.len;have hqn:=O.le;have hzb:(adr a4).block∉ids:=fun h=>by have:=hidl _ h;have:=hbz hzne;omega
    refine Aq (Aa (Ao (A1 (Ad (Af U (Be R4 AV B2 U U (by rfl) ?_))))));refine Bc Bw U (((R4.ext H.ext hzb).fld hz U (j:=0) U)) (Ae U (Ae U (qA (A0 (Ax U (AE U (Ah EF U (Bc Gi U ((H.old (Aj hd1 _) (fun h=>(hidl _ h).2 rfl))) ?_))))))));refine Af U (Af U (Bn DE Da U U ?_));refine Ah Ef U (Ct (.int _ _) B2 U U U H at0 (by omega) ?_);rintro w H;refine Ab (A8 (Aa (A0 (Az U U ?_))));refine Af U (qA ?_);rw[show 0+((i:Int)).toNat*2+0=i*2+0 by omega]at H;have O1:=OS.setf O (y:=acZ acs (fun i=>zs.getD i 0) (i+1) i) (j:=0) (v := .int .i64 z) (fun _=>rfl) (P8 hil) (by decide) (by unfold acZ CQ;dsimp only;rw[if_pos (by omega),if_neg (by omega),hz0];rfl);rw[Aby]at O1;exact⟨⟨i+1,_⟩,rfl,⟨rfl,trivial⟩,⟨by dsimp only;omega,O1,H⟩,by dsimp only;omega⟩
   .intro h1;replace h1:=AN h1;refine Bp (Am (Am (AO (Aa (Ad (Af U (Ae U (qA (A7 (AD (v:=(.int _ _)) U U U ?_))))))))));obtain rfl:i=zs.length:=by omega
    exact⟨rfl,fu,O,fun x hx=>H.blk x hx,(hx1.mono (by simp)).trans H.ext⟩
def inM(x y:Int):Bool:=Dc x && GH y
theorem Abz(x y:Ac):decide (x=y)=true↔CQ x=CQ y:=by
 obtain⟨a,b⟩:=x;obtain⟨c,d⟩:=y;simp[CQ]
theorem Ab0(x y:Du):decide (x=y)=true↔CS x=CS y:=by
 obtain⟨a,b,c,d,e,f,g⟩:=x;obtain⟨a',b',c',d',e',f',g'⟩:=y;simp[CS]
theorem M8{α:Type}{xs ys:List α}(hl:xs.length=ys.length)(h:∀(k:Nat) (x y:α),k<xs.length->xs[k]?=some x->ys[k]?=some y->x=y):xs=ys:=by
 refine qb0 fun i=>?_
 rcases qap i xs.length with h7|h7
 .obtain⟨x,hx⟩:=AA (l:=xs) (i:=i) (h:=h7);obtain⟨y,hy⟩:=AA (l:=ys) (i:=i);rw[hx,hy,h i x y h7 hx hy]
 .rw[qa9 (by omega),qa9 (by omega)]
theorem Yo(a b:Option Addr)(n c m d:Nat)(xs ys:List Ac)(w:World)(R:Rd w a 2 CQ xs)(hn:xs.length=n)(hn2:n<=1000000)(Ry:Rd w b 2 CQ ys)(hm:ys.length=m)(hm2:m<=1000000) :
  Ret prog 43 #[.slice a n c,.slice b m d] w fun v w'=>v=.bool (decide (xs=ys))/\Ext [] w w':=by
 subst hn hm;obtain⟨w0,rfl,H⟩:=qE w;refine Ay (fn:=f43) func43 U [.slice a xs.length c,.slice b ys.length d] U (Ad (Ai U (qA (Ao (Ad (A2 U (Ba DE U (A2 U (Ba DE U (Cv U U ?_))))))))));refine qA (An _ U ?_ ?_)
 .intro h1;replace h1:=Cy h1;refine Ad (Ai U (qA (A7 (Av (AD (v:=(.bool _)) U U U ?_)))));exact⟨qaa Value.bool (qbb fun h=>by rw[h]at h1;simp at h1).symm,H.ext⟩
 .intro h1;replace h1:=Cz h1;have hle:xs.length=ys.length:=by omega
  refine Aq (Aa (Ao (Ad (Ae U (qA (A1 (Bt 67106864 (α:=Nat) (fun i=>[(5,.int .i64 (i:Int))]) (fun i w'=>i<=xs.length/\Ctx w0 [] w' []/\∀(k:Nat) (x y:Ac),k<i->xs[k]?=some x->ys[k]?=some y->x=y) (fun i=>xs.length - i) 0 U ?_ ?_ ?_)))))))
  .exact⟨rfl,trivial⟩
  .exact⟨qaj _,H,fun k x y h=>absurd h (qa7 _)⟩
  .clear H;rintro i j w ⟨hi,H,hb⟩;refine Ao (Ad (Af U (A2 U (Ba DE U (Bm U U (qA (An _ U ?_ ?_)))))))
   .intro h2;replace h2:=AM h2;obtain⟨x,hx⟩:=AA (l:=xs) (i:=i);obtain⟨y,hy⟩:=AA (l:=ys) (i:=i);refine Aq (Aa (Ao (A1 (Dw (fun x=>x=_) Bq U ?_))));refine Cm U (AX U (BH R DE Da U U (by rfl) ?_));refine G4 _ Kk Da U U (by rintro _ rfl;exact((R.ext0 H.drew.ext).row hx rfl)) ?_;refine Cm U (AX U (BH Ry DE Da U U (by rfl) ?_));refine G4 _ Kk Da U U (by rintro _ rfl;exact((Ry.ext0 H.drew.ext).row hy rfl)) ?_;refine Wk (ks:=[true,true]) (xs:=CQ x) (ys:=CQ y) (decide (x=y)) U U U ⟨rfl,rfl,trivial⟩ (Abz x y) ?_;refine BT ?_;rintro _ rfl;replace H:=H.drew;refine An _ U ?_ ?_
    .intro h3;refine Ad (Ai U (qA (A7 (AF (Av (Av (AF (Av (AD (v:=(.bool _)) U U U ?_)))))))));have hne:¬x=y:=by simpa using h3
     exact⟨qaa Value.bool (qbb fun h=>by subst h;rw[hx]at hy;injection hy with hy;exact hne hy).symm,H.ext⟩
    .intro h3;refine Aq (A8 (Aa (A0 (Af U (Az U U ?_)))));refine Ae U (qA ?_);have heq:x=y:=by simpa using h3
     refine⟨i+1,rfl,⟨rfl,trivial⟩,⟨by omega,H,fun k x' y' hk hx' hy'=>?_⟩,by omega⟩
     rcases qap k i with h7|h7
     .exact hb k x' y' h7 hx' hy'
     .obtain rfl:k=i:=by omega
      rw[hx]at hx';rw[hy]at hy';cases hx';cases hy';exact heq
   .intro h2;replace h2:=AN h2;refine Bp (Am (Am (AO (Aa (Ad (Ai U (qA (A7 (AD (v:=(.bool _)) U U U ?_)))))))));obtain rfl:i=xs.length:=by omega
    exact⟨qaa Value.bool (qar (M8 hle hb)).symm,H.ext⟩
theorem Yp(a b:Option Addr)(n c m d:Nat)(xs ys:List Du)(w:World)(R:Rd w a 7 CS xs)(hn:xs.length=n)(hn2:n<=1000000)(Ry:Rd w b 7 CS ys)(hm:ys.length=m)(hm2:m<=1000000) :
  Ret prog 44 #[.slice a n c,.slice b m d] w fun v w'=>v=.bool (decide (xs=ys))/\Ext [] w w':=by
 subst hn hm;obtain⟨w0,rfl,H⟩:=qE w;refine Ay (fn:=f44) func44 U [.slice a xs.length c,.slice b ys.length d] U (Ad (Ai U (qA (Ao (Ad (A2 U (Ba Dh U (A2 U (Ba Dh U (Cv U U ?_))))))))));refine qA (An _ U ?_ ?_)
 .intro h1;replace h1:=Cy h1;refine Ad (Ai U (qA (A7 (Av (AD (v:=(.bool _)) U U U ?_)))));exact⟨qaa Value.bool (qbb fun h=>by rw[h]at h1;simp at h1).symm,H.ext⟩
 .intro h1;replace h1:=Cz h1;have hle:xs.length=ys.length:=by omega
  refine Aq (Aa (Ao (Ad (Ae U (qA (A1 (Bt 67106864 (α:=Nat) (fun i=>[(5,.int .i64 (i:Int))]) (fun i w'=>i<=xs.length/\Ctx w0 [] w' []/\∀(k:Nat) (x y:Du),k<i->xs[k]?=some x->ys[k]?=some y->x=y) (fun i=>xs.length - i) 0 U ?_ ?_ ?_)))))))
  .exact⟨rfl,trivial⟩
  .exact⟨qaj _,H,fun k x y h=>absurd h (qa7 _)⟩
  .clear H;rintro i j w ⟨hi,H,hb⟩;refine Ao (Ad (Af U (A2 U (Ba Dh U (Bm U U (qA (An _ U ?_ ?_)))))))
   .intro h2;replace h2:=AM h2;obtain⟨x,hx⟩:=AA (l:=xs) (i:=i);obtain⟨y,hy⟩:=AA (l:=ys) (i:=i);refine Aq (Aa (Ao (A1 (Dw (fun x=>x=_) Bq U ?_))));refine Cm U (AX U (BH R Dh BO U U (by rfl) ?_));refine G4 _ DT BO U U (by rintro _ rfl;exact((R.ext0 H.drew.ext).row hx rfl)) ?_;refine Cm U (AX U (BH Ry Dh BO U U (by rfl) ?_));refine G4 _ DT BO U U (by rintro _ rfl;exact((Ry.ext0 H.drew.ext).row hy rfl)) ?_;refine Wk (ks:=[true,true,true,true,true,true,false]) (xs:=CS x) (ys:=CS y) (decide (x=y)) U U U ⟨rfl,rfl,rfl,rfl,rfl,rfl,True.intro,True.intro⟩ (Ab0 x y) ?_;refine BT ?_;rintro _ rfl;replace H:=H.drew;refine An _ U ?_ ?_
    .intro h3;refine Ad (Ai U (qA (A7 (AF (Av (Av (AF (Av (AD (v:=(.bool _)) U U U ?_)))))))));have hne:¬x=y:=by simpa using h3
     exact⟨qaa Value.bool (qbb fun h=>by subst h;rw[hx]at hy;injection hy with hy;exact hne hy).symm,H.ext⟩
    .intro h3;refine Aq (A8 (Aa (A0 (Af U (Az U U ?_)))));refine Ae U (qA ?_);have heq:x=y:=by simpa using h3
     refine⟨i+1,rfl,⟨rfl,trivial⟩,⟨by omega,H,fun k x' y' hk hx' hy'=>?_⟩,by omega⟩
     rcases qap k i with h7|h7
     .exact hb k x' y' h7 hx' hy'
     .obtain rfl:k=i:=by omega
      rw[hx]at hx';rw[hy]at hy';cases hx';cases hy';exact heq
   .intro h2;replace h2:=AN h2;refine Bp (Am (Am (AO (Aa (Ad (Ai U (qA (A7 (AD (v:=(.bool _)) U U U ?_)))))))));obtain rfl:i=xs.length:=by omega
    exact⟨qaa Value.bool (qar (M8 hle hb)).symm,H.ext⟩
theorem Yq(ds:List Du):∀v∈ds.flatMap CS,AZ v=true:=fun v hv=>by
 obtain⟨a,_,h⟩:=qed.1 hv;exact CW a v h
theorem P9(ds:List Du):(ds.flatMap CS).length=ds.length*7:=by
 induction ds with
 |nil=>rfl
 |cons a ds ih =>
  rw[qby,qat,ih];show 7+ds.length*7=(ds.length+1)*7;omega
end Go.Proofs.YtffclglpjlcojaaGreat
