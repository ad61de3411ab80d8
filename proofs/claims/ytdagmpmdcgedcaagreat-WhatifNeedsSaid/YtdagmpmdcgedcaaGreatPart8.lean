/- Part 8 of the proof. -/
import Derived.Test.YtdagmpmdcgedcaaGreatPart7
set_option maxRecDepth 20000
set_option maxHeartbeats 8000000
namespace Go.Proofs.YtdagmpmdcgedcaaGreat
open Go.GV Tryz
attribute [local irreducible] AN W Wq Wt
theorem Aj0{g:Nat->Int}{a i j b:Nat}(h:a+1<=i/\i<=j+1/\j<b/\(∀x,a<x->x<i->(g) x<=(g) a)/\∀y,j<y->y<b->(g) a<(g) y)(hij:i<j)(hi:g a<g i)(hj:g j<=g a):a+1<=i+1/\i+1<=(j - 1)+1/\(j - 1)<b/\(∀x,a<x->x<i+1->(sw g i j) x<=(sw g i j) a)/\∀y,(j - 1)<y->y<b->(sw g i j) a<(sw g i j) y:=by
 obtain⟨h1,h2,h3,h4,h5⟩:=h;have ha:sw g i j a=g a:=Fw;rw[ha];refine⟨by omega,by omega,by omega,fun x hx hxi=>?_,fun y hy hyb=>?_⟩
 .by_cases e:x=i
  .rw[e,II];exact hj
  .rw[Fw (h1:=e)];exact h4 x hx (by omega)
 .by_cases e:y=j
  .rw[e,Ez];exact hi
  .rw[Fw (h2:=e)];exact h5 y (by omega) hyb
section
variable {w:World}{q n c m:Nat}{f:Nat->Int}
theorem Aao{a b p:Nat}(hd:w.heap[q]?=some (Bl 28 (CZ f m)))(hn:n<=m)(hm:n<=1000000000)(hp:a<=p/\p<b)(hab:a<b:=by omega)(hb:b<=n:=by omega):
  Ret prog 237 #[.slice (some ⟨q,0,none⟩) n c,.int .i64 (a:Int),.int .i64 (b:Int),.int .i64 (p:Int)] w fun v w'=>∃(i:Nat) (g:Nat->Int),v=.int .i64 (i:Int)/\Sw a b f g/\a<i/\i<=b/\g a=f p/\(∀x,a<=x->x<i->g x<=g a)/\(∀y,i<=y->y<b->g a<g y)/\Ctx w [q] w' [(q,Bl 28 (CZ g m))]:=by
 obtain⟨w0,rfl⟩:=qD w;have H:=Ctx.start1 hd;refine A2 (fn:=f237) func237 U [.slice (some ⟨q,0,none⟩) n c,.int .i64 (a:Int),.int .i64 (b:Int),.int .i64 (p:Int)] U ?_;refine Ad (Af U (qA (C1 [([0,1,2,3,4,5,6,7,8,9,10,11,12],13),([14],15)] (fun z=>z.heap[q]?=some (Bl 28 (CZ (f) m))) [13,15] Bs (H.drew.get at0) ?_)));refine AO U U (B4 U (Bg U (B4 U (Bg U (B4 U (Bg U (AV BA Bx U U ?_)))))));refine B5 BL U (fun _ hx=>(CH hx)) (B4 U (Bg U (AV BA Bx U U ?_)));refine B5 BL U (fun _ hx=>(CH hx)) (AV BA Bx U U ?_);refine Bb ?_;replace H:=H.drew
 refine Cl (a) (fun z => .int .u64 (if z=a then(f) (p)else(f) z)) (.int _ _) Bx U U U H at0 (by omega) (by rw[if_pos rfl];exact qaa (fun z=>Value.int .u64 ((f) z)) (by omega)) (fun z _ hz=>by rw[if_neg hz]) ?_;rintro w H;refine Ab (BH U (AO U U ?_));refine AV BA Bx U U ?_;refine Bb (Cl (p) (fun z => .int .u64 (sw (f) (a) (p) z)) (.int _ _) Bx U U U H at0 (by omega) (by rw[Ez];exact qaa (fun z=>Value.int .u64 ((f) z)) (by omega)) (fun z _ hz=>by rw[Ev hz]) ?_);rintro w H;refine Ab (BH U (BK ?_));have hS0:=(Sw.refl (a:=a) (b:=b) f).step a p ⟨by omega,by omega⟩ hp;obtain⟨g,hg⟩:=qD (sw f a p);have hga:g a=f p:=by rw[hg,II]
 rw[<-hg]at hS0 H;refine Ad (Ae U (Aw U U ?_));rw[show(a:Int)+1=((a+1:Nat):Int)by omega];refine Ae U (B3 U U ?_);rw[show(b:Int) - 1=((b - 1:Nat):Int)by omega];refine Af U (Af U (qA (Ap (Ax (Bn 9671406556917032860780032 (α:=Nat × Nat × (Nat->Int)) (fun t=>[(9,.int .i64 (t.1:Int)),(10,.int .i64 (t.2.1:Int))]) (fun t w'=>(a+1<=t.1/\t.1<=t.2.1+1/\t.2.1<b/\(∀x,a<x->x<t.1->(t.2.2) x<=(t.2.2) a)/\∀y,t.2.1<y->y<b->(t.2.2) a<(t.2.2) y)/\t.2.2 a=f p/\Sw a b f t.2.2/\Ctx w0 [q] w' [(q,Bl 28 (CZ t.2.2 m))]) (fun t=>b - t.1) (a+1,b - 1,g) U ?_ ?_ ?_)))))
 .exact⟨rfl,rfl,trivial⟩
 .exact⟨⟨qan _,by dsimp only;omega,by dsimp only;omega,fun x h1 h2=>by dsimp only at h2;omega,fun y h1 h2=>by dsimp only at h1;omega⟩,hga,hS0,H⟩
 .rintro⟨i,j,g⟩ j0 w ⟨hi0,hga,hS0,H⟩;dsimp only at hi0 hga hS0 H;dsimp only;obtain⟨i0,hi0e⟩:=qD i;obtain⟨j1,hj1e⟩:=qD j;have hi1:i0<=i/\a+1<=i/\i<=j+1/\j<b/\(∀x,a<x->x<i->(g) x<=(g) a)/\∀y,j<y->y<b->(g) a<(g) y:=⟨by omega,hi0⟩;refine Ax (Ap (Ax (Bn 70368207307264 (α:=Nat) (fun i=>[(9,.int .i64 (i:Int))]) (fun i w'=>(i0<=i/\a+1<=i/\i<=j+1/\j<b/\(∀x,a<x->x<i->(g) x<=(g) a)/\∀y,j<y->y<b->(g) a<(g) y)/\Ctx w0 [q] w' [(q,Bl 28 (CZ (g) m))]) (fun i=>j+1 - i) i U ?_ ?_ ?_)))
  .exact⟨by rfl,trivial⟩
  .exact⟨hi1,H⟩
  .rintro i jx w ⟨hiv,H⟩;refine Ap (Eo 17591649173504 (α:=Unit) (fun _=>[(43,.bool (decide (i<=j/\¬g a<g i)))]) (fun _ w'=>Ctx w0 [q] w' [(q,Bl 28 (CZ (g) m))]) U ?_ ?_)
   .skip
    refine FK 12 Bs U U (AY U (AY U (PX U U (Co U (DE 32 U ?_ ?_)))))
    .intro h1;replace h1:=AJ h1;refine B0 U (AY U (Bd BA Bx U U ?_));refine BF BL U (by rintro _ rfl;exact((CH (H.drew.get at0)))) ?_;refine B0 U (AY U (Bd BA Bx U U ?_));refine BF BL U (by rintro _ rfl;exact((CH (H.drew.get at0)))) ?_;refine BM ?_;replace H:=H.drew;refine Am qB (FP _ _ _) U ?_;rintro v w ⟨rfl,rfl⟩;simp only[qa7];refine B1 U (A8 U (.bool _) U (qA ?_));exact⟨(),rfl,⟨qaa Value.bool (by clear hiv;rw[qad];simp_all;try omega),trivial⟩,H⟩
    .intro h2;replace h2:=AK h2;refine A4 U (A4 U (A4 U (A4 U (A4 U (A4 U (A4 U (A4 U (BM ?_))))))));replace H:=H.drew;refine Ag U (Ag U (AA U (.bool _) U (qA ?_)));exact⟨(),rfl,⟨qaa Value.bool (by clear hiv;rw[qad];simp_all;try omega),trivial⟩,H⟩
   .rintro - jy w H;refine Av _ U ?_ ?_
    .intro hc;have hc:=qbd hc;refine Aq (Aa (Ax (Ay (Ae U (Aw U U ?_)))));refine Af U (Ab (A7 (Aa ?_)));exact⟨i+1,rfl,⟨qaa (Value.int .i64) (by omega),trivial⟩,⟨⟨by omega,by omega,by omega,by omega,fun x h1 h2=>(if e:x=i then by rw[e];omega else hiv.2.2.2.2.1 x h1 (by omega)),hiv.2.2.2.2.2⟩,H⟩,by omega⟩
    .intro hc;have hc:=qbk hc;have hci:=hc;have hi2:j<=j1/\a+1<=i/\i<=j+1/\j<b/\(∀x,a<x->x<i->(g) x<=(g) a)/\∀y,j<y->y<b->(g) a<(g) y:=⟨by omega,hiv.2⟩;have hi3:=hiv.1;refine Be (Aj (Aj (AH (Aa (Ap (Ax (Bn 4611615649683211264 (α:=Nat) (fun j=>[(10,.int .i64 (j:Int))]) (fun j w'=>(j<=j1/\a+1<=i/\i<=j+1/\j<b/\(∀x,a<x->x<i->(g) x<=(g) a)/\∀y,j<y->y<b->(g) a<(g) y)/\Ctx w0 [q] w' [(q,Bl 28 (CZ (g) m))]) (fun j=>j) j U ?_ ?_ ?_)))))))
     .exact⟨by rfl,trivial⟩
     .exact⟨hi2,H⟩
     .rintro j jx w ⟨hiv,H⟩;refine Ap (Eo 1152851135862669312 (α:=Unit) (fun _=>[(59,.bool (decide (i<=j/\g a<g j)))]) (fun _ w'=>Ctx w0 [q] w' [(q,Bl 28 (CZ (g) m))]) U ?_ ?_)
      .skip
       refine FK 12 Bs U U (AY U (AY U (PX U U (Co U (DE 49 U ?_ ?_)))))
       .intro h3;replace h3:=AJ h3;refine B0 U (AY U (Bd BA Bx U U ?_));refine BF BL U (by rintro _ rfl;exact((CH (H.drew.get at0)))) ?_;refine B0 U (AY U (Bd BA Bx U U ?_));refine BF BL U (by rintro _ rfl;exact((CH (H.drew.get at0)))) ?_;refine BM ?_;replace H:=H.drew;refine Am qB (FP _ _ _) U ?_;rintro v w ⟨rfl,rfl⟩;simp only[qa7];refine A8 U (.bool _) U (qA ?_);exact⟨(),rfl,⟨qaa Value.bool (by clear hiv;rw[qad];simp_all;try omega),trivial⟩,H⟩
       .intro h4;replace h4:=AK h4;refine A4 U (A4 U (A4 U (A4 U (A4 U (A4 U (A4 U (A4 U (BM ?_))))))));replace H:=H.drew;refine Ag U (AA U (.bool _) U (qA ?_));exact⟨(),rfl,⟨qaa Value.bool (by clear hiv;rw[qad];simp_all;try omega),trivial⟩,H⟩
      .rintro - jy w H;refine Av _ U ?_ ?_
       .intro hc;have hc:=qbd hc;refine Aq (Aa (Ax (Ay (Ae U (B3 U U ?_)))));refine Af U (Ab (A7 (Aa ?_)));exact⟨j - 1,rfl,⟨qaa (Value.int .i64) (by omega),trivial⟩,⟨⟨by omega,by omega,by omega,by omega,hiv.2.2.2.2.1,fun y h1 h2=>(if e:y=j then by rw[e];exact hc.2 else hiv.2.2.2.2.2 y (by omega) h2)⟩,H⟩,by omega⟩
       .intro hc;have hc:=qbk hc;have hci:¬(i<=j/\¬g a<g i):=fun h=>hci ⟨by omega,h.2⟩;replace hiv:=hiv.2;refine Be (Aj (Aj (AH (Aa (Ap (Ad (Ae U (Ae U (Cp U U (qA (Av _ U ?_ ?_)))))))))))
        .intro h5;replace h5:=AJ h5;have hji:j+1=i:=by omega
         refine Be (Aj (FJ U (Aj (AH (Aa (Ad (Ae U (Af U (qA (A6 (AD (v:=(.int _ _)) U U U ?_)))))))))));exact⟨i,g,rfl,hS0,by omega,by omega,hga,fun x h1 h2=>(if e:x=a then by rw[e];exact qav _ else hiv.2.2.2.1 x (by omega) h2),fun y h1 h2=>hiv.2.2.2.2 y (by omega) h2,H⟩
        .intro h5;replace h5:=AK h5
         have hgi:g a<g i:=by rcases qci (g a) (g i)with h7|h7;exact h7;exact absurd ⟨by omega,by omega⟩ hci
         have hgj:g j<=g a:=by rcases qci (g a) (g j)with h7|h7;exact absurd ⟨by omega,h7⟩ hc;exact h7
         have hne:i<j:=by
          rcases qap i j with h|h
          .exact h
          .obtain rfl:i=j:=by omega
           omega
         refine Aq (Aa (C1 [([0,1,2,3,4,5,6,7,8,9,10,11,12],13),([14],15)] (fun z=>z.heap[q]?=some (Bl 28 (CZ (g) m))) [13,15] Bs (H.drew.get at0) ?_));refine AO U U (B4 U (Bg U (B4 U (Bg U (B4 U (Bg U (AV BA Bx U U ?_)))))));refine B5 BL U (fun _ hx=>(CH hx)) (B4 U (Bg U (AV BA Bx U U ?_)));refine B5 BL U (fun _ hx=>(CH hx)) (AV BA Bx U U ?_);refine Bb ?_;replace H:=H.drew;refine Cl (i) (fun z => .int .u64 (if z=i then(g) (j)else(g) z)) (.int _ _) Bx U U U H at0 (by omega) (by rw[if_pos rfl];exact qaa (fun z=>Value.int .u64 ((g) z)) (by omega)) (fun z _ hz=>by rw[if_neg hz]) ?_;rintro w H;refine Ab (BH U (AO U U ?_));refine AV BA Bx U U ?_
         refine Bb (Cl (j) (fun z => .int .u64 (sw (g) (i) (j) z)) (.int _ _) Bx U U U H at0 (by omega) (by rw[Ez];exact qaa (fun z=>Value.int .u64 ((g) z)) (by omega)) (fun z _ hz=>by rw[Ev hz]) ?_);rintro w H;refine Ab (BH U (BK (Ad (Ae U (Aw U U ?_)))));refine Af U (qA (Ay (Ae U (B3 U U ?_))));refine Af U (Ab (A7 (Aa ?_)));exact⟨(i+1,j - 1,sw g i j),rfl,⟨rfl,qaa (Value.int .i64) (by dsimp only;omega),trivial⟩,⟨Aj0 hiv hne hgi hgj,(Fw).trans hga,hS0.step i j ⟨by omega,by omega⟩ ⟨by omega,by omega⟩,H⟩,by dsimp only;omega⟩
theorem X5{a b:Nat}(hd:w.heap[q]?=some (Bl 28 (CZ f m)))(hn:n<=m)(hm:n<=1000000000)(hLB:0<a->∀x,a<=x->x<b->f (a - 1)<=f x)(hab:a<b:=by omega)(hb:b<=n:=by omega):
  Ret prog 235 #[.slice (some ⟨q,0,none⟩) n c,.int .i64 (a:Int),.int .i64 (b:Int)] w fun v w'=>∃(t:Bool) (g:Nat->Int),v=.bool t/\Sw a b f g/\(t=true->KH g a b)/\Ctx w [q] w' [(q,Bl 28 (CZ g m))]:=by
 obtain⟨w0,rfl⟩:=qD w;have H:=Ctx.start1 hd;refine A2 (fn:=f235) func235 U [.slice (some ⟨q,0,none⟩) n c,.int .i64 (a:Int),.int .i64 (b:Int)] U ?_;refine Ad (Ai U (qA (Ad (Ae U (Aw U U ?_)))));rw[show(a:Int)+1=((a+1:Nat):Int)by omega];refine Af U (qA (Ap (Ad (Af U (qA (Ax (Bn 10889035741470030830827987437816582760384 (α:=Nat × Nat × (Nat->Int)) (fun t=>[(8,.int .i64 (t.1:Int)),(7,.int .i64 (t.2.1:Int))]) (fun t w'=>t.1<=5/\(a+1<=t.2.1/\t.2.1<=b/\KH t.2.2 a t.2.1)/\Sw a b f t.2.2/\Ctx w0 [q] w' [(q,Bl 28 (CZ t.2.2 m))]) (fun t=>5 - t.1) (0,a+1,f) U ?_ ?_ ?_)))))))
 .exact⟨rfl,rfl,trivial⟩
 .exact⟨by dsimp only;omega,⟨qan _,by dsimp only;omega,fun x y h1 h2 h3=>by dsimp only at h3;omega⟩,.refl _,H⟩
 .rintro⟨st,i,g⟩ j0 w ⟨hst,hi0,hS0,H⟩;dsimp only at hst hi0 hS0 H;dsimp only;refine Ap (Ad (Ae U (AZ U U (qA (Av _ U ?_ ?_)))))
  .intro h1;replace h1:=AJ h1
   have hLBg:0<a->∀g',Sw a b f g'->∀x,a<=x->x<b->g' (a - 1)<=g' x:=fun h0 g' h x hx hxb=>by
    obtain⟨z,hz1,hz2,hz3⟩:=h.mem x hx hxb;rw[h.out (a - 1) (.inl (by omega)),hz3];exact hLB h0 z hz1 hz2
   refine Aq (Aa (Ap (Ax (Ap (Ax (Bn 34359607424 (α:=Nat) (fun i=>[(7,.int .i64 (i:Int))]) (fun i w'=>(a+1<=i/\i<=b/\KH g a i)/\Ctx w0 [q] w' [(q,Bl 28 (CZ (g) m))]) (fun i=>b - i) i U ?_ ?_ ?_))))))
   .exact⟨by rfl,trivial⟩
   .exact⟨hi0,H⟩
   .rintro i jx w ⟨hiv,H⟩;refine Ap (Eo 8589803520 (α:=Unit) (fun _=>[(32,.bool (decide (i<b/\¬g i<g (i - 1))))]) (fun _ w'=>Ctx w0 [q] w' [(q,Bl 28 (CZ (g) m))]) U ?_ ?_)
    .skip
     refine FK 13 Bs U U (AY U (AY U (K8 U U (Co U (DE 20 U ?_ ?_)))))
     .intro h1;replace h1:=AJ h1;refine B0 U (AY U (Bd BA Bx U U ?_));refine BF BL U (by rintro _ rfl;exact((CH (H.drew.get at0)))) ?_;refine B0 U (AY U (Dp U U ?_));refine Bd BA Bx U U ?_;refine BF BL U (by rintro _ rfl;exact((CH (H.drew.get at0)))) ?_;refine BM ?_;replace H:=H.drew;refine Am qB (FP _ _ _) U ?_;rintro v w ⟨rfl,rfl⟩;rw[show((i:Int) - 1).toNat=i - 1 by omega,qa7];refine B1 U (A8 U (.bool _) U (qA ?_));exact⟨(),rfl,⟨qaa Value.bool (by clear hiv;rw[qad];simp_all;try omega),trivial⟩,H⟩
     .intro h2;replace h2:=AK h2;refine A4 U (A4 U (A4 U (A4 U (A4 U (A4 U (A4 U (A4 U (A4 U (BM ?_)))))))));replace H:=H.drew;refine Ag U (Ag U (AA U (.bool _) U (qA ?_)));exact⟨(),rfl,⟨qaa Value.bool (by clear hiv;rw[qad];simp_all;try omega),trivial⟩,H⟩
    .rintro - jy w H;refine Av _ U ?_ ?_
     .intro hc;have hc:=qbd hc;refine Aq (Aa (Ax (Ay (Ae U (Aw U U ?_)))));refine Af U (Ab (A7 (Aa ?_)));exact⟨i+1,rfl,⟨qaa (Value.int .i64) (by omega),trivial⟩,⟨⟨by omega,by omega,fun x y hx hxy hy=>(if e:y=i then(by rw[e];exact(if e2:x=i - 1 then by rw[e2];omega else qbj (hiv.2.2 x (i - 1) hx (by omega) (by omega)) (by omega)))else hiv.2.2 x y hx hxy (by omega))⟩,H⟩,by omega⟩
     .intro hc;have hc:=qbk hc;refine Be (Aj (Aj (AH (Aa (Ap (Ad (Ae U (Ae U (Cj U U (qA (Av _ U ?_ ?_)))))))))))
      .intro h2;replace h2:=AJ h2;refine Ad (Ai U (qA (A6 (Al (A5 (Al (Al (A5 (Al (AD (v:=(.bool _)) U U U ?_))))))))));obtain rfl:i=b:=by omega
       exact⟨true,g,rfl,hS0,fun _=>hiv.2.2,H⟩
      .intro h2;replace h2:=AK h2;have hib:i<b:=by omega
       have hlt:g i<g (i - 1):=by rcases qci (g i) (g (i - 1))with h7|h7;exact h7;exact absurd ⟨hib,by omega⟩ hc
       refine Aq (Aa (Ap (Ad (Ae U (Ae U (B3 U U ?_))))));refine AZ U U (qA (Av _ U ?_ ?_))
       .intro h3;replace h3:=AJ h3;refine Ad (Ai U (qA (A6 (Al (A5 (Al (Al (A5 (Al (AD (v:=(.bool _)) U U U ?_))))))))));exact⟨false,g,rfl,hS0,(fun h=>by cases h),H⟩
       .intro h3;replace h3:=AK h3;refine Aq (Aa (C1 [([0,1,2,3,4,5,6,7,8,9,10,11,12,13,14],15),([16],17)] (fun z=>z.heap[q]?=some (Bl 28 (CZ (g) m))) [15,17] Bs (H.drew.get at0) ?_));refine AO U U (B4 U (Bg U (B4 U (Bg U (EO U U ?_)))));refine B4 U (Bg U (EO U U ?_));refine AV BA Bx U U (B5 BL U (fun _ hx=>(CH hx)) ?_);refine B4 U (Bg U (AV BA Bx U U ?_));refine B5 BL U (fun _ hx=>(CH hx)) (AV BA Bx U U ?_);refine Bb ?_;replace H:=H.drew;refine Cl (i) (fun z => .int .u64 (if z=i then(g) (i - 1)else(g) z)) (.int _ _) Bx U U U H at0 (by omega) (by rw[if_pos rfl];exact qaa (fun z=>Value.int .u64 ((g) z)) (by omega)) (fun z _ hz=>by rw[if_neg hz]) ?_;rintro w H
        refine Ab (BH U (AO U U ?_));refine AV BA Bx U U ?_;refine Bb (Cl (i - 1) (fun z => .int .u64 (sw (g) (i) (i - 1) z)) (.int _ _) Bx U U U H at0 (by omega) (by rw[Ez];exact qaa (fun z=>Value.int .u64 ((g) z)) (by omega)) (fun z _ hz=>by rw[Ev hz]) ?_);rintro w H;refine Ab (BH U (BK (Ap ?_)));have hS1:=hS0.step i (i - 1) ⟨by omega,by omega⟩ ⟨by omega,by omega⟩;have hI1:InsU (sw g i (i - 1)) a (i - 1) (i - 1):=fun x y hx hxy hy hne=>by rw[Fw,Fw];exact hiv.2.2 x y hx hxy (by omega)
        obtain⟨g1,hg1⟩:=qD (sw g i (i - 1));rw[<-hg1]at hS1 hI1 H;refine Ad (Ae U (Ae U (B3 U U ?_)));refine Cq U U (qA (FO 39614081252520482778344587776 (α:=Nat->Int) (fun _=>[]) (fun g w'=>KH g a i/\Sw a b f g/\Ctx w0 [q] w' [(q,Bl 28 (CZ g m))]) U ?_ ?_))
        .skip
         refine Av _ U ?_ ?_
         .intro h4;replace h4:=AJ h4;refine Ad (Ae U (B3 U U ?_));rw[show(i:Int) - 1=((i - 1:Nat):Int)by omega];refine Af U (qA (Ax (Bn 39614081238685424723062424064 (α:=Nat × (Nat->Int)) (fun t=>[(9,.int .i64 (t.1:Int))]) (fun t w'=>(a<=t.1/\t.1<=i - 1/\InsU t.2 a t.1 (i - 1))/\Sw a b f t.2/\Ctx w0 [q] w' [(q,Bl 28 (CZ t.2 m))]) (fun t=>t.1) (i - 1,g1) U ?_ ?_ ?_)))
          .exact⟨rfl,trivial⟩
          .exact⟨⟨by dsimp only;omega,qan _,hI1⟩,hS1,H⟩
          .rintro⟨j,g⟩ j3 w ⟨hj,hS,H⟩;dsimp only at hj hS H;dsimp only;have hex:(a<j->g (j - 1)<=g j)->KH g a i:=fun h7=>by have h8:=hj.2.2.done hj.1 h7;rw[show i - 1+1=i by omega]at h8;exact h8
           refine Ap (Ad (Ae U (Cq U U (qA (Av _ U ?_ ?_)))))
           .intro h5;replace h5:=AJ h5;refine Aq (Aa (Ap (Ax (Ap (EB 9 Bs U U ?_)))));refine B0 U (AY U (Bd BA Bx U U ?_));refine BF BL U (by rintro _ rfl;exact((CH (H.drew.get at0)))) ?_;refine B0 U (AY U (Dp U U ?_));refine Bd BA Bx U U ?_;refine BF BL U (by rintro _ rfl;exact((CH (H.drew.get at0)))) ?_;refine BM ?_;replace H:=H.drew;refine Am qB (FP _ _ _) U ?_;rintro v w ⟨rfl,rfl⟩;rw[show((j:Int) - 1).toNat=j - 1 by omega,qa7];refine B1 U (qA (Av _ U ?_ ?_))
            .intro h6;replace h6:=Bv h6;have h6:¬g j<g (j - 1):=by simpa using h6
             refine Be (Aj (FJ U (Aj (Aj (AH (Aa ?_))))));exact⟨g,rfl,trivial,hex fun _=>by omega,hS,H⟩
            .intro h6;replace h6:=Bw h6;have h6:g j<g (j - 1):=by simpa using h6
             have haj:a<j:=by
              rcases qap a j with h|h
              .exact h
              .obtain rfl:a=j:=by omega
               have:=hLBg (by omega) g hS a (qan _) hab;omega
             refine Aq (Aa (ET [([0,1,2,3,4,5,6,7,8,9,10,11,12,13,14],15),([16],17)] (fun z=>z.heap[q]?=some (Bl 28 (CZ (g) m))) [15,17] Bs (H.drew.get at0) ?_));refine AO U U (B4 U (Bg U (B4 U (Bg U (EO U U ?_)))));refine B4 U (Bg U (EO U U ?_));refine AV BA Bx U U (B5 BL U (fun _ hx=>(CH hx)) ?_);refine B4 U (Bg U (AV BA Bx U U ?_));refine B5 BL U (fun _ hx=>(CH hx)) (AV BA Bx U U ?_);refine Bb ?_;replace H:=H.drew;refine Cl (j) (fun z => .int .u64 (if z=j then(g) (j - 1)else(g) z)) (.int _ _) Bx U U U H at0 (by omega) (by rw[if_pos rfl];exact qaa (fun z=>Value.int .u64 ((g) z)) (by omega)) (fun z _ hz=>by rw[if_neg hz]) ?_;rintro w H
             refine Ab (BH U (AO U U ?_));refine AV BA Bx U U ?_;refine Bb (Cl (j - 1) (fun z => .int .u64 (sw (g) (j) (j - 1) z)) (.int _ _) Bx U U U H at0 (by omega) (by rw[Ez];exact qaa (fun z=>Value.int .u64 ((g) z)) (by omega)) (fun z _ hz=>by rw[Ev hz]) ?_);rintro w H;refine Ab (BH U (BK (A7 (Aa (Ay (Ae U (B3 U U ?_)))))));refine Af U (qA ?_);exact⟨(j - 1,sw g j (j - 1)),rfl,⟨qaa (Value.int .i64) (by dsimp only;omega),trivial⟩,⟨⟨by dsimp only;omega,by dsimp only;omega,hj.2.2.step haj hj.2.1 h6⟩,hS.step j (j - 1) ⟨by omega,by omega⟩ ⟨by omega,by omega⟩,H⟩,by dsimp only;omega⟩
           .intro h5;replace h5:=AK h5;refine Be (Aj (Aj (AH (Aa ?_))));exact⟨g,rfl,trivial,hex fun _=>by omega,hS,H⟩
         .intro h4;replace h4:=AK h4;refine Aq (Aa ?_);exact⟨g1,rfl,trivial,fun x y hx hxy hy=>by omega,hS1,H⟩
        .rintro g2 j4 w ⟨hO2,hS2,H⟩;refine Ad (Ae U (Ae U (B3 U U ?_)));refine Cq U U (qA (Av _ U ?_ ?_))
         .intro h4;replace h4:=AJ h4;refine Ad (Ae U (Aw U U ?_));rw[show(i:Int)+1=((i+1:Nat):Int)by omega];refine Af U (qA (Ax (Bn 10889035738934729630371528634823176356864 (α:=Nat × (Nat->Int)) (fun t=>[(10,.int .i64 (t.1:Int))]) (fun t w'=>(i+1<=t.1/\t.1<=b/\KH t.2 a i)/\Sw a b f t.2/\Ctx w0 [q] w' [(q,Bl 28 (CZ t.2 m))]) (fun t=>b - t.1) (i+1,g2) U ?_ ?_ ?_)))
          .exact⟨rfl,trivial⟩
          .exact⟨⟨qan _,by dsimp only;omega,hO2⟩,hS2,H⟩
          .rintro⟨j,g⟩ j5 w ⟨hj,hS,H⟩;dsimp only at hj hS H;dsimp only;refine Ap (Ad (Ae U (Ae U (AZ U U (qA (Av _ U ?_ ?_))))))
           .intro h5;replace h5:=AJ h5;refine Aq (Aa (Ap (Ax (Ap (EB 9 Bs U U ?_)))));refine B0 U (AY U (Bd BA Bx U U ?_));refine BF BL U (by rintro _ rfl;exact((CH (H.drew.get at0)))) ?_;refine B0 U (AY U (Dp U U ?_));refine Bd BA Bx U U ?_;refine BF BL U (by rintro _ rfl;exact((CH (H.drew.get at0)))) ?_;refine BM ?_;replace H:=H.drew;refine Am qB (FP _ _ _) U ?_;rintro v w ⟨rfl,rfl⟩;rw[show((j:Int) - 1).toNat=j - 1 by omega,qa7];refine B1 U (qA (Av _ U ?_ ?_))
            .intro h6;replace h6:=Bv h6;refine Be (Aj (FJ U (Aj (Aj (AH (A7 (Aa (Ay (Ae U (Aw U U ?_))))))))));refine Af U (qA ?_);exact⟨(st+1,i,g),rfl,⟨rfl,rfl,trivial⟩,⟨by dsimp only;omega,⟨by dsimp only;omega,by dsimp only;omega,hj.2.2⟩,hS,H⟩,by dsimp only;omega⟩
            .intro h6;replace h6:=Bw h6;refine Aq (Aa (ET [([0,1,2,3,4,5,6,7,8,9,10,11,12,13,14],15),([16],17)] (fun z=>z.heap[q]?=some (Bl 28 (CZ (g) m))) [15,17] Bs (H.drew.get at0) ?_));refine AO U U (B4 U (Bg U (B4 U (Bg U (EO U U ?_)))));refine B4 U (Bg U (EO U U ?_));refine AV BA Bx U U (B5 BL U (fun _ hx=>(CH hx)) ?_);refine B4 U (Bg U (AV BA Bx U U ?_));refine B5 BL U (fun _ hx=>(CH hx)) (AV BA Bx U U ?_);refine Bb ?_;replace H:=H.drew;refine Cl (j) (fun z => .int .u64 (if z=j then(g) (j - 1)else(g) z)) (.int _ _) Bx U U U H at0 (by omega) (by rw[if_pos rfl];exact qaa (fun z=>Value.int .u64 ((g) z)) (by omega)) (fun z _ hz=>by rw[if_neg hz]) ?_;rintro w H
             refine Ab (BH U (AO U U ?_));refine AV BA Bx U U ?_;refine Bb (Cl (j - 1) (fun z => .int .u64 (sw (g) (j) (j - 1) z)) (.int _ _) Bx U U U H at0 (by omega) (by rw[Ez];exact qaa (fun z=>Value.int .u64 ((g) z)) (by omega)) (fun z _ hz=>by rw[Ev hz]) ?_);rintro w H;refine Ab (BH U (BK (A7 (Aa (Ay (Ae U (Aw U U ?_)))))));refine Af U (qA ?_);exact⟨(j+1,sw g j (j - 1)),rfl,⟨rfl,trivial⟩,⟨⟨by dsimp only;omega,by dsimp only;omega,fun x y hx hxy hy=>by dsimp only;rw[Fw,Fw];exact hj.2.2 x y hx hxy hy⟩,hS.step j (j - 1) ⟨by omega,by omega⟩ ⟨by omega,by omega⟩,H⟩,by dsimp only;omega⟩
           .intro h5;replace h5:=AK h5;refine Be (Aj (Aj (AH (A7 (Aa (Ay (Ae U (Aw U U ?_))))))));refine Af U (qA ?_);exact⟨(st+1,i,g),rfl,⟨rfl,rfl,trivial⟩,⟨by dsimp only;omega,⟨by dsimp only;omega,by dsimp only;omega,hj.2.2⟩,hS,H⟩,by dsimp only;omega⟩
         .intro h4;replace h4:=AK h4;refine Aq (A7 (Aa (Ay (Ae U (Aw U U ?_)))));refine Af U (qA ?_);exact⟨(st+1,i,g2),rfl,⟨rfl,rfl,trivial⟩,⟨by dsimp only;omega,⟨by dsimp only;omega,by dsimp only;omega,hO2⟩,hS2,H⟩,by dsimp only;omega⟩
  .intro h1;replace h1:=AK h1;refine Be (Aj (Aj (AH (Aa (Ad (Ai U (qA (A6 (AD (v:=(.bool _)) U U U ?_)))))))));exact⟨false,g,rfl,hS0,(fun h=>by cases h),H⟩
end
theorem X6(x:Nat)(w:World)(hx:x<=4503599627370496:=by omega):Ret prog 205 #[.int .u64 (x:Int)] w fun v w'=>∃r:Nat,v=.int .i64 (r:Int)/\x<2 ^ r/\r<=64/\(0<x->2 ^ r<=2*x)/\w=w':=by
 refine A2 (fn:=f205) func205 U [.int .u64 (x:Int)] U (Ad (Af U (qA (Ap (Av _ U ?_ ?_)))))
 .intro h;cases h
 .intro h;refine Aq (Aa (Ad (Ae U (Am qB (V6 x hx w) U ?_))));rintro v w ⟨r,rfl,h1,h2,h3,rfl⟩;refine Af U (qA (A6 (AD (v:=(.int _ _)) U U U ?_)));exact⟨r,rfl,h1,h2,h3,rfl⟩
theorem Aj1(l:Nat)(w:World)(h0:0<l:=by omega)(hl:l<=1000000000:=by omega):Ret prog 257 #[.int .i64 (l:Int)] w fun v w'=>∃r:Nat,v=.int .u64 (r:Int)/\0<r/\r<=2*l/\w=w':=by
 refine A2 (fn:=f257) func257 U [.int .i64 (l:Int)] U (Ad (Af U (qA (Ad (Ae U (E0 U NY Uo ?_))))));refine Am qB (X6 l w) U ?_;rintro v w ⟨r,rfl,h1,h2,h3,rfl⟩;refine WO (a:=1) (n:=r) U U U h2 (Af U (qA (A6 (AD (v:=(.int _ _)) U U U ?_))));have h4:=h3 h0;have h5:=Nat.two_pow_pos r;exact⟨2 ^ r,qaa (Value.int .u64) (by rw[Nat.one_mul,qcg (by omega)]),h5,h4,rfl⟩
theorem Afg{x y:Nat}(hx:x<18446744073709551616)(hy:y<18446744073709551616):x ^^^ y<18446744073709551616:=Nat.xor_lt_two_pow (n:=64) hx hy
section
variable {w:World}{q n c m s:Nat}{f:Nat->Int}
theorem Aj2{z:Nat}(hs:w.heap[s]?=some (Bl 286 [.int .u64 (z:Int)]))(hz:z<18446744073709551616) :
  Ret prog 258 #[ptr s] w fun v w'=>∃z':Nat,v=.int .u64 (z':Int)/\z'<18446744073709551616/\Ctx w [s] w' [(s,Bl 286 [.int .u64 (z':Int)])]:=by
 obtain⟨w0,rfl⟩:=qD w;have H:=Ctx.start1 hs;refine A2 (fn:=f258) func258 U [.pointer (some ⟨s,0,none⟩)] U ?_;have b1:=qdf (z*2 ^ 13) (show 0<18446744073709551616 by decide);obtain⟨y1,hy1⟩:=qD (z*2 ^ 13 % 18446744073709551616);rw[<-hy1]at b1;refine Ad (Af U (qA (EB 9 Bs U U ?_)));refine BO U (Bh U (BS Mz U (by rintro _ rfl;exact H.drew) at0 U ?_));refine BO U (Bh U (BS Mz U (by rintro _ rfl;exact H.drew) at0 U ?_));refine SK (a:=z) (n:=13) U U U ?_;rw[<-hy1];refine NJ (a:=z) (b:=y1) U U U hz b1 (Bh U (BM ?_));replace H:=H.drew;refine Cz (.int _ _) Un U U U H at0 (by(simp;done)) ?_;rintro w H;refine qA ?_;obtain⟨z1,hz1⟩:=qD (z ^^^ y1);have c1:=Afg hz b1;rw[<-hz1]at c1;replace H:Ctx w0 [s] w [(s,Bl 286 [.int .u64 (z1:Int)])]:=by rw[hz1];exact H
 have b2:z1 / 2 ^ 7<18446744073709551616:=Nat.lt_of_le_of_lt (Nat.div_le_self _ _) c1;obtain⟨y2,hy2⟩:=qD (z1 / 2 ^ 7);rw[<-hy2]at b2;refine EB 9 Bs U U (BO U (Bh U (BS Mz U (by rintro _ rfl;exact H.drew) at0 U ?_)));refine BO U (Bh U (BS Mz U (by rintro _ rfl;exact H.drew) at0 U ?_));refine ZF (a:=z1) (n:=7) U U U ?_;rw[<-hy2];refine NJ (a:=z1) (b:=y2) U U U c1 b2 (Bh U (BM ?_));replace H:=H.drew;refine Cz (.int _ _) Un U U U H at0 (by(simp;done)) ?_;rintro w H;refine qA ?_;obtain⟨z2,hz2⟩:=qD (z1 ^^^ y2);have c2:=Afg c1 b2;rw[<-hz2]at c2;replace H:Ctx w0 [s] w [(s,Bl 286 [.int .u64 (z2:Int)])]:=by rw[hz2];exact H
 have b3:=qdf (z2*2 ^ 17) (show 0<18446744073709551616 by decide);obtain⟨y3,hy3⟩:=qD (z2*2 ^ 17 % 18446744073709551616);rw[<-hy3]at b3;refine EB 9 Bs U U (BO U (Bh U (BS Mz U (by rintro _ rfl;exact H.drew) at0 U ?_)));refine BO U (Bh U (BS Mz U (by rintro _ rfl;exact H.drew) at0 U ?_));refine SK (a:=z2) (n:=17) U U U ?_;rw[<-hy3];refine NJ (a:=z2) (b:=y3) U U U c2 b3 (Bh U (BM ?_));replace H:=H.drew;refine Cz (.int _ _) Un U U U H at0 (by(simp;done)) ?_;rintro w H;refine qA (Ad (A9 U (AP U (AG Mz U H at0 U (Af U (qA (A6 (AD (v:=(.int _ _)) U U U ?_))))))));exact⟨z2 ^^^ y3,rfl,Afg c2 b3,H⟩
theorem Afh{a b:Nat}(hd:w.heap[q]?=some (Bl 28 (CZ f m)))(hn:n<=m)(hm:n<=1000000000)(hab:a<b:=by omega)(hb:b<=n:=by omega):
  Ret prog 232 #[.slice (some ⟨q,0,none⟩) n c,.int .i64 (a:Int),.int .i64 (b:Int)] w fun v w'=>v=.tuple #[]/\∃g,Sw a b f g/\Ctx w [q] w' [(q,Bl 28 (CZ g m))]:=by
 obtain⟨w0,rfl⟩:=qD w;have H:=Ctx.start1 hd;obtain⟨l,rfl⟩:∃l,b=a+l:=⟨b - a,by omega⟩;have hl:((a+l:Nat):Int) - (a:Int)=(l:Int):=by omega
 refine A2 (fn:=f232) func232 U [.slice (some ⟨q,0,none⟩) n c,.int .i64 (a:Int),.int .i64 ((a+l:Nat):Int)] U ?_;refine Ad (Ae U (Ae U (B3 U U ?_)));rw[hl];refine Af U (qA (Ad (Ae U (Cq U U (qA (Av _ U ?_ ?_))))))
 .intro h1;replace h1:=AJ h1;refine Ad (Ae U (E0 U NY Apw ?_));refine AX Ap0 H ?_;rintro b7 w - H;refine Cz (.int _ _) Un U U U H at0 (by decide) ?_;rintro w H;refine qA (Ad (Ae U (Am qB (Aj1 l _) U ?_)));rintro v w ⟨M,rfl,hM0,hM,rfl⟩;refine Af U (qA (Ad (Ae U (Ae U (Jr U U (show _<=(9223372036854775807:Int)by omega) ?_)))));refine D8 U U (Aw U U ?_);refine B3 U U ?_;rw[show(a:Int)+(l:Int) / 4*2 - 1=((a+l / 4*2 - 1:Nat):Int)by omega]
  refine Af U (qA (Ax (Bn 36893488147351995904 (α:=Nat × (Nat->Int) × Nat) (fun t=>[(9,.int .i64 (t.1:Int))]) (fun t w'=>a<=t.1/\t.1<=a+l / 4*2+2/\t.2.2<18446744073709551616/\Sw a (a+l) f t.2.1/\Ctx w0 [q] w' [(b7,Bl 286 [.int .u64 (t.2.2:Int)]),(q,Bl 28 (CZ t.2.1 m))]) (fun t=>a+l / 4*2+2 - t.1) (a+l / 4*2 - 1,f,l) U ?_ ?_ ?_)))
  .exact⟨rfl,trivial⟩
  .exact⟨by dsimp only;omega,by dsimp only;omega,by dsimp only;omega,.refl _,H⟩
  .rintro⟨i,g,z⟩ j0 w ⟨hi1,hi2,hz,hS,H⟩;dsimp only at hi1 hi2 hz hS H;dsimp only;refine Ap (Ad (Ae U (Ae U (Ae U (Jr U U (show _<=(9223372036854775807:Int)by omega) ?_)))));refine D8 U U (Aw U U ?_);refine Aw U U ?_;refine Ib U U (qA (Av _ U ?_ ?_))
   .intro h2;replace h2:=AJ h2;refine Aq (Aa (Ap (Ax (Ad (Am qB (Aj2 (H.get at0) hz) U ?_)))));rintro v w ⟨z2,rfl,hz2,H2⟩;replace H:=Ctx.back (L1:=[_]) (L2:=[_]) H H2;refine Ae U (Mv U U U ?_);rw[show(M:Int) - 1=((M - 1:Nat):Int)by omega];refine Kc (a:=z2) (b:=M - 1) U U U (ha:=hz2) ?_;have hand:z2 &&& (M - 1)<=M - 1:=Nat.and_le_right;refine H6 U U Uo NY (Af U (qA (Ap (Ad (Ae U (Ae U (Cq U U (qA ?_))))))));obtain⟨r,hr⟩:=qD (z2 &&& (M - 1));have hr2:r<=M - 1:=by rw[hr];exact Nat.and_le_right
    rw[<-hr];refine FO 123145302311936 (α:=Nat) (fun r=>[(10,.int .i64 (r:Int))]) (fun r w'=>r<l/\Ctx w0 [q] w' [(b7,Bl 286 [.int .u64 (z2:Int)]),(q,Bl 28 (CZ g m))]) U ?_ ?_
    .skip
     refine Av _ U ?_ ?_
     .intro h3;replace h3:=AJ h3;refine Ay (Ae U (Ae U (B3 U U ?_)));refine Af U (qA ?_);exact⟨r - l,rfl,⟨qaa (Value.int .i64) (by omega),trivial⟩,by omega,H⟩
     .intro h3;replace h3:=AK h3;refine Aq (Aa ?_);exact⟨r,rfl,⟨rfl,trivial⟩,by omega,H⟩
    .rintro r2 j1 w ⟨hr3,H⟩;refine ET [([0,1,2,3,4,5,6,7,8,9,10,11,12,13,14,15,16],17),([18],19)] (fun z=>z.heap[q]?=some (Bl 28 (CZ (g) m))) [17,19] Bs (H.drew.get at1) (AO U U ?_);refine B4 U (Bg U (B4 U (Bg U (Bg U (E6 U U ?_)))));refine B4 U (Bg U (Bg U (E6 U U ?_)));refine AV BA Bx U U (B5 BL U (fun _ hx=>(CH hx)) ?_);refine B4 U (Bg U (AV BA Bx U U ?_));refine B5 BL U (fun _ hx=>(CH hx)) (AV BA Bx U U ?_);refine Bb ?_;replace H:=H.drew;refine Cl (i) (fun z => .int .u64 (if z=i then(g) (a+r2)else(g) z)) (.int _ _) Bx U U U H at1 (by omega) (by rw[if_pos rfl];exact qaa (fun z=>Value.int .u64 ((g) z)) (by omega)) (fun z _ hz=>by rw[if_neg hz]) ?_;rintro w H
     refine Ab (BH U (AO U U ?_));refine AV BA Bx U U ?_;refine Bb (Cl (a+r2) (fun z => .int .u64 (sw (g) (i) (a+r2) z)) (.int _ _) Bx U U U H at1 (by omega) (by rw[Ez];exact qaa (fun z=>Value.int .u64 ((g) z)) (by omega)) (fun z _ hz=>by rw[Ev hz]) ?_);rintro w H;refine Ab (BH U (BK (A7 (Aa (Ay (Ae U (Aw U U ?_)))))));refine Af U (qA ?_);exact⟨(i+1,sw g i (a+r2),z2),rfl,⟨rfl,trivial⟩,⟨by dsimp only;omega,by dsimp only;omega,hz2,hS.step i (a+r2) ⟨by omega,by omega⟩ ⟨by omega,by omega⟩,H⟩,by dsimp only;omega⟩
   .intro h2;replace h2:=AK h2;refine Be (Aj (Aj (AH (Dd U U ?_))));exact⟨rfl,g,hS,H.tail⟩
 .intro h1;replace h1:=AK h1;refine Aq (Dd U U ?_);exact⟨rfl,f,.refl _,H⟩
end
structure PQ(f g:Nat->Int)(a b a' b':Nat):Prop where
 ha:a<=a'
 hab:a'<=b'
 hb:b'<=b
 sw:Sw a b f g
 out:∀x y,a<=x->x<y->y<b->¬(a'<=x/\y<b')->g x<=g y
 lb:0<a'->∀x,a'<=x->x<b'->g (a' - 1)<=g x
section
variable {f g g':Nat->Int}{a b a' b':Nat}
theorem PQ.swap(h:PQ f g a b a' b')(s:Sw a' b' g g'):PQ f g' a b a' b':=by
 refine⟨h.ha,h.hab,h.hb,h.sw.trans (s.mono h.ha h.hb),fun x y hx hxy hy hn=>?_,fun h0 x hx hxb=>?_⟩
 .by_cases ix:a'<=x/\x<b'
  .obtain⟨x2,h1,h2,h3⟩:=s.mem x ix.1 ix.2;rw[h3,s.out y (.inr (by omega))];exact h.out x2 y (qbe h.ha h1) (by omega) hy (by omega)
  .rw[s.out x (by omega)]
   by_cases iy:a'<=y/\y<b'
   .obtain⟨y2,h1,h2,h3⟩:=s.mem y iy.1 iy.2;rw[h3];exact h.out x y2 hx (by omega) (qa3 h2 h.hb) (by omega)
   .rw[s.out y (by omega)];exact h.out x y hx hxy hy hn
 .obtain⟨x2,h1,h2,h3⟩:=s.mem x hx hxb;rw[h3,s.out (a' - 1) (.inl (by omega))];exact h.lb h0 x2 h1 h2
theorem PQ.done(h:PQ f g a b a' b')(s:KH g a' b'):KH g a b:=fun x y hx hxy hy=>by
 by_cases hn:a'<=x/\y<b'
 .exact s x y hn.1 hxy hn.2
 .exact h.out x y hx hxy hy hn
theorem PQ.eq{i:Nat}(h:PQ f g a b a' b')(h0:0<a')(hle:g a'<=g (a' - 1))(hi:a'<i)(hi2:i<=b')(h1:∀x,a'<=x->x<i->g x<=g a')(h2:∀y,i<=y->y<b'->g a'<g y):PQ f g a b i b':=by
 refine⟨by have:=h.ha;omega,hi2,h.hb,h.sw,fun x y hx hxy hy hn=>?_,fun _ x hx hxb=>?_⟩
 .by_cases hin:a'<=x/\y<b'
  .have hxi:x<i:=by omega
   have hx1:=h1 x hin.1 hxi
   rcases qap y i with h3|h3
   .have:=h.lb h0 y (by omega) hin.2;omega
   .have:=h2 y h3 hin.2;omega
  .exact h.out x y hx hxy hy hin
 .have e1:=h1 (i - 1) (by omega) (by omega);have e2:=h2 x hx hxb;omega
theorem PartU.sw{mid lo hi:Nat}(p:PartU g a' mid b')(s:Sw lo hi g g')(h:(a'<=lo/\hi<=mid)\/(mid<lo/\hi<=b')):PartU g' a' mid b':=by
 have hm:g' mid=g mid:=s.out mid (by omega);refine⟨fun x hx hxm=>?_,fun y hy hyb=>?_⟩
 .rw[hm]
  by_cases ix:lo<=x/\x<hi
  .obtain⟨x2,h1,h2,h3⟩:=s.mem x ix.1 ix.2;rw[h3];exact p.le x2 (by omega) (by omega)
  .rw[s.out x (by omega)];exact p.le x hx hxm
 .rw[hm]
  by_cases iy:lo<=y/\y<hi
  .obtain⟨y2,h1,h2,h3⟩:=s.mem y iy.1 iy.2;rw[h3];exact p.ge y2 (by omega) (by omega)
  .rw[s.out y (by omega)];exact p.ge y hy hyb
theorem PQ.right{mid:Nat}(h:PQ f g a b a' b')(hm1:a'<=mid)(hm2:mid<b')(p:PartU g a' mid b')(s:KH g a' mid):PQ f g a b (mid+1) b':=by
 refine⟨by have:=h.ha;omega,by omega,h.hb,h.sw,fun x y hx hxy hy hn=>?_,fun _ x hx hxb=>p.ge x (by omega) hxb⟩
 by_cases hin:a'<=x/\y<b'
 .rcases qap y mid with h1|h1
  .exact s x y hin.1 hxy h1
  .have hxm:x<=mid:=by omega
   have e1:g x<=g mid:=by
    rcases qap x mid with h2|h2
    .exact p.le x hin.1 h2
    .rw[show x=mid by omega];exact qav _
   rcases qap mid y with h2|h2
   .exact qbj e1 (p.ge y h2 hin.2)
   .rw[show y=mid by omega];exact e1
 .exact h.out x y hx hxy hy hin
theorem PQ.left{mid:Nat}(h:PQ f g a b a' b')(hm1:a'<=mid)(hm2:mid<b')(p:PartU g a' mid b')(s:KH g (mid+1) b'):PQ f g a b a' mid:=by
 refine⟨h.ha,hm1,by have:=h.hb;omega,h.sw,fun x y hx hxy hy hn=>?_,fun h0 x hx hxb=>h.lb h0 x hx (by omega)⟩
 by_cases hin:a'<=x/\y<b'
 .rcases qap mid x with h1|h1
  .exact s x y h1 hxy hin.2
  .have hym:mid<=y:=by omega
   have e1:g x<=g mid:=by
    rcases qap x mid with h2|h2
    .exact p.le x hin.1 h2
    .rw[show x=mid by omega];exact qav _
   rcases qap mid y with h2|h2
   .exact qbj e1 (p.ge y h2 hin.2)
   .rw[show y=mid by omega];exact e1
 .exact h.out x y hx hxy hy hin
end
structure QSt where
 a:Nat
 b:Nat
 lim:Nat
 t8:Bool
 t9:Bool
 g:Nat->Int
theorem Aqd{q n c m:Nat}(hn:n<=m)(hm:n<=1000000000):∀(Z:Nat) {w:World} {f:Nat->Int} {a b lim:Nat},b - a<Z->w.heap[q]?=some (Bl 28 (CZ f m))->a<=b->b<=n->lim<=1000->(0<a->∀x,a<=x->x<b->f (a - 1)<=f x) ->
  Ret prog 204 #[.slice (some ⟨q,0,none⟩) n c,.int .i64 (a:Int),.int .i64 (b:Int),.int .i64 (lim:Int)] w fun v w'=>v=.tuple #[]/\∃g,Sw a b f g/\KH g a b/\Ctx w [q] w' [(q,Bl 28 (CZ g m))]:=by
 intro Z
 induction Z with
 |zero=>intro w f a b lim h;omega
 |succ Z ih =>
 intro w f a b lim hZ hd hab hb hlim hLB;obtain⟨w0,rfl⟩:=qD w;have H:=Ctx.start1 hd;refine A2 (fn:=f204) func204 U [.slice (some ⟨q,0,none⟩) n c,.int .i64 (a:Int),.int .i64 (b:Int),.int .i64 (lim:Int)] U ?_;refine Ad (Ai U (qA (Ad (Ai U (qA (Ax (Bn 21778071482940061661655974875633165532942 (α:=QSt) (fun t=>[(1,.int .i64 (t.a:Int)),(2,.int .i64 (t.b:Int)),(3,.int .i64 (t.lim:Int)),(8,.bool t.t8),(9,.bool t.t9)]) (fun t w'=>t.lim<=1000/\PQ f t.g a b t.a t.b/\Ctx w0 [q] w' [(q,Bl 28 (CZ t.g m))]) (fun t=>t.b - t.a) ⟨a,b,lim,true,true,f⟩ U ?_ ?_ ?_)))))))
 .exact⟨rfl,rfl,rfl,rfl,rfl,trivial⟩
 .exact⟨hlim,⟨qan _,hab,qan _,.refl _,fun x y h1 h2 h3 h4=>absurd ⟨h1,h3⟩ h4,hLB⟩,H⟩
 .rintro⟨a',b',lim,t8,t9,g⟩ j0 w ⟨hlim,P,H⟩;dsimp only at hlim P H;dsimp only;have hP1:=P.ha;have hP2:=P.hab;have hP3:=P.hb;refine Ax (Ad (Ae U (Ae U (B3 U U ?_))));refine Af U (qA (Ap (Ad (Ae U (Ib U U (qA (Av _ U ?_ ?_)))))))
  .intro h1;replace h1:=AJ h1;refine Ad (Ao U (Ae U (Ae U (Am qB (U0 (a:=a') (b:=b') (H.get at0) hP2 hn hm) U ?_))));rintro rv w ⟨rfl,g2,s2,o2,H2⟩;replace H:=Ctx.back (L1:=[_]) (L2:=[]) H H2;refine qA (A6 (Al (A5 (Al (A5 (Gx U U ?_))))));exact⟨rfl,g2,(P.swap s2).sw,(P.swap s2).done o2,H⟩
  .intro h1;replace h1:=AK h1;refine Aq (Aa (Ap (Ad (Ae U (Cj U U (qA (Av _ U ?_ ?_)))))))
   .intro h2;replace h2:=AJ h2;refine Ad (Ao U (Ae U (Ae U (Am qB (V8 (a:=a') (b:=b') (H.get at0) hn hm) U ?_))));rintro rv w ⟨rfl,g2,s2,o2,H2⟩;replace H:=Ctx.back (L1:=[_]) (L2:=[]) H H2;refine qA (A6 (Al (A5 (Al (A5 (Gx U U ?_))))));exact⟨rfl,g2,(P.swap s2).sw,(P.swap s2).done o2,H⟩
   .intro h2;replace h2:=AK h2;refine Aq (Aa (Ap (Ad (Au U (B1 U (qA (FO 4329327034376 (α:=Nat × (Nat->Int)) (fun t=>[(3,.int .i64 (t.1:Int))]) (fun t w'=>t.1<=1000/\PQ f t.2 a b a' b'/\Ctx w0 [q] w' [(q,Bl 28 (CZ t.2 m))]) U ?_ ?_)))))))
    .skip
     refine Av _ U ?_ ?_
     .intro h3;replace h3:=Bv h3;refine Ad (Ao U (Ae U (Ae U (Am qB (Afh (a:=a') (b:=b') (H.get at0) hn hm) U ?_))));rintro rv w ⟨rfl,g2,s2,H2⟩;replace H:=Ctx.back (L1:=[_]) (L2:=[]) H H2;refine qA (Ay (Ae U (B3 U U ?_)));refine Af U (qA ?_);exact⟨(lim - 1,g2),rfl,⟨qaa (Value.int .i64) (by dsimp only;omega),trivial⟩,by dsimp only;omega,P.swap s2,H⟩
     .intro h3;replace h3:=Bw h3;refine Aq (Aa ?_);exact⟨(lim,g),rfl,⟨rfl,trivial⟩,hlim,P,H⟩
    .rintro⟨lim,g⟩ j1 w ⟨hlim,P,H⟩;dsimp only at hlim P H;dsimp only;refine Ad (Ao U (Ae U (Ae U (Am qB (Aff (a:=a') (b:=b') (H.get at0) hn hm) U ?_))));rintro rv w ⟨p,hint,hp1,hp2,rfl,hx46⟩;replace H:=H.call hx46;refine BN U (AF U U (AF U U (Af U (Af U (qA (Ap (Ad (Ae U (Cj U U ?_)))))))));refine qA (FO 2303591209400014848 (α:=Nat × Int × (Nat->Int)) (fun t=>[(11,.int .i64 (t.1:Int)),(12,.int .i64 t.2.1)]) (fun t w'=>a'<=t.1/\t.1<b'/\PQ f t.2.2 a b a' b'/\Ctx w0 [q] w' [(q,Bl 28 (CZ t.2.2 m))]) U ?_ ?_)
     .skip
      refine Av _ U ?_ ?_
      .intro h4;replace h4:=AJ h4;refine Ad (Ao U (Ae U (Ae U (Am qB (X4 (a:=a') (b:=b') (H.get at0) hn hm) U ?_))));rintro rv w ⟨rfl,g2,s2,H2⟩;replace H:=Ctx.back (L1:=[_]) (L2:=[]) H H2;refine qA (Ad (Ae U (B3 U U ?_)));refine Ae U (Ae U (B3 U U ?_));refine B3 U U (Af U (qA (Ay (Af U (qA ?_)))));exact⟨(b' - 1 - (p - a'),1,g2),rfl,⟨qaa (Value.int .i64) (by dsimp only;omega),rfl,trivial⟩,by dsimp only;omega,by dsimp only;omega,P.swap s2,H⟩
      .intro h4;replace h4:=AK h4;refine Aq (Aa ?_);exact⟨(p,hint,g),rfl,⟨rfl,rfl,trivial⟩,hp1,hp2,P,H⟩
     .rintro⟨p,hint,g⟩ j2 w ⟨hp1,hp2,P,H⟩;dsimp only at hp1 hp2 P H;dsimp only;refine Ap (Eo 587989967349491957760 (α:=Bool) (fun t=>[(68,.bool t)]) (fun _ w'=>Ctx w0 [q] w' [(q,Bl 28 (CZ g m))]) U ?_ ?_)
      .skip
       refine Ay (Au U (Au U (AE 62 U ?_ ?_)))
       .intro h1;refine Au U (A8 U (.bool _) U (Au U (AE 65 U ?_ ?_)))
        .intro h2;refine Ae U (Cj U U (A8 U (.bool _) U (qA ?_)));exact⟨_,rfl,⟨rfl,trivial⟩,H⟩
        .intro h3;refine Ag U (Ag U (AA U (.bool _) U (qA ?_)));exact⟨_,rfl,⟨rfl,trivial⟩,H⟩
       .intro h4;refine Ag U (AA U (.bool _) U (Au U (Ag U (Ag U (AA U (.bool _) U (qA ?_))))));exact⟨_,rfl,⟨rfl,trivial⟩,H⟩
      .rintro t68 j3 w H;refine FO 8854437155380584775680 (α:=Nat->Int) (fun _=>[]) (fun g w'=>PQ f g a b a' b'/\Ctx w0 [q] w' [(q,Bl 28 (CZ g m))]) U ?_ ?_
       .skip
        refine Av _ U ?_ ?_
        .intro h5;refine Ad (Ao U (Ae U (Ae U (Am qB (X5 (a:=a') (b:=b') (H.get at0) hn hm P.lb) U ?_))));rintro rv w ⟨t72,g2,rfl,s2,o2,H2⟩;replace H:=Ctx.back (L1:=[_]) (L2:=[]) H H2;refine qA (Av _ U ?_ ?_)
         .intro h6;refine A6 (Al (A5 (Al (A5 (Gx U U ?_)))));exact⟨rfl,g2,(P.swap s2).sw,(P.swap s2).done (o2 h6),H⟩
         .intro h6;refine Aq (Aa ?_);exact⟨g2,rfl,trivial,P.swap s2,H⟩
        .intro h5;refine Aq (Aa ?_);exact⟨g,rfl,trivial,P,H⟩
       .rintro g j4 w ⟨P,H⟩;have hP1:=P.ha;have hP3:=P.hb;have e1:((a':Int) - 1).toNat=a' - 1:=by omega
        refine Ap (Eo 309475565088379329434353664 (α:=Unit) (fun _=>[(87,.bool (decide (0<a'/\¬g (a' - 1)<g p)))]) (fun _ w'=>Ctx w0 [q] w' [(q,Bl 28 (CZ g m))]) U ?_ ?_)
        .skip
         refine FK 12 Bs U U (AY U (K9 U U (Co U (DE 75 U ?_ ?_))))
         .intro h5;replace h5:=AJ h5;refine B0 U (AY U (Dp U U ?_));refine Bd BA Bx U U ?_;refine BF BL U (by rintro _ rfl;exact((CH (H.drew.get at0)))) ?_;refine B0 U (AY U (Bd BA Bx U U ?_));refine BF BL U (by rintro _ rfl;exact((CH (H.drew.get at0)))) ?_;refine BM ?_;replace H:=H.drew;refine Am qB (FP _ _ _) U ?_;rintro v w ⟨rfl,rfl⟩;rw[e1,qa7];refine B1 U (A8 U (.bool _) U (qA ?_));exact⟨(),rfl,⟨qaa Value.bool (by clear P ih hLB;rw[qad];simp_all;try omega),trivial⟩,H⟩
         .intro h6;replace h6:=AK h6;refine A4 U (A4 U (A4 U (A4 U (A4 U (A4 U (A4 U (A4 U (A4 U (BM ?_)))))))));replace H:=H.drew;refine Ag U (Ag U (AA U (.bool _) U (qA ?_)));exact⟨(),rfl,⟨qaa Value.bool (by clear P ih hLB;rw[qad];simp_all;try omega),trivial⟩,H⟩
        .rintro - j5 w H;refine Av _ U ?_ ?_
         .intro h7;have h7:=qbd h7;refine Ad (Ao U (Ae U (Ae U (Ae U (Am qB (Aao (a:=a') (b:=b') (p:=p) (H.get at0) hn hm ⟨hp1,hp2⟩) U ?_)))));rintro rv w ⟨i,g2,rfl,s2,hi1,hi2,hga,o1,o2,H2⟩;replace H:=Ctx.back (L1:=[_]) (L2:=[]) H H2;refine Af U (qA (Ad (Ae U (Af U (qA (Be (Aj (AH (Aa ?_)))))))));have P2:=P.swap s2;have hout:=s2.out (a' - 1) (.inl (by omega));exact⟨⟨i,b',lim,t8,t9,g2⟩,rfl,⟨rfl,rfl,rfl,rfl,rfl,trivial⟩,⟨hlim,P2.eq h7.1 (by rw[hga,hout];omega) hi1 hi2 o1 o2,H⟩,by dsimp only;omega⟩
         .intro h7;refine Aq (Aa (Ad (Ao U (Ae U (Ae U (Ae U (Am qB (U2 (a:=a') (b:=b') (p:=p) (H.get at0) hn hm ⟨hp1,hp2⟩) U ?_)))))));rintro rv w ⟨mid,t,g2,rfl,s2,hm1,hm2,PP,H2⟩;replace H:=Ctx.back (L1:=[_]) (L2:=[]) H H2;refine BN U (AF U U (AF U U (Af U (Ai U (qA ?_)))));have P2:=P.swap s2;refine Ad (Au U (Ai U (qA (Ad (Ae U (Ae U (B3 U U ?_)))))));refine Ae U (Ae U (B3 U U ?_));refine Af U (Af U (qA (Ad (Ae U (Jr U U (show _<=(9223372036854775807:Int)by omega) ?_)))));refine Af U (qA (Ad (Ae U (Ae U (AZ U U (qA (Av _ U ?_ ?_)))))))
          .intro h8;replace h8:=AJ h8;refine Ad (Ae U (Ae U (Cq U U (Ai U (qA (Ad (Ao U (Ae U (Ae U ?_)))))))));refine Ae U (Am qB (ih (a:=a') (b:=mid) (lim:=lim) (f:=g2) (by omega) (H.get at0) hm1 (by omega) hlim (fun h0 x hx hxb=>P2.lb h0 x hx (by omega))) U ?_);rintro rv w ⟨rfl,g3,s3,o3,H2⟩;replace H:=Ctx.back (L1:=[_]) (L2:=[]) H H2;refine qA (Ay (Ae U (Aw U U ?_)));refine Af U (Ab (A7 (Aa ?_)));have P3:=P2.swap (s3.mono (qan _) (by omega));exact⟨⟨mid+1,b',lim,_,t,g3⟩,rfl,⟨rfl,rfl,rfl,rfl,rfl,trivial⟩,⟨hlim,P3.right hm1 hm2 (PartU.sw PP s3 (.inl ⟨qan _,qan _⟩)) o3,H⟩,by dsimp only;omega⟩
          .intro h8;replace h8:=AK h8;refine Ad (Ae U (Ae U (Cq U U (Ai U (qA (Ad (Ao U (Ae U (Aw U U ?_)))))))));rw[show(mid:Int)+1=((mid+1:Nat):Int)by omega];refine Ae U (Ae U (Am qB (ih (a:=mid+1) (b:=b') (lim:=lim) (f:=g2) (by omega) (H.get at0) (by omega) (by omega) hlim (fun _ x hx hxb=>PP.ge x (by omega) hxb)) U ?_));rintro rv w ⟨rfl,g3,s3,o3,H2⟩;replace H:=Ctx.back (L1:=[_]) (L2:=[]) H H2;refine qA (Ay (Ae U (Af U (Ab (A7 (Aa ?_))))));have P3:=P2.swap (s3.mono (by omega) (qan _));have P4:=P3.left hm1 hm2 (PartU.sw PP s3 (.inr ⟨by omega,qan _⟩)) o3;exact⟨⟨a',mid,lim,_,t,g3⟩,rfl,⟨rfl,rfl,rfl,rfl,rfl,trivial⟩,⟨hlim,P4,H⟩,by show mid - a'<b' - a';omega⟩
theorem Afi{q n c m:Nat}{w:World}{f:Nat->Int}(hd:w.heap[q]?=some (Bl 28 (CZ f m)))(hn:n<=m)(hm:n<=1000000000) :
  Ret prog 162 #[.slice (some ⟨q,0,none⟩) n c] w fun v w'=>v=.tuple #[]/\∃g,(tab g n).Perm (tab f n)/\KH g 0 n/\Ctx w [q] w' [(q,Bl 28 (CZ g m))]:=by
 obtain⟨w0,rfl⟩:=qD w;refine A2 (fn:=f162) func162 U [.slice (some ⟨q,0,none⟩) n c] U ?_;refine Ad (Ao U (AU BA U (Af U (qA (Ay (Ao U (Ae U (Ae U (E0 U NY Uo ?_)))))))));refine Am qB (X6 n _) U ?_;rintro v w ⟨r,rfl,h1,h2,h3,rfl⟩;refine Am qB (Aqd hn hm (n+1) (a:=0) (b:=n) (lim:=r) (by omega) hd (qaf _) (qan _) (by omega) (fun h=>absurd h (qei _))) U ?_;rintro rv w ⟨rfl,g,s,o,H⟩;refine Ab (Dd U U ?_);exact⟨rfl,g,s.perm (qan _),o,H⟩
theorem X7(c:Nat)(w:World):Ret prog 162 #[.slice none 0 c] w fun v w'=>v=.tuple #[]/\w=w':=by
 have ins:∀w,Ret prog 230 #[.slice none 0 c,.int .i64 0,.int .i64 0] w fun v w'=>v=.tuple #[]/\w=w':=fun w=>by
  refine A2 (fn:=f230) func230 U [.slice none 0 c,.int .i64 0,.int .i64 0] U (Ad (Ae U (Aw U U ?_)));refine Af U (qA (Ax (Bn 562949953420480 (α:=Unit) (fun _=>[(6,.int .i64 1)]) (fun _ w'=>w=w') (fun _=>0) () U ?_ ?_ ?_)))
  .exact⟨rfl,trivial⟩
  .rfl
  .rintro - j0 w rfl;refine Ap (Ad (Ae U (Ae U (AZ U U (qA (Av _ U ?_ ?_))))))
   .intro h1;replace h1:=AJ h1;omega
   .intro h1;replace h1:=AK h1;refine Be (Aj (Aj (AH (Dd U U ?_))));exact⟨rfl,rfl⟩
 have pdq:∀(r:Nat) (w:World),Ret prog 204 #[.slice none 0 c,.int .i64 0,.int .i64 0,.int .i64 (r:Int)] w fun v w'=>v=.tuple #[]/\w=w':=fun r w=>by
  refine A2 (fn:=f204) func204 U [.slice none 0 c,.int .i64 0,.int .i64 0,.int .i64 (r:Int)] U ?_;refine Ad (Ai U (qA (Ad (Ai U (qA (Ax (Bn 21778071482940061661655974875633165532942 (α:=Unit) (fun _=>[(1,.int .i64 0),(2,.int .i64 0),(3,.int .i64 (r:Int)),(8,.bool true),(9,.bool true)]) (fun _ w'=>w=w') (fun _=>0) () U ?_ ?_ ?_)))))))
  .exact⟨rfl,rfl,rfl,rfl,rfl,trivial⟩
  .rfl
  .rintro - j0 w rfl;refine Ax (Ad (Ae U (Ae U (B3 U U ?_))));refine Af U (qA (Ap (Ad (Ae U (Ib U U (qA (Av _ U ?_ ?_)))))))
   .intro h1;replace h1:=AJ h1;refine Ad (Ao U (Ae U (Ae U (Am qB (ins _) U ?_))));rintro v w ⟨rfl,rfl⟩;refine qA (A6 (Al (A5 (Al (A5 (Gx U U ?_))))));exact⟨rfl,rfl⟩
   .intro h1;replace h1:=AK h1;omega
 refine A2 (fn:=f162) func162 U [.slice none 0 c] U (Ad (Ao U (AU BA U (Af U (qA (Ay (Ao U (Ae U (Ae U (E0 U NY Uo ?_))))))))));refine Am qB (X6 0 _) U ?_;rintro v w ⟨r,rfl,h1,h2,h3,rfl⟩;refine Am qB (pdq r _) U ?_;rintro v w ⟨rfl,rfl⟩;refine Ab (Dd U U ?_);exact⟨rfl,rfl⟩
def Db(x:Int):Bool:=decide (0<=x) && decide (x<=4503599627370496)
theorem Ks(x:Int)(w:World):Ret prog 130 #[.int .i64 x] w fun v w'=>v=.bool (Db x)/\w=w':=by
 obtain⟨w0,rfl⟩:=qD w;refine A2 (fn:=f130) func130 U [.int .i64 x] U (Ad (Ai U (qA (Ad (Ae U (Cq U U (Au U (AE 5 U ?_ ?_))))))))
 .intro h1;replace h1:=AJ h1;refine Ae U (Ib U U (A8 U (.bool _) U (Ai U (qA (A6 (AD (v:=(.bool _)) U U U ?_))))));exact⟨qaa Value.bool (by unfold Db;rw[qad];simp_all;try omega),rfl⟩
 .intro h2;replace h2:=AK h2;refine Ag U (Ag U (AA U (.bool _) U (Ai U (qA (A6 (AD (v:=(.bool _)) U U U ?_))))));exact⟨qaa Value.bool (by unfold Db;rw[qad];simp_all;try omega),rfl⟩
theorem Tk(a:Option Addr)(n c:Nat)(xs:List Int)(w:World)(R:Rd w a 1 I1 xs)(hn:xs.length=n)(hn2:n<=1000000) :
  Ret prog 191 #[.slice a n c] w fun v w'=>v=.bool (xs.all Db)/\w=w':=by
 subst hn;obtain⟨w0,rfl⟩:=qD w;refine A2 (fn:=f191) func191 U [.slice a xs.length c] U (Ad (Ai U (qA (Ap (Ad (Ao U (AU AR U (Ae U (qA (Ax ?_))))))))));refine Bn 32660 (α:=Nat) (fun i=>[(7,.int .i64 (i:Int))]) (fun i w'=>i<=xs.length/\w0=w'/\∀(k:Nat) (x:Int),k<i->xs[k]?=some x->Db x=true) (fun i=>xs.length - i) 0 U ?_ ?_ ?_
 .exact⟨rfl,trivial⟩
 .exact⟨qaf _,rfl,fun k x h=>absurd h (qaw _)⟩
 .rintro i j w ⟨hi,rfl,hb⟩;refine Ad (AZ U U (qA (Ap (Av _ U ?_ ?_))))
  .intro h1;replace h1:=AJ h1;obtain⟨x,hx⟩:=AB (l:=xs) (i:=i);refine Aq (Aa (Ap (Ax (Ad (AM R AR Bt U U (by rfl) ?_)))));refine Ba Bm U ((R.fld hx U (j:=0) U)) (Af U (qA (Ad (Ae U (Am qB (Ks x _) U ?_)))));rintro v w ⟨rfl,rfl⟩;refine B1 U (qA (Av _ U ?_ ?_))
   .intro h2;replace h2:=Bv h2;refine Ad (Ai U (qA (A6 (A5 (Al (Al (A5 (Al (AD (v:=(.bool _)) U U U ?_)))))))));refine⟨qaa Value.bool ?_,rfl⟩;exact(Dw hx (show Db x=false by simpa using h2)).symm
   .intro h2;replace h2:=Bw h2;refine Aq (A7 (Aa (Ay (Aw U U ?_))));refine Ae U (qA ?_);refine⟨i+1,rfl,⟨rfl,trivial⟩,⟨by omega,rfl,fun k y hk hy=>?_⟩,by omega⟩
    rcases qap k i with h7|h7
    .exact hb k y h7 hy
    .obtain rfl:k=i:=by omega
     rw[hx]at hy;cases hy
     simpa using h2
  .intro h1;replace h1:=AK h1;refine Be (Aj (Aj (AH (Aa (Ad (Ai U (qA (A6 (AD (v:=(.bool _)) U U U ?_)))))))));exact⟨qaa Value.bool (Eb fun k x hk hx=>hb k x (by omega) hx).symm,rfl⟩
def Ch(xs:List Int):Int:=xs.foldl (·+·) 0
theorem Aap(xs:List Int):∀a:Int,xs.foldl (·+·) a=a+Ch xs:=by
 induction xs with
 |nil=>intro a;show a=a+0;omega
 |cons x xs ih =>
  intro a;show xs.foldl (·+·) (a+x)=a+xs.foldl (·+·) (0+x);rw[ih,ih (0+x)];omega
theorem Iy{xs:List Int}{i:Nat}{x:Int}(h:xs[i]?=some x):Ch (xs.take (i+1))=Ch (xs.take i)+x:=by
 rw[qbt,h];unfold Ch;rw[qej];rfl
theorem BJ(x:Int)(xs:List Int):Ch (x::xs)=x+Ch xs:=by
 show xs.foldl (·+·) (0+x)=_;rw[Aap];omega
theorem ES(xs ys:List Int):Ch (xs++ys)=Ch xs+Ch ys:=by
 induction xs with
 |nil=>show Ch ys=0+_;omega
 |cons x xs ih=>rw[qcm,BJ,BJ,ih];omega
theorem Aaq{xs ys:List Int}(h:xs.Perm ys):Ch xs=Ch ys:=by
 induction h with
 |nil=>rfl
 |cons x _ ih=>rw[BJ,BJ,ih]
 |swap x y l=>rw[BJ,BJ,BJ,BJ];omega
 |trans _ _ h1 h2=>exact h1.trans h2
theorem FX{xs:List Int}(h:∀x∈xs,0<=x):0<=Ch xs:=by
 induction xs with
 |nil=>exact qav _
 |cons x xs ih =>
  rw[BJ];have:=h x (qaj ..);have:=ih fun y hy=>h y (qai _ hy);omega
theorem V9(f:Nat->Int)(n:Nat):Ch (tab f n)=BQ f n:=by
 induction n with
 |zero=>rfl
 |succ n ih =>
  unfold tab at ih |-;rw[qc9,qax,ES,ih];show _+(0+f n)=BQ f n+f n;omega
def EN(xs:List Int):Int × Int:=if xs.all Db=false then(0,1)else if Ch xs<=4503599627370496 then(Ch xs,0)else(0,13)
theorem CR{x:Int}:Db x=true↔0<=x/\x<=4503599627370496:=by unfold Db;simp
theorem LP(a:Option Addr)(n c:Nat)(xs:List Int)(w:World)(R:Rd w a 1 I1 xs)(hn:xs.length=n)(hn2:n<=1000000:=by omega):
  Ret prog 131 #[.slice a n c] w fun v w'=>v=.tuple #[.int .i64 (EN xs).1,.int .i64 (EN xs).2]/\w=w':=by
 subst hn;obtain⟨w0,rfl⟩:=qD w;refine A2 (fn:=f131) func131 U [.slice a xs.length c] U (Ad (Af U (Af U (qA (Ap (Ad (Ao U (Am qB (Tk a xs.length c xs _ R U hn2) U ?_))))))));rintro v w ⟨rfl,rfl⟩;refine B1 U (qA (Av _ U ?_ ?_))
 .intro h1;replace h1:=Bv h1;refine Ad (Af U (Af U (qA (A6 (Al (BG (v1:=(.int _ _)) (v2:=(.int _ _)) U U U U ?_))))));have h1':xs.all Db=false:=by simpa using h1
  exact⟨by unfold EN;rw[if_pos h1'],rfl⟩
 .intro h1;replace h1:=Bw h1;have h1':xs.all Db=true:=by simpa using h1
  have hall:∀(k:Nat) (x:Int),xs[k]?=some x->0<=x/\x<=4503599627370496:=fun k x hx=>CR.1 (qas.1 h1' x (qac hx));have hpos:∀x∈xs,0<=x:=fun x hx=>(CR.1 (qas.1 h1' x hx)).1;refine Aq (Aa (Ad (Af U (qA (Ap (Ad (Ao U (AU AR U (Ae U (qA ?_))))))))));refine Ax (Bn 8384604 (α:=Nat) (fun i=>[(4,.int .i64 (Ch (xs.take i))),(12,.int .i64 (i:Int))]) (fun i w'=>i<=xs.length/\w0=w'/\Ch (xs.take i)<=4503599627370496) (fun i=>xs.length - i) 0 U ?_ ?_ ?_)
  .exact⟨rfl,rfl,trivial⟩
  .exact⟨qaf _,rfl,by show(0:Int)<=_;omega⟩
  .rintro i j w ⟨hi,rfl,hb⟩;have hs0:0<=Ch (xs.take i):=FX fun y hy=>hpos y (qdh hy);refine Ad (AZ U U (qA (Ap (Av _ U ?_ ?_))))
   .intro h2;replace h2:=AJ h2;obtain⟨x,hx⟩:=AB (l:=xs) (i:=i);obtain⟨hx0,hx1⟩:=hall i x hx;have hst:=Iy hx;refine Aq (Aa (Ap (Ax (Ad (AM R AR Bt U U (by rfl) ?_)))));refine Ba Bm U ((R.fld hx U (j:=0) U)) (Af U (qA (Ad (Ae U (Ae U (Aw U U ?_))))));rw[<-hst];refine Af U (qA (Ad (Ae U (Am qB (Ks (Ch (xs.take (i+1))) _) U ?_))));rintro v w ⟨rfl,rfl⟩;refine B1 U (qA (Av _ U ?_ ?_))
    .intro h3;replace h3:=Bv h3;refine Ad (Af U (Af U (qA (A6 (A5 (Al (Al (A5 (Al (BG (v1:=(.int _ _)) (v2:=(.int _ _)) U U U U ?_))))))))));have h4:Db (Ch (xs.take (i+1)))=false:=by simpa using h3
     have h5:¬Ch (xs.take (i+1))<=4503599627370496:=fun h=>by
      rw[CR.2 ⟨by omega,h⟩]at h4;cases h4
     have h6:Ch xs=Ch (xs.take (i+1))+Ch (xs.drop (i+1)):=by rw[<-ES,qbn]
     have h7:=FX (xs:=xs.drop (i+1)) fun y hy=>hpos y (qc3 hy);exact⟨by unfold EN;rw[if_neg (by rw[h1'];decide),if_neg (by omega)],rfl⟩
    .intro h3;replace h3:=Bw h3;refine Aq (A7 (Aa (Ay (Aw U U ?_))));refine Ae U (qA ?_);have h4:Db (Ch (xs.take (i+1)))=true:=by simpa using h3
     exact⟨i+1,rfl,⟨rfl,rfl,trivial⟩,⟨by omega,rfl,(CR.1 h4).2⟩,by omega⟩
   .intro h2;replace h2:=AK h2;refine Be (Aj (Aj (AH (Aa (Ad (Ae U (Af U (Af U (qA (A6 (BG (v1:=(.int _ _)) (v2:=(.int _ _)) U U U U ?_)))))))))));obtain rfl:i=xs.length:=by omega
    rw[qbf]at hb |-;exact⟨by unfold EN;rw[if_neg (by rw[h1'];decide),if_pos hb],rfl⟩
section
variable {P:Program}{r:Option Nat}{ops rest:List Oper}{Q:Exit->Env->World->Prop}{e:Env}{w:World}{dst:Option Tmp}{ty:TypeId}{pos:String}{af:Array Edge}{g:Option (Nat × Bool)}
theorem Aj3{t t2:TypeId}{x y:Operand}{a b:Int}(hg:Bc ⟨dst,.binOp .quo t x y t2,ty,pos,af,g⟩ ops e=true)(hx:ev e x=.int .i64 a)(hy:ev e y=.int .i64 b)(h:AN P r ops Q rest (put e dst (.int .i64 (a.tdiv b))) w)(hb:0<b:=by decide)(h1: -9223372036854775808<=a.tdiv b:=by omega)(h2:a.tdiv b<=9223372036854775807:=by omega):AN P r ops Q (⟨dst,.binOp .quo t x y t2,ty,pos,af,g⟩::rest) e w :=
 BU hg rfl (Cn hx hy (v := .int .i64 (a.tdiv b)) (by simp[binOp,Op.intDiv,show ¬b=0 from by omega,Dj (k := .i64) (n:=a.tdiv b) h1 h2])) h
end
theorem tdm(t:Int):∃q r,t.tdiv 4503599627370496=q/\t.tmod 4503599627370496=r/\t=4503599627370496*q+r /\ -4503599627370496<r/\r<4503599627370496/\(-9007199254740992<t->t<9007199254740992 -> -1<=q/\q<=1):=by
 refine⟨_,_,rfl,rfl,?_⟩
 rcases Vt t 0 with h|h
 .obtain⟨s,rfl⟩:∃s,t = -s:=⟨-t,by omega⟩;rw[Int.neg_tdiv,Int.neg_tmod,qer (by omega),qee (by omega)];exact⟨by omega,by omega,by omega,fun h1 h2=>by omega⟩
 .rw[qer h,qee h];exact⟨by omega,by omega,by omega,fun h1 h2=>by omega⟩
def Hf(x:Int):Bool:=decide (-4503599627370496<=x) && decide (x<=4503599627370496)
def Jh(xs:List Int):Bool:=xs.all Hf && decide (Ch xs=0)
theorem Afj(a:Option Addr)(n c:Nat)(xs:List Int)(w:World)(R:Rd w a 1 I1 xs)(hn:xs.length=n)(hn2:n<=1000000) :
  Ret prog 254 #[.slice a n c] w fun v w'=>v=.bool (Jh xs)/\w=w':=by
 subst hn;obtain⟨w0,rfl⟩:=qD w;refine A2 (fn:=f254) func254 U [.slice a xs.length c] U (Ad (Ai U (qA (Ad (Af U (Af U (qA (Ap (Ad (Ao U ?_))))))))));refine AU AR U (Ae U (qA (Ax (Bn 536870492 (α:=Nat × Int × Int) (fun t=>[(3,.int .i64 t.2.1),(4,.int .i64 t.2.2),(9,.int .i64 (t.1:Int))]) (fun t w'=>t.1<=xs.length/\w0=w'/\Ch (xs.take t.1)=4503599627370496*t.2.1+t.2.2 /\ -4503599627370496<t.2.2/\t.2.2<4503599627370496 /\ -(t.1:Int)<=t.2.1/\t.2.1<=t.1/\∀(k:Nat) (x:Int),k<t.1->xs[k]?=some x->Hf x=true) (fun t=>xs.length - t.1) (0,0,0) U ?_ ?_ ?_))))
 .exact⟨rfl,rfl,rfl,trivial⟩
 .exact⟨qaf _,rfl,rfl,by dsimp only;omega,by dsimp only;omega,by dsimp only;omega,by dsimp only;omega,fun k x h=>absurd h (qaw _)⟩
 .rintro⟨i,hh,ll⟩ j w ⟨hi,rfl,hs,hl1,hl2,hh1,hh2,hb⟩;dsimp only at hi hs hl1 hl2 hh1 hh2 hb;dsimp only;refine Ad (AZ U U (qA (Ap (Av _ U ?_ ?_))))
  .intro h1;replace h1:=AJ h1;obtain⟨x,hx⟩:=AB (l:=xs) (i:=i);refine Aq (Aa (Ap (Ax (Ad (AM R AR Bt U U (by rfl) ?_)))));refine Ba Bm U ((R.fld hx U (j:=0) U)) ?_;refine Af U (qA (Ap (Ad (B9 (α:=Unit) 516096 (fun _=>[(18,.bool (!Hf x))]) (fun _ w'=>w'=w0) U ?_ ?_))))
   .refine Ae U (AZ U U (Au U (AE 15 U ?_ ?_)))
    .intro h1;replace h1:=AJ h1;refine Ag U (Ag U (A8 U (.bool _) U (Ab ?_)));exact⟨rfl,(),rfl,⟨qaa Value.bool (by unfold Hf;rw[qad];simp_all;try omega),trivial⟩,rfl⟩
    .intro h2;replace h2:=AK h2;refine Ae U (Cp U U (AA U (.bool _) U (Ab ?_)));exact⟨rfl,(),rfl,⟨qaa Value.bool (by unfold Hf;rw[qad];simp_all;try omega),trivial⟩,rfl⟩
   rintro - j18 w hw;subst hw;refine Av _ U ?_ ?_
   .intro h2;replace h2:=Bv h2;refine Ad (Ai U (qA (A6 (Al (A5 (Al (Al (A5 (Al (AD (v:=(.bool _)) U U U ?_))))))))));refine⟨qaa Value.bool ?_,rfl⟩;unfold Jh;rw[Dw hx (show Hf x=false by simpa using h2)];rfl
   .intro h2;replace h2:=Bw h2;have h2':Hf x=true:=by simpa using h2
    have h3 : -4503599627370496<=x/\x<=4503599627370496:=by unfold Hf at h2';simpa using h2'
    have hst:=Iy hx;obtain⟨q,r,hq,hr,he,hr1,hr2,hq2⟩:=tdm (ll+x);have hq3:=hq2 (by omega) (by omega);refine Aq (Aa (Ad (Ae U (Ae U (Aw U U ?_)))));refine Af U (qA (Ad (Ae U (Ae U (Aj3 U U U ?_)))));rw[hq];refine Aw U U (Af U (qA (Ay (Ae U (Ais U U U ?_)))));rw[hr];refine Af U (Ab (A7 (Aa (Ay (Aw U U ?_)))));refine Ae U (qA ?_);refine⟨(i+1,hh+q,r),rfl,⟨rfl,rfl,rfl,trivial⟩,⟨by dsimp only;omega,rfl,by dsimp only;omega,hr1,hr2,by dsimp only;omega,by dsimp only;omega,fun k y hk hy=>?_⟩,by dsimp only;omega⟩
    rcases qap k i with h7|h7
    .exact hb k y h7 hy
    .obtain rfl:k=i:=by dsimp only at hk;omega
     rw[hx]at hy;cases hy;exact h2'
  .intro h1;replace h1:=AK h1;obtain rfl:i=xs.length:=by omega
   rw[qbf]at hs;have hall:xs.all Hf=true:=Eb fun k x hk hx=>hb k x hk hx;refine Be (Aj (Aj (AH (Aa (Ad (Ae U (Cj U U (Au U (AE 31 U ?_ ?_)))))))))
   .intro h3;replace h3:=AJ h3;refine Ae U (Cj U U (A8 U (.bool _) U (Ai U (qA (A6 (AD (v:=(.bool _)) U U U ?_))))));exact⟨qaa Value.bool (by unfold Jh;rw[hall,qb9,qad];simp_all;try omega),rfl⟩
   .intro h4;replace h4:=AK h4;refine Ag U (Ag U (AA U (.bool _) U (Ai U (qA (A6 (AD (v:=(.bool _)) U U U ?_))))));exact⟨qaa Value.bool (by unfold Jh;rw[hall,qb9,qad];simp_all;try omega),rfl⟩
def Dy(xs ys:List Int):List Int:=List.zipWith (·+·) xs ys
def Ec(xs ys:List Int):Int :=
 if(decide (xs.length=ys.length) && (xs.all Db && Jh ys))=false then 1 else if(Dy xs ys).all (fun x=>decide (0<=x))=false then 12 else if(Dy xs ys).all Db=false then 13 else 0
theorem Lr{xs ys:List Int}{i:Nat}{x y:Int}(hx:xs[i]?=some x)(hy:ys[i]?=some y):(Dy xs ys)[i]?=some (x+y):=by
 unfold Dy;rw[qcw,hx,hy]
theorem X8{xs ys:List Int}{i:Nat}{x y:Int}(hx:xs[i]?=some x)(hy:ys[i]?=some y):(Dy xs ys).take (i+1)=(Dy xs ys).take i++[x+y]:=by
 rw[qbt,Lr hx hy];rfl
theorem Aar(a b:Option Addr)(n c m d:Nat)(xs ys:List Int)(w:World)(R:Rd w a 1 I1 xs)(hn:xs.length=n)(Ry:Rd w b 1 I1 ys)(hm:ys.length=m)(hm2:m<=1000000)(hn2:n<=1000000:=by omega):
  Ret prog 223 #[.slice a n c,.slice b m d] w fun v w'=>∃v',v=.tuple #[v',.int .i64 (Ec xs ys)]/\(Ec xs ys≠0->v'=.slice none 0 0)/\(Ec xs ys=0->Fresh w w' 2 1 v' ((Dy xs ys).map CQ))/\Ext [] w w':=by
 subst hn hm;obtain⟨w0,rfl,H⟩:=qE w;refine A2 (fn:=f223) func223 U [.slice a xs.length c,.slice b ys.length d] U ?_;refine Ad (Az U (Af U (qA (Ap (Ad (B9 (α:=Unit) 33553408 (fun _=>[(24,.bool (!(decide (xs.length=ys.length) && (xs.all Db && Jh ys))))]) (fun _ w'=>w'=w0) U ?_ ?_))))))
 .refine Ao U (AU AR U (Ao U (AU AR U (C0 U U (Au U (AE 15 U ?_ ?_))))))
  .intro h1;replace h1:=CC h1;refine Ag U (Ag U (Ag U (A8 U (.bool _) U (Au U (Ag U (Ag U (Ag U (A8 U (.bool _) U (Ab ?_)))))))));exact⟨rfl,(),rfl,⟨qaa Value.bool (by generalize xs.all Db=A at *;generalize Jh ys=B at *;rw[qad];simp_all;try omega),trivial⟩,rfl⟩
  .intro h2;replace h2:=CD h2;refine Ao U (Am qB (Tk a xs.length c xs _ R U hn2) U ?_);rintro v w ⟨rfl,rfl⟩;refine B1 U (AA U (.bool _) U (Au U (AE 20 U ?_ ?_)))
   .intro h3;replace h3:=Bv h3;refine Ag U (Ag U (Ag U (A8 U (.bool _) U (Ab ?_))));exact⟨rfl,(),rfl,⟨qaa Value.bool (by generalize xs.all Db=A at *;generalize Jh ys=B at *;rw[qad];simp_all;try omega),trivial⟩,rfl⟩
   .intro h4;replace h4:=Bw h4;refine Ao U (Am qB (Afj b ys.length d ys _ Ry U hm2) U ?_);rintro v w ⟨rfl,rfl⟩;refine B1 U (AA U (.bool _) U (Ab ?_));exact⟨rfl,(),rfl,⟨qaa Value.bool (by generalize xs.all Db=A at *;generalize Jh ys=B at *;rw[qad];simp_all;try omega),trivial⟩,rfl⟩
 rintro - j24 w hw;subst w;refine Av _ U ?_ ?_
 .intro h1;replace h1:=Bv h1;refine Ad (Az U (Af U (qA (A6 (Al (BG (v1:=(.slice _ _ _)) (v2:=(.int _ _)) U U U U ?_))))));have h1':Ec xs ys=1:=by unfold Ec;rw[if_pos (by simpa using h1)]
  exact⟨_,by rw[h1'],fun _=>rfl,(fun h=>by omega),H.ext⟩
 .intro h1;replace h1:=Bw h1;have h1':(decide (xs.length=ys.length) && (xs.all Db && Jh ys))=true:=by simpa using h1
  have h1c:¬(decide (xs.length=ys.length) && (xs.all Db && Jh ys))=false:=by rw[h1'];decide
  have hE:=h1';simp only[qae,qam,qas]at hE;obtain⟨hle,hma,hev⟩:=hE
  have hsm:∀y∈ys,-4503599627370496<=y/\y<=4503599627370496:=fun y hy=>by
   unfold Jh at hev;simp only[qae,qas]at hev;have:=hev.1 y hy;unfold Hf at this
   simpa using this
  have hlen:(Dy xs ys).length=xs.length:=by unfold Dy;rw[qck];omega
  refine Aq (Aa (Ad (Az U (qA (Ad (Af U (qA (Ap (Ad (Ao U ?_))))))))));refine AU AR U (Ae U (qA (Ax (Bn 1125899772625904 (α:=LSt × Int) (fun t=>[(6,.slice t.1.a t.1.i t.1.c),(7,.int .i64 t.2),(27,.int .i64 (t.1.i:Int))]) (fun t w'=>t.1.i<=xs.length/\OS t.1.a t.1.i t.1.c 1 t.1.full (((Dy xs ys).take t.1.i).map CQ)/\Ctx w0 [] w' (ent t.1.a 2 t.1.full)/\(∀(k:Nat) (x:Int),k<t.1.i->(Dy xs ys)[k]?=some x->0<=x)/\((t.2=0/\∀(k:Nat) (x:Int),k<t.1.i->(Dy xs ys)[k]?=some x->Db x=true)\/(t.2=13/\(Dy xs ys).all Db=false))) (fun t=>xs.length - t.1.i) (⟨0,none,0,[]⟩,0) U ?_ ?_ ?_))))
  .exact⟨rfl,rfl,rfl,trivial⟩
  .exact⟨qaf _,OS.nil,H,fun k x h=>absurd h (qaw _),.inl ⟨rfl,fun k x h=>absurd h (qaw _)⟩⟩
  .rintro⟨⟨i,a2,c2,full⟩,ov⟩ j w ⟨hi,O,H,hp,hov⟩;dsimp only at hi O H hp hov;dsimp only;refine Ad (AZ U U (qA (Ap (Av _ U ?_ ?_))))
   .intro h2;replace h2:=AJ h2;obtain⟨x,hx⟩:=AB (l:=xs) (i:=i);obtain⟨y,hy⟩:=AB (l:=ys) (i:=i);have hx1:=CR.1 (hma x (qac hx));have hy1:=hsm y (qac hy);have hat:=Lr hx hy;have htk:=X8 hx hy;refine Aq (Aa (Ap (Ax (Ad (Ae U (AM R AR Bt U U (by rfl) ?_))))));refine Ba Bm U (((R.ext0 H.ext).fld hx U (j:=0) U)) (Af U (Af U (qA (Ad (Ae U (Ao U (Ae U (AM Ry AR Bt U U (by rfl) ?_))))))));refine Ba Bm U (((Ry.ext0 H.ext).fld hy U (j:=0) U)) (Aw U U ?_);refine Af U (qA (Ap (Ax (Ad (Ae U (AZ U U (Ai U (qA (Av _ U ?_ ?_)))))))))
    .intro h3;replace h3:=AJ h3;refine Ad (Az U (Af U (qA (A6 (A5 (Al (A5 (Al (Al (A5 (Al (BG (v1:=(.slice _ _ _)) (v2:=(.int _ _)) U U U U ?_))))))))))))
     have h4:Ec xs ys=12:=by
      unfold Ec;rw[if_neg h1c,if_pos (Dw hat (by simpa using h3))]
     exact⟨_,by rw[h4],fun _=>rfl,(fun h=>by omega),H.ext⟩
    .intro h3;replace h3:=AK h3
     have hp':∀(k:Nat) (z:Int),k<i+1->(Dy xs ys)[k]?=some z->0<=z:=fun k z hk hz=>by
      rcases qap k i with h7|h7
      .exact hp k z h7 hz
      .obtain rfl:k=i:=by omega
       rw[hat]at hz;cases hz;omega
     have hO:((Dy xs ys).take (i+1)).map CQ=((Dy xs ys).take i).map CQ++[.int .i64 (x+y)]:=by rw[htk,qax];rfl
     refine Ad (Ae U (Am qB (Ks (x+y) _) U ?_));rintro v w ⟨rfl,rfl⟩;refine B1 U (Ai U (qA (Av _ U ?_ ?_)))
     .intro h4;replace h4:=Bv h4;have h4':Db (x+y)=false:=by simpa using h4
      refine Ay (Af U (Ab (A7 (Aa (Ay (Ao U (Ae U (Cs _ (.int _ _) AR Bt Eh U U U U H ?_))))))));rintro b47 w - H;refine C3 (L:=[]) AR AR Bt J9 Eh U U U H O U (by simp[AS]) ?_;rintro a' c' full' w H O;refine Az U (Ab (A7 (Aa (Ay (Aw U U ?_)))));refine Ae U (qA ?_);exact⟨(⟨i+1,a',c',full'⟩,13),rfl,⟨rfl,rfl,rfl,trivial⟩,⟨by dsimp only;omega,by dsimp only;rw[hO];exact O,H,hp',.inr ⟨rfl,Dw hat h4'⟩⟩,by dsimp only;omega⟩
     .intro h4;replace h4:=Bw h4;have h4':Db (x+y)=true:=by simpa using h4
      refine Aq (A7 (Aa (Ay (Ao U (Ae U (Cs _ (.int _ _) AR Bt Eh U U U U H ?_))))));rintro b47 w - H;refine C3 (L:=[]) AR AR Bt J9 Eh U U U H O U (by simp[AS]) ?_;rintro a' c' full' w H O;refine Az U (Ab (A7 (Aa (Ay (Aw U U ?_)))));refine Ae U (qA ?_);refine⟨(⟨i+1,a',c',full'⟩,ov),rfl,⟨rfl,rfl,rfl,trivial⟩,⟨by dsimp only;omega,by dsimp only;rw[hO];exact O,H,hp',?_⟩,by dsimp only;omega⟩
      rcases hov with⟨h5,h6⟩|h5
      .refine .inl ⟨h5,fun k z hk hz=>?_⟩
       rcases qap k i with h7|h7
       .exact h6 k z h7 hz
       .obtain rfl:k=i:=by dsimp only at hk;omega
        rw[hat]at hz;cases hz;exact h4'
      .exact .inr h5
   .intro h2;replace h2:=AK h2;obtain rfl:i=xs.length:=by omega
    have hpa:¬(Dy xs ys).all (fun x=>decide (0<=x))=false:=by
     rw[Eb fun k x hk hx=>qal (hp k x (by omega) hx)];decide
    rw[show(Dy xs ys).take xs.length=Dy xs ys by rw[<-hlen,qbf]]at O;refine Be (Aj (Aj (AH (Aa (Ap (Ad (Ae U (C0 U U (qA (Av _ U ?_ ?_))))))))))
    .intro h3;replace h3:=CC h3
     rcases hov with⟨h5,-⟩|⟨rfl,h6⟩
     .exact absurd h5 h3
     .refine Ad (Ae U (Az U (Af U (qA (A6 (Al (BG (v1:=(.slice _ _ _)) (v2:=(.int _ _)) U U U U ?_)))))));have h4:Ec xs ys=13:=by unfold Ec;rw[if_neg h1c,if_neg hpa,if_pos h6]
      exact⟨_,by rw[h4],fun _=>rfl,(fun h=>by omega),H.ext⟩
    .intro h3;replace h3:=CD h3;refine Aq (Aa (Ad (Ao U (Az U (Af U (qA (A6 (BG (v1:=(.slice _ _ _)) (v2:=(.int _ _)) U U U U ?_))))))))
     have h4:Ec xs ys=0:=by
      unfold Ec
      rcases hov with⟨-,h6⟩|⟨h5,-⟩
      .rw[if_neg h1c,if_neg hpa,if_neg (by rw[Eb fun k x hk hx=>h6 k x (by omega) hx];decide)]
      .omega
     exact⟨_,by rw[h4],(fun h=>absurd h4 h),(fun _=>Ctx.fresh (L:=[]) H O),H.ext⟩
structure DueK(b2 b:Nat)(o:Obj)(w:World):Prop where
 h2:w.heap[b2]?=some (Bl 163 [.map (some b)])
 hb:w.heap[b]?=some o
def Amg(m:List (Int × Value))(vis:List (Int × Value))(v:List Value)(vis':List (Int × Value)):Prop:=∃p,vis'=vis++[p]/\v=[.int .u64 p.1]/\p∈m/\vis.length<m.length
theorem Afk{b2 b:Nat}{o:Obj}{m:List (Int × Value)}(hM:Ds .u64 m o):Yv prog 163 #[ptr b2] [] (fun _ w=>DueK b2 b o w) ([]:List (Int × Value)) (Amg m) (fun vis=>vis.Perm m) (fun _=>True):=by
 intro l w _ J E hJ0 hJs hEs hK hY;obtain⟨M0,hJ0⟩:=hJ0;obtain⟨w0,rfl,H⟩:=qE w;refine A2 (fn:=f163) func163 U [.func (.yield l) #[] #[],.pointer (some ⟨b2,0,none⟩)] U ?_;have K0:=(hK _ _ _ hJ0).2;refine Ad (Ba FU U ((by rw[An K0.h2];rfl)) ?_);refine Vg U Gl U H K0.hb hM ?_;rintro bi it w hV H;refine qA (Ax ?_);have hbi:w0.heap.size<=bi:=(H.own (bi,it) (qaj ..)).elim (fun h=>by cases h) id;have hJ1:=hJs _ _ _ _ [] hJ0 (fun x hx=>by cases hx) H.ext
 have hM0:¬M0 bi:=fun h=>by
  have:=(hK _ _ _ hJ0).1 bi h;omega
 refine Bn 16328 (α:=List (Int × Value) × Obj) (fun _=>[]) (fun z w'=>VisO .u64 b m z.1 o z.2/\∃M,J z.1 M w'/\¬M bi/\w'.heap[bi]?=some z.2) (fun z=>m.length - z.1.length) (([]:List (Int × Value)),it) U ?_ ?_ ?_
 .exact trivial
 .exact⟨hV,M0,hJ1,hM0,H.get at0⟩
 .rintro⟨vis,it⟩ j w ⟨hV,M,hJ,hMb,hit⟩;dsimp only at hV hJ hit;dsimp only;have KK:=(hK _ _ _ hJ).2;obtain⟨w1,rfl⟩:=qD w;have H:=Ctx.start1 hit;have hT:∀x∈[bi],¬M x/\w0.heap.size<=x:=fun x hx=>by rw[qab]at hx;subst hx;exact⟨hMb,hbi⟩
  refine Ad (Yx U (fun _=>rfl) U H KK.hb at0 hV ?_);rintro vs more it' w hc H
  skip
  refine qA (Ap (Av _ U ?_ ?_))
  .intro h1;obtain⟨p,hV'⟩:∃p,VisO .u64 b m (vis++[p]) o it':=hc.elim (fun h=>by rw[h.1]at h1;cases h1) fun h=>h.2;have hJw:=hJs _ _ _ _ [bi] hJ hT H.ext;have KR:=(hK _ _ _ hJw).2;have hle:=hV'.le;rw[qat]at hle;have hst:Amg m vis [.int .u64 p.1] (vis++[p]):=⟨p,rfl,rfl,hV'.mem p (by simp),by simp at hle;omega⟩;refine Aq (Aa (Ax (Ad (Vh U U H KR.hb at0 hV' ?_))));refine AF U U (Af U (qA ?_));have hY1:=hY vis [.int .u64 p.1] (vis++[p]) M w hst hJw;refine Ad (De U (.func _ _ _) U ?_);refine Ae U (HG (vs:=[.int .u64 p.1]) U hY1 U ?_);rintro u w hu
   obtain⟨bb,rfl,hu1,hu0⟩:∃bb,u=.bool bb/\(bb=true->∃M,J (vis++[p]) M w/\¬M bi/\w.heap[bi]?=some it')/\(bb=false->E w):=hu.elim (fun h=>⟨true,h.1,fun _=>let ⟨M',h1,g⟩:=h.2;⟨M',h1,fun hx=>(g.new _ hx).elim hMb (fun h=>by have:=H.lt at0;omega),g.to (H.get at0) hMb⟩,fun h=>by cases h⟩) (fun h=>⟨false,h.1,(fun h=>by cases h),fun _=>h.2⟩);refine B1 U (qA (Av _ U ?_ ?_))
   .intro h2;replace h2:=Bv h2;refine A6 (A5 (Al (A5 (Gx U U ?_))));exact .inr (hu0 (by simpa using h2))
   .intro h2;replace h2:=Bw h2;refine Aq (A7 (Aa ?_));exact⟨(vis++[p],it'),rfl,trivial,⟨hV',hu1 (by simpa using h2)⟩,by dsimp only;rw[qat];simp;simp at hle;omega⟩
  .intro h1;obtain⟨hp,rfl⟩:vis.Perm m/\it'=it:=hc.elim (fun h=>h.2) fun h=>by rw[h.1]at h1;cases h1
   refine Be (Aj (Aj (AH (Dd U U ?_))));exact .inl ⟨vis,M,hp,hJs _ _ _ _ [bi] hJ hT H.ext⟩
def HY(x:Int):Value := .int .u64 x
structure FreshU(w w':World)(v:Value)(l:List Int):Prop where
 ex:∃a n c full,v=.slice a n c/\OS a n c 1 full (l.map HY)/\(∀x∈full,∃z,x=HY z)/\∀x∈ent a 28 full,w'.heap[x.1]?=some x.2/\w.heap.size<=x.1
 ext:Ext [] w w'
def YR(bk:Nat):Value := .func (.func 163) #[] #[ptr bk]
theorem Aj4{b:Nat}(w:World):Ret prog 100 #[.map (some b)] w fun v w'=>∃bk,v=YR bk/\w'.heap[bk]?=some (Bl 163 [.map (some b)])/\w.heap.size<=bk/\Ext [] w w':=by
 obtain⟨w0,rfl,H⟩:=qE w;refine A2 (fn:=f100) func100 U [.map (some b)] U (Ad (Bu _ (.map _) U U H ?_));rintro b1 w - H;refine Dg U .nilFunc U (qA (Ad (Cm [.pointer _] U (Dg U (.func _ _ _) U ?_))));refine qA (A6 (AD (v:=(.func _ _ _)) U U U ?_));exact⟨_,rfl,H.get at0,(H.own _ (qaj ..)).elim (fun h=>by cases h) id,H.ext⟩
def appJ(w0:World)(bk b bb k:Nat)(o:Obj)(vis:List (Int × Value))(M:Mt)(w:World):Prop :=
 ∃a c full,(M=fun y=>y∈((bb,Bl 48 [.slice a vis.length c])::ent a 28 full).map (·.1))/\Ctx w0 [] w ((bb,Bl 48 [.slice a vis.length c])::ent a 28 full) /\
  OS a vis.length c 1 full (vis.map fun p=>HY p.1)/\(∀x∈full,∃z,x=HY z)/\DueK bk b o w/\∀y∈((bb,Bl 48 [.slice a vis.length c])::ent a 28 full).map (·.1),y≠k/\y≠k+1
theorem Aas{bk b:Nat}{o:Obj}{m:List (Int × Value)}(hM:Ds .u64 m o)(hm:m.length<=1000000)(w:World)(K:DueK bk b o w) :
  Ret prog 203 #[.slice none 0 0,YR bk] w fun v w'=>∃vis:List (Int × Value),vis.Perm m/\FreshU w w' v (vis.map (·.1)):=by
 obtain⟨w0,rfl,H⟩:=qE w;have lk:=Bf K.h2;have lb:=Bf K.hb;refine Iv (fn:=f203) func203 U [.slice none 0 0,.func (.func 163) #[] #[.pointer (some ⟨bk,0,none⟩)]] U ?_;refine Ad (Bu _ (.slice _ _ _) U U H ?_);rintro b2 w - H;refine Az U (qA (Ap (Ad (De U (.func _ _ _) U ?_))));refine qA (Ax ?_);obtain⟨ws,rfl⟩:=qD w;have hb2:=(H.own _ (qaj ..)).elim (fun h=>by cases h) id;have l2:=H.lt at0;have hsz:=H.size;dsimp only at hb2;have K2:DueK bk b o ws:=⟨H.ext.to K.h2 (by simp),H.ext.to K.hb (by simp)⟩
 refine Acx (gf:=163) U qB (Afk (b2:=bk) (b:=b) hM) (by kernel_rfl) (by kernel_rfl) (fun vis v vis' h=>by obtain⟨p,-,rfl,-⟩:=h;rfl)
  (appJ w0 bk b b2 ws.heap.size o) (fun _=>False) (by simp) (fun _ _=>True.intro)
  (fun w2 hx2 _=>⟨_,none,0,[],rfl,H.call hx2,OS.nil,by simp,⟨hx2.to K2.h2 (by simp),hx2.to K2.hb (by simp)⟩,by simp[ent];omega⟩)
  (fun vis M w' w'' T hJ hT hx=>?_) (fun _ _ h _=>h) (fun vis M w' hJ=>?_) ?_ ?_ (fun _ h _=>h.elim)
 .obtain⟨a,c,full,hMM,HJ,O,Z,KJ,hne⟩:=hJ;refine⟨a,c,full,hMM,HJ.step hx (fun y hy hy2=>(hT _ hy2).1 (by rw[hMM];exact qa8 (f:=(·.1)) hy)) (fun x hx => .inr (by have:=(hT x hx).2;omega)),O,Z,⟨hx.to KJ.h2 (fun h=>by have:=(hT _ h).2;omega),hx.to KJ.hb (fun h=>by have:=(hT _ h).2;omega)⟩,hne⟩
 .obtain⟨a,c,full,hMM,HJ,O,Z,KJ,hne⟩:=hJ;refine⟨fun x hx=>?_,KJ⟩;rw[hMM]at hx;obtain⟨y,hy,rfl⟩:=qah.1 hx;exact⟨Bf (HJ.blk y hy),hne _ hx⟩
 .rintro vis v vis' M w ⟨p,rfl,rfl,hpm,hvl⟩ ⟨a,c,full,rfl,HJ,O,Z,KJ,hne⟩ hsz2;obtain⟨w1,rfl⟩:=qD w;refine Ay (Af U (Ab ?_));refine⟨Ext.refl _ _,fun wB hxB=>?_⟩;have HB:=HJ.step hxB (fun y hy h=>(hne _ (qa8 (f:=(·.1)) hy)).2 (qab.1 h)) (fun z hz => .inr (by rw[qab.1 hz];omega));have KB:DueK bk b o wB:=⟨hxB.to KJ.h2 (by rw[qab];omega),hxB.to KJ.hb (by rw[qab];omega)⟩
  have hown:∀y∈((b2,Bl 48 [.slice a vis.length c])::ent a 28 full).map (·.1),w0.heap.size<=y:=fun y hy=>by
   obtain⟨z,hz,rfl⟩:=qah.1 hy;exact(HJ.own z hz).elim (fun h=>by cases h) id
  have hsB:=hxB.size;obtain⟨w2,rfl⟩:=qD wB;rw[<-qa4 ((b2,Bl 48 [.slice a vis.length c])::ent a 28 full)]at HB;have H:=Ctx.lend (L1:=(b2,Bl 48 [.slice a vis.length c])::ent a 28 full) (L2:=[]) HB;obtain⟨SS,hSS⟩:=qD (((b2,Bl 48 [.slice a vis.length c])::ent a 28 full).map (·.1));rw[<-hSS]at H;refine Ax (Ay (AG KA U H at0 U (Ae U (Cs _ (.int _ _) BA Bx Qy U U U U H ?_))));rintro b10 w - H;refine Vl (L:=[_]) U BA BA Bx Yz Qy U U U H O U (by simp[AS]) ?_;rintro a' c' full' w H O Z2;refine Cz (.slice _ _ _) Amb U U U H at0 (by(simp;done)) ?_;rintro w H;refine Ab (A7 ?_);have hl:(vis++[p]).length=vis.length+1:=by rw[qat];rfl
  rw[hSS]at H;have HE:=H.ext;refine⟨_,⟨a',c',full',rfl,by rw[hl,<-qa4 (_::ent a' _ full')];exact Ctx.back HB H,by rw[hl,qax];exact O,fun x hx=>?_,⟨HE.to KB.h2 fun h=>by have:=hown _ h;omega,HE.to KB.hb fun h=>by have:=hown _ h;omega⟩,fun y hy=>?_⟩,fun y hy=>?_,_,HE,fun y hy => .inl hy⟩
  .rcases Z2 x hx with h|h|h
   .exact Z x h
   .exact⟨_,qab.1 h⟩
   .exact⟨_,qab.1 h⟩
  .rw[hl]at hy;obtain⟨z,hz,rfl⟩:=qah.1 hy
   rcases H.own z hz with h|h
   .exact hne _ h
   .omega
  .rw[hl]at hy;obtain⟨z,hz,rfl⟩:=qah.1 hy;exact(H.own z hz).imp id fun h=>by omega
 .rintro vis M w hp ⟨a,c,full,rfl,HJ,O,Z,KJ,hne⟩ hD;have H:=HJ;refine A7 (Aa (Ad (AG KA U H at0 U (Az U (qA (A6 (MT (v:=(.slice _ _ _)) U U (Iw hD U fun wF hxF=>?_))))))));have HF:=H.step hxF (fun y hy h=>(hne _ (qa8 (f:=(·.1)) hy)).1 (qab.1 h)) (fun z hz => .inr (by rw[qab.1 hz];omega));refine⟨vis,hp,⟨a,vis.length,c,full,rfl,by rw[qb8];exact O,Z,fun x hx=>⟨HF.blk x (qai _ hx),(HF.own x (qai _ hx)).elim (fun h=>by cases h) id⟩⟩,HF.ext⟩
theorem X9{bk b:Nat}{o:Obj}{m:List (Int × Value)}(hM:Ds .u64 m o)(hm:m.length<=1000000)(w:World)(K:DueK bk b o w) :
  Ret prog 161 #[YR bk] w fun v w'=>∃vis:List (Int × Value),vis.Perm m/\FreshU w w' v (vis.map (·.1)):=by
 obtain⟨w0,rfl⟩:=qD w;refine A2 (fn:=f161) func161 U [.func (.func 163) #[] #[.pointer (some ⟨bk,0,none⟩)]] U ?_;refine Ad (Az U (qA (Ad (De U (.func _ _ _) U ?_))));refine Am qB (Aas hM hm _ K) U ?_;rintro v w ⟨vis,hp,F⟩;obtain⟨a,n,c,full,rfl,O,Z,hb⟩:=F.ex;refine Az U (qA (A6 (AD (v:=(.slice _ _ _)) U U U ?_)));exact⟨vis,hp,F⟩
theorem Afl{x y:Int}(h:HY x=HY y):x=y:=by unfold HY at h;injection h
theorem YS:∀(l:List Value),(∀x∈l,∃z,x=HY z)->∃zs:List Int,l=zs.map HY
 | [],_=>⟨[],rfl⟩
 |x::l,h=>by
  obtain⟨z,rfl⟩:=h x (qaj ..);obtain⟨zs,rfl⟩:=YS l fun y hy=>h y (qai _ hy);exact⟨z::zs,rfl⟩
theorem Tl:∀{l m:List Int},l.map HY=m.map HY->l=m
 | [],[],_=>rfl
 | [],_::_,h=>by cases h
 |_::_,[],h=>by cases h
 |x::l,y::m,h=>by
  simp only[qau,qcu]at h;rw[Afl h.1,Tl h.2]
theorem QI(f:Nat->Int)(n:Nat):CZ f n=(tab f n).map HY:=by unfold tab;rw[qb8];rfl
theorem VA(f:Nat->Int){n m:Nat}(h:n<=m):(tab f m).take n=tab f n:=by
 unfold tab;rw[<-List.map_take,List.take_range,qce h]
theorem Aqe{g:Nat->Int}{n:Nat}(h:KH g 0 n):(tab g n).Pairwise (·<=·):=by
 rw[qec];intro i j hi hj hij;rw[CY]at hi hj;have h1:=Cd (f:=g) hi;have h2:=Cd (f:=g) hj;rw[qbq (by rw[CY];exact hi)]at h1;rw[qbq (by rw[CY];exact hj)]at h2
 injection h1 with h1
 injection h2 with h2
 rw[h1,h2];exact h i j (qaf _) hij hj
theorem sortF{a:Option Addr}{n c:Nat}{full:List Value}{l:List Int}(w:World)(O:OS a n c 1 full (l.map HY))(Z:∀x∈full,∃z,x=HY z)(hb:∀x∈ent a 28 full,w.heap[x.1]?=some x.2)(hn:n<=1000000000) :
  Ret prog 162 #[.slice a n c] w fun v w'=>v=.tuple #[]/\∃(full':List Value) (l':List Int),l'.Perm l/\l'.Pairwise (·<=·)/\OS a n c 1 full' (l'.map HY)/\(∀x∈full',∃z,x=HY z)/\(∀x∈ent a 28 full',w'.heap[x.1]?=some x.2)/\Ext ((ent a 28 full).map (·.1)) w w':=by
 cases a with
 |none =>
  obtain rfl:n=0:=by have:=O.none' rfl;have:=O.le;omega
  have hl:l=[]:=by have:=O.llen;rw[qak]at this;exact qb5 (by omega)
  subst hl;refine Ret.mono (X7 c w) ?_;rintro v w' ⟨rfl,rfl⟩;exact⟨rfl,full,[],List.Perm.refl _,.nil,O,Z,hb,Ext.refl _ _⟩
 |some p =>
  have hp:=O.zero p rfl;obtain⟨q,o,sp⟩:=p;simp only[Addr.mk.injEq,true_and]at hp;obtain⟨rfl,rfl⟩:=hp;obtain⟨zs,rfl⟩:=YS full Z;have hlen:=O.len;rw[qak,qcl]at hlen;have hpre:=O.pre;rw[qcl,<-List.map_take]at hpre;have hpre:=Tl hpre;have hzs:tab (fun i=>zs.getD i 0) c=zs:=by rw[<-hlen];exact Ap7 zs
  have hb0:w.heap[q]?=some (Bl 28 (CZ (fun i=>zs.getD i 0) c)):=by
   rw[QI,hzs];exact hb (q,Bl 28 (zs.map HY)) (qab.2 U)
  refine Ret.mono (Afi (c:=c) hb0 O.le hn) ?_;rintro v w' ⟨rfl,g,hP,hS,H⟩;have hS0:((ent (some ⟨q,0,none⟩) 28 (zs.map HY)).map (·.1))=[q]:=by simp[ent]
  refine⟨rfl,CZ g c,tab g n,?_,Aqe hS,⟨O.zero,O.none',by simp,O.le,?_⟩,fun x hx=>?_,fun x hx=>?_,by rw[hS0];exact H.ext⟩
  .rw[<-VA (fun i=>zs.getD i 0) O.le,hzs,hpre]at hP;exact hP
  .rw[qcl,QI,<-List.map_take,VA g O.le]
  .rw[QI,qah]at hx;obtain⟨z,_,rfl⟩:=hx;exact⟨z,rfl⟩
  .simp only[ent,qab]at hx;subst hx;exact H.get at0
theorem Aat{bk b:Nat}{o:Obj}{m:List (Int × Value)}(hM:Ds .u64 m o)(w:World)(K:DueK bk b o w)(hm:m.length<=1000000:=by omega):
  Ret prog 99 #[YR bk] w fun v w'=>∃l:List Int,l.Perm (m.map (·.1))/\l.Pairwise (·<=·)/\FreshU w w' v l:=by
 obtain⟨w0,rfl⟩:=qD w;refine A2 (fn:=f99) func99 U [.func (.func 163) #[] #[.pointer (some ⟨bk,0,none⟩)]] U ?_;refine Ad (Az U (qA (Ad (De U (.func _ _ _) U ?_))));refine Am qB (X9 hM hm _ K) U ?_;rintro v w ⟨vis,hp,F⟩;obtain⟨a,n,c,full,rfl,O,Z,hb⟩:=F.ex;have hx5:=F.ext;have hvn:=O.llen;have hvm:=hp.length_eq;rw[qak,qak]at hvn;refine Az U (qA (Ad (Ao U (Am qB (sortF _ O Z (fun x hx=>(hb x hx).1) (by omega)) U ?_))));rintro v w ⟨rfl,full',l',hP,hS,O',Z',hb',hx7⟩;refine qA (Ad (Ao U (Az U (qA (A6 (AD (v:=(.slice _ _ _)) U U U ?_))))));refine⟨l',hP.trans (hp.map _),hS,⟨_,_,_,_,rfl,O',Z',fun x hx=>⟨hb' x hx,?_⟩⟩,hx5.then hx7 fun x hx=>?_⟩
 .cases a with
  |none=>simp[ent]at hx
  |some p =>
   simp only[ent,qab]at hx;subst hx;exact(hb (p.block,Bl 28 full) (by simp[ent])).2
 .obtain⟨y,hy,rfl⟩:=qah.1 hx;exact .inr (hb y hy).2
structure Du where
 id:Int
 fr:Int
 to:Int
 am:Int
 we:Int
 un:Int
 held:Bool
instance:DecidableEq Du:=fun x y=>if h:x.id=y.id/\x.fr=y.fr/\x.to=y.to/\x.am=y.am/\x.we=y.we/\x.un=y.un/\x.held=y.held then isTrue (by cases x;cases y;simp_all)else isFalse fun e=>h (by subst e;exact⟨rfl,rfl,rfl,rfl,rfl,rfl,rfl⟩)
abbrev CM(d:Du):List Value:=[.int .u64 d.id,.int .i64 d.fr,.int .i64 d.to,.int .i64 d.am,.int .i64 d.we,.int .i64 d.un,.bool d.held]
abbrev G0(d:Du):Value := .agg #[.int .u64 d.id,.int .i64 d.fr,.int .i64 d.to,.int .i64 d.am,.int .i64 d.we,.int .i64 d.un,.bool d.held]
theorem Dt(d:Du):∀v∈CM d,AS v=true:=by simp[CM,AS]
def dm(ds:List Du):List (Int × Value):=ds.map fun d=>(d.id,G0 d)
theorem Aqf{ds:List Du}{p:Int × Value}(h:p∈dm ds):∃d∈ds,p=(d.id,G0 d):=by
 obtain⟨d,hd,rfl⟩:=qah.1 h;exact⟨d,hd,rfl⟩
def amV(p:Int × Value):Int:=match p.2 with
 | .agg vs=>match vs.toList with | [_,_,_,.int _ x,_,_,_]=>x|_=>0
 |_=>0
theorem Aqg(ds:List Du):(dm ds).map amV=ds.map (·.am):=by unfold dm;rw[qb8];rfl
abbrev DU(b:Nat)(nx:Int):List Value:=[.map (some b),.int .u64 nx]
structure VSt where
 vis:List (Int × Value)
 it:Obj
 a:Option Addr
 c:Nat
 full:List Value
theorem amounts_ok{bd b:Nat}{nx:Int}{o:Obj}{ds:List Du}(w:World)(hd:w.heap[bd]?=some (Bl 165 (DU b nx)))(hb:w.heap[b]?=some o)(hM:Ds .u64 (dm ds) o)(hn:ds.length<=1000000) :
  Ret prog 134 #[ptr bd] w fun v w'=>∃l:List Int,l.Perm (ds.map (·.am))/\Fresh w w' 2 1 v (l.map CQ):=by
 obtain⟨w0,rfl,H⟩:=qE w;have hdl:(dm ds).length=ds.length:=by unfold dm;rw[qak]
 refine A2 (fn:=f134) func134 U [.pointer (some ⟨bd,0,none⟩)] U ?_;refine Ad (Az U (qA (Ad (Az U (qA (Ap (Ad (A9 U (AP U ?_)))))))));refine Ah Et U (Ba FU U ((by rw[An hd];rfl)) ?_);refine Vg U Gl U H hb hM ?_;rintro bi it w hV H;refine qA (Ax (Bn 1046568 (α:=VSt) (fun t=>[(3,.slice t.a t.vis.length t.c)]) (fun t w'=>VisO .u64 b (dm ds) t.vis o t.it/\OS t.a t.vis.length t.c 1 t.full ((t.vis.map amV).map CQ)/\Ctx w0 [] w' ((bi,t.it)::ent t.a 2 t.full)) (fun t=>(dm ds).length - t.vis.length) ⟨[],it,none,0,[]⟩ U ?_ ?_ ?_))
 .exact⟨rfl,trivial⟩
 .exact⟨hV,OS.nil,H⟩
 .rintro⟨vis,it,a,c,full⟩ j w ⟨hV,O,H⟩;dsimp only at hV O H;dsimp only;refine Ad (Yx U (fun _=>rfl) U H (H.ext.to hb (by simp)) at0 hV ?_);rintro vs more it' w hc H1;clear H;have H:Ctx w0 [] w ((bi,it')::ent a 2 full):=H1;clear H1
  skip
  refine qA (Ap (Av _ U ?_ ?_))
  .intro h1;obtain⟨p,hV'⟩:∃p,VisO .u64 b (dm ds) (vis++[p]) o it':=hc.elim (fun h=>by rw[h.1]at h1;cases h1) fun h=>h.2;obtain⟨d,hd2,rfl⟩:=Aqf (hV'.mem p (by simp));have hle:=hV'.le;rw[hdl]at hle;have hl1:(vis++[(d.id,G0 d)]).length=vis.length+1:=by rw[qat];rfl
   rw[hl1]at hle;refine Aq (Aa (Ax (Ad (ZS U U H (H.ext.to hb (by simp)) at0 hV' ?_))));refine AF U U (AX DR H ?_);rintro b5 w - H;refine Bi BC U U U (by exact Dt _) H at0 U ?_;rintro w H;refine qA (Ay (Ao U (Ah Dl U (AG Bm U H at0 U (Cs _ (.int _ _) AR Bt Eh U U U U H ?_)))));rintro b18 w - H;refine C3 (L:=[_,_]) AR AR Bt J9 Eh U U U H O U (by simp[AS]) ?_;rintro a' c' full' w H O;refine Az U (Ab (A7 (Aa ?_)));exact⟨⟨vis++[(d.id,G0 d)],it',a',c',full'⟩,rfl,⟨by dsimp only;rw[hl1];rfl,trivial⟩,⟨hV',by dsimp only;rw[hl1,qax,qax];exact O,H.tail⟩,by dsimp only;rw[hl1,hdl];omega⟩
  .intro h1;obtain⟨hp,rfl⟩:vis.Perm (dm ds)/\it'=it:=hc.elim (fun h=>h.2) fun h=>by rw[h.1]at h1;cases h1
   refine Be (Aj (Aj (AH (Aa (Ad (Ao U (Az U (qA (A6 (AD (v:=(.slice _ _ _)) U U U ?_))))))))));refine⟨vis.map amV,?_,Ctx.fresh (L:=[_]) H O⟩;rw[<-Aqg];exact hp.map _
def d00:Du:=⟨0,0,0,0,0,0,false⟩
def KD(ds:List Du)(k:Int):Du:=(ds.find? fun d=>d.id == k).getD d00
theorem Od{d:Du}:∀{ds:List Du},(ds.map (·.id)).Nodup->d∈ds->KD ds d.id=d
 |x::ds,hn,h=>by
  simp only[qau,qd6]at hn;unfold KD
  by_cases e:x.id=d.id
  .rcases qag.1 h with rfl|h
   .simp
   .exact absurd (qa8 (f:=(·.id)) h) (by rw[<-e];exact hn.1)
  .rcases qag.1 h with rfl|h
   .exact absurd U e
   .have:=Od hn.2 h;unfold KD at this;rw[qch,show(x.id == d.id)=false by simpa using e];exact this
theorem Afm{ds:List Du}(hn:(ds.map (·.id)).Nodup):(ds.map (·.id)).map (KD ds)=ds:=by
 rw[qb8];have:ds.map (KD ds ∘ (·.id))=ds.map id:=qbi fun d hd=>Od hn hd;rw[this,List.map_id]
theorem YT{d:Du}:∀{ds:List Du},(ds.map (·.id)).Nodup->d∈ds->Eg (dm ds) d.id=some (G0 d)
 |x::ds,hn,h=>by
  simp only[qau,qd6]at hn;unfold dm Eg;rw[qau,qch]
  by_cases e:x.id=d.id
  .rcases qag.1 h with rfl|h
   .simp
   .exact absurd (qa8 (f:=(·.id)) h) (by rw[<-e];exact hn.1)
  .rcases qag.1 h with rfl|h
   .exact absurd U e
   .have:=YT hn.2 h;unfold dm Eg at this;rw[show(x.id == d.id)=false by simpa using e];exact this
def Afn(ds' ds:List Du):Prop:=ds'.Perm ds/\(ds'.map (·.id)).Pairwise (·<·)
theorem Aau{ds:List Du}{l:List Int}(hn:(ds.map (·.id)).Nodup)(hp:l.Perm ((dm ds).map (·.1)))(hs:l.Pairwise (·<=·)):Afn (l.map (KD ds)) ds/\(l.map (KD ds)).map (·.id)=l:=by
 have h1:(dm ds).map (·.1)=ds.map (·.id):=by unfold dm;rw[qb8];rfl
 rw[h1]at hp
 have h2:(l.map (KD ds)).map (·.id)=l:=by
  rw[qb8]
  have:l.map ((·.id) ∘ KD ds)=l.map id:=qbi fun k hk=>by
   obtain⟨d,hd,rfl⟩:=qah.1 (hp.mem_iff.1 hk);show(KD ds d.id).id=d.id;rw[Od hn hd]
  rw[this,List.map_id]
 refine⟨⟨?_,?_⟩,h2⟩
 .have:=hp.map (KD ds)
  rwa [Afm hn]at this
 .rw[h2];have hnd:=hp.nodup_iff.2 hn;exact(hs.and (qd3.1 hnd)).imp fun h=>by omega
theorem Aav{ds:List Du}{i:Nat}{d:Du}(h:ds[i]?=some d):(ds.take (i+1)).flatMap CM=(ds.take i).flatMap CM++CM d:=by
 rw[qbt,h,qb1];simp
theorem Nl{bd b:Nat}{nx:Int}{o:Obj}{ds:List Du}(w:World)(hd:w.heap[bd]?=some (Bl 165 (DU b nx)))(hb:w.heap[b]?=some o)(hM:Ds .u64 (dm ds) o)(hnd:(ds.map (·.id)).Nodup)(hn:ds.length<=1000000:=by omega):
  Ret prog 50 #[ptr bd] w fun v w'=>∃ds':List Du,Afn ds' ds/\Fresh w w' 67 7 v (ds'.flatMap CM):=by
 obtain⟨w0,rfl,H⟩:=qE w;have hdl:(dm ds).length=ds.length:=by unfold dm;rw[qak]
 refine A2 (fn:=f50) func50 U [.pointer (some ⟨bd,0,none⟩)] U ?_;refine Ad (Az U (qA (Ap (Ad (A9 U (C7 Ju U ?_))))));refine qA (Av _ U ?_ ?_)
 .intro h0;cases h0
 .intro h0;refine Aq (Aa (Ad (Az U (qA (Ap (Ad (A9 U (AP U (Ah Et U (Ba FU U ((by rw[An hd];rfl)) ?_))))))))));refine Am qB (Aj4 (b:=b) _) U ?_;rintro v w ⟨bk,rfl,hbk,-,hx12⟩;replace H:=H.call hx12;refine Am qB (Aat hM _ ⟨hbk,H.ext.to hb (by simp)⟩) U ?_;rintro v w ⟨l,hlp,hls,F⟩;obtain⟨ak,nk,ck,fk,rfl,OK,ZK,hbl⟩:=F.ex;replace H:=H.call F.ext;refine AU BA U (Ae U (qA (Ax ?_)));obtain⟨w1,rfl⟩:=qD w;have H0:=H.ext;replace H:=Ctx.start w1 [];have R:Rd w1 ak 1 (fun x=>[HY x]) l:=OK.rd1 fun x hx=>(hbl x hx).1;have hd1:=H0.to hd (by simp);have hb1:=H0.to hb (by simp);obtain⟨hSD,hid⟩:=Aau hnd hlp hls;obtain⟨ds',hds'⟩:∃ds',ds'=l.map (KD ds):=⟨_,rfl⟩;rw[<-hds']at hSD hid;have hlen:ds'.length=l.length:=by rw[hds',qak]
  have hll:l.length=nk:=by have:=OK.llen;rw[qak]at this;omega
  have hle:l.length=ds.length:=by have:=hlp.length_eq;rw[qak]at this;omega
  subst hll;refine Bn 536838184 (α:=LSt) (fun t=>[(3,.slice t.a t.i t.c),(15,.int .i64 (t.i:Int))]) (fun t w'=>t.i<=l.length/\OS t.a t.i t.c 7 t.full ((ds'.take t.i).flatMap CM)/\Ctx w1 [] w' (ent t.a 67 t.full)) (fun t=>l.length - t.i) ⟨0,none,0,[]⟩ U ?_ ?_ ?_
  .exact⟨rfl,rfl,trivial⟩
  .exact⟨qaf _,OS.nil,H⟩
  .rintro⟨i,a,c,full⟩ j w ⟨hi,O,H⟩;dsimp only at hi O H;dsimp only;refine Ad (AZ U U (qA (Ap (Av _ U ?_ ?_))))
   .intro h1;replace h1:=AJ h1;obtain⟨k,hk⟩:=AB (l:=l) (i:=i);obtain⟨d,hdi⟩:=AB (l:=ds') (i:=i)
    have hkd:k=d.id:=by
     have h7:(ds'.map (·.id))[i]?=some d.id:=by rw[qa1,hdi];rfl
     rw[hid,hk]at h7;injection h7
    subst hkd;have hmg:=YT hnd (hSD.1.mem_iff.1 (qac hdi));refine Aq (Aa (Ap (Ax (Ad (AM R BA Bx U U (by rfl) ?_)))));refine Ba BL U (((R.ext0 H.ext).fld hk U (j:=0) U)) (Af U (qA (Ay (Ao U (A9 U (AP U (Ah Et U (Ba FU U ((H.old0 (by rw[An hd1];rfl))) ?_))))))));refine Ae U (WT U Gl FD Qz U U (H.ext.to hb1 (by simp)) hM ?_);rw[hmg];rw[qdq];refine Cs _ (.agg _) BT BC DR U U U U H ?_;rintro b26 w - H;refine C3 (L:=[]) BT BT BC Y0 DR U U U H O U (by simp[AS]) ?_;rintro a' c' full' w H O;refine Az U (Ab (A7 (Aa (Ay (Aw U U ?_)))));refine Ae U (qA ?_);exact⟨⟨i+1,a',c',full'⟩,rfl,⟨rfl,rfl,trivial⟩,⟨by dsimp only;omega,by dsimp only;rw[Aav hdi];exact O,H⟩,by dsimp only;omega⟩
   .intro h1;replace h1:=AK h1;refine Be (Aj (Aj (AH (Aa (Ad (Ao U (Az U (qA (A6 (AD (v:=(.slice _ _ _)) U U U ?_))))))))));obtain rfl:i=l.length:=by omega
    have FF:=Ctx.fresh (L:=[]) H O;rw[show ds'.take l.length=ds' by rw[<-hlen,qbf]]at FF;obtain⟨⟨a2,n2,c2,f2,e1,e2,e3⟩,e4⟩:=FF;exact⟨ds',hSD,⟨a2,n2,c2,f2,e1,e2,fun x hx=>⟨(e3 x hx).1,qbe H0.size (e3 x hx).2⟩⟩,H0.trans e4⟩
def E5(x:Int):Bool:=decide (0<=x) && decide (x<16)
theorem VB(x:Int)(w:World):Ret prog 192 #[.int .i64 x] w fun v w'=>v=.bool (E5 x)/\w=w':=by
 obtain⟨w0,rfl⟩:=qD w;refine A2 (fn:=f192) func192 U [.int .i64 x] U (Ad (Ai U (qA (Ad (Ae U (Cq U U (Au U (AE 5 U ?_ ?_))))))))
 .intro h1;replace h1:=AJ h1;refine Ae U (AZ U U (A8 U (.bool _) U (Ai U (qA (A6 (AD (v:=(.bool _)) U U U ?_))))));exact⟨qaa Value.bool (by unfold E5;rw[qad];simp_all;try omega),rfl⟩
 .intro h2;replace h2:=AK h2;refine Ag U (Ag U (AA U (.bool _) U (Ai U (qA (A6 (AD (v:=(.bool _)) U U U ?_))))));exact⟨qaa Value.bool (by unfold E5;rw[qad];simp_all;try omega),rfl⟩
def mayD(d:Du):Bool:=(E5 d.fr && (E5 d.to && !decide (d.fr=d.to))) && (decide (1<=d.am) && (Db d.am && (decide (1<=d.we) && (decide (d.we<=1000) && decide (0<=d.un)))))
theorem YU(d:Du)(w:World):Ret prog 133 #[G0 d] w fun v w'=>v=.bool (mayD d)/\Ext [] w w':=by
 obtain⟨w0,rfl,H⟩:=qE w;refine A2 (fn:=f133) func133 U [G0 d] U (Ad (Bu (CM d) (.agg _) U U H ?_));rintro b1 w - H;refine Ai U (qA (Ap (Ax (Ap (Ad (Ah Dk U (AG B6 U H at0 U (Am qB (VB d.fr _) U ?_))))))));rintro v w ⟨rfl,rfl⟩;refine B1 U (Ai U (qA (Dc 3 U ?_ ?_)))
 .intro h1;replace h1:=Bv h1;refine Aq (Aa (D4 U (Ad (Ai U (qA (A6 (A5 (Al (AD (v:=(.bool _)) U U U ?_)))))))));exact⟨qaa Value.bool (by unfold mayD;rw[qad];simp_all;try omega),H.ext⟩
 .intro h2;replace h2:=Bw h2;refine Ad (Ah D7 U (AG B6 U H at0 U (Am qB (VB d.to _) U ?_)));rintro v w ⟨rfl,rfl⟩;refine B1 U (Ai U (qA (Dc 3 U ?_ ?_)))
  .intro h3;replace h3:=Bv h3;refine Aq (Aa (D4 U (Ad (Ai U (qA (A6 (A5 (Al (AD (v:=(.bool _)) U U U ?_)))))))));exact⟨qaa Value.bool (by unfold mayD;rw[qad];simp_all;try omega),H.ext⟩
  .intro h4;replace h4:=Bw h4;refine Ay (Ah Dk U (AG B6 U H at0 U (Ah D7 U (AG B6 U H at0 U (Cj U U (Ai U (qA (Dc 3 U ?_ ?_))))))))
   .intro h5;replace h5:=AJ h5;refine Ad (Ai U (qA (A6 (A5 (Al (AD (v:=(.bool _)) U U U ?_))))));exact⟨qaa Value.bool (by unfold mayD;rw[qad];simp_all;try omega),H.ext⟩
   .intro h6;replace h6:=AK h6;refine Ap (Ad (Ah Dl U (AG Bm U H at0 U (AZ U U (Ai U (qA (Dc 17 U ?_ ?_)))))))
    .intro h7;replace h7:=AJ h7;refine Aq (Aa (D4 U (Ad (Ai U (qA (A6 (A5 (Al (AD (v:=(.bool _)) U U U ?_)))))))));exact⟨qaa Value.bool (by unfold mayD;rw[qad];simp_all;try omega),H.ext⟩
    .intro h8;replace h8:=AK h8;refine Ad (Ah Dl U (AG Bm U H at0 U (Am qB (Ks d.am _) U ?_)));rintro v w ⟨rfl,rfl⟩;refine B1 U (Ai U (qA (Dc 17 U ?_ ?_)))
     .intro h9;replace h9:=Bv h9;refine Aq (Aa (D4 U (Ad (Ai U (qA (A6 (A5 (Al (AD (v:=(.bool _)) U U U ?_)))))))));exact⟨qaa Value.bool (by unfold mayD;rw[qad];simp_all;try omega),H.ext⟩
     .intro h10;replace h10:=Bw h10;refine Ad (Ah Hs U (AG Bm U H at0 U (AZ U U (Ai U (qA (Dc 17 U ?_ ?_))))))
      .intro h11;replace h11:=AJ h11;refine Aq (Aa (D4 U (Ad (Ai U (qA (A6 (A5 (Al (AD (v:=(.bool _)) U U U ?_)))))))));exact⟨qaa Value.bool (by unfold mayD;rw[qad];simp_all;try omega),H.ext⟩
      .intro h12;replace h12:=AK h12;refine Ad (Ah Hs U (AG Bm U H at0 U (Cp U U (Ai U (qA (Dc 17 U ?_ ?_))))))
       .intro h13;replace h13:=AJ h13;refine Aq (Aa (D4 U (Ad (Ai U (qA (A6 (A5 (Al (AD (v:=(.bool _)) U U U ?_)))))))));exact⟨qaa Value.bool (by unfold mayD;rw[qad];simp_all;try omega),H.ext⟩
       .intro h14;replace h14:=AK h14;refine Ay (Ah Nc U (AG Bm U H at0 U (AZ U U (Ai U (qA (Dc 17 U ?_ ?_))))))
        .intro h15;replace h15:=AJ h15;refine Ad (Ai U (qA (A6 (A5 (Al (AD (v:=(.bool _)) U U U ?_))))));exact⟨qaa Value.bool (by unfold mayD;rw[qad];simp_all;try omega),H.ext⟩
        .intro h16;replace h16:=AK h16;refine Aq (A7 (Aa (Ad (Ai U (qA (A6 (AD (v:=(.bool _)) U U U ?_)))))));exact⟨qaa Value.bool (by unfold mayD;rw[qad];simp_all;try omega),H.ext⟩
def Gu(nx:Int):Int->List Du->Bool
 |_,[]=>true
 |ah,d::ds=>(mayD d && (decide (ah<d.id) && decide (d.id<nx))) && Gu nx d.id ds
def Ls(ah:Int):List Du->Int
 | []=>ah
 |d::ds=>Ls d.id ds
theorem Lt(nx:Int):∀(ah:Int) (ds es:List Du),Gu nx ah (ds++es)=(Gu nx ah ds && Gu nx (Ls ah ds) es)
 |_,[],_=>rfl
 |ah,d::ds,es=>by simp only[qcm,Gu,Ls,Lt nx d.id ds es,qdd]
theorem RY(ah:Int)(ds:List Du)(d:Du):Ls ah (ds++[d])=d.id:=by
 induction ds generalizing ah with
 |nil=>rfl
 |cons x ds ih=>exact ih x.id
theorem Kt{nx:Int}:∀{ah:Int} {ds:List Du},Gu nx ah ds=true->(∀d∈ds,ah<d.id/\d.id<=Ls ah ds/\d.id<nx/\mayD d=true)/\(ds.map (·.id)).Pairwise (·<·)/\ah<=Ls ah ds
 |_,[],_=>⟨fun _ h=>(by cases h),List.Pairwise.nil,qav _⟩
 |ah,x::ds,h=>by
  simp only[Gu,qae,qam]at h;obtain⟨⟨hm,h1,h2⟩,h3⟩:=h;obtain⟨i1,i2,i3⟩:=Kt h3;refine⟨fun d hd=>?_,?_,?_⟩
  .rcases qag.1 hd with rfl|hd
   .exact⟨h1,i3,h2,hm⟩
   .obtain⟨a,b,c,e⟩:=i1 d hd;exact⟨by omega,b,c,e⟩
  .rw[qau,qbb];refine⟨fun k hk=>?_,i2⟩;obtain⟨d,hd,rfl⟩:=qah.1 hk;exact(i1 d hd).1
  .show ah<=Ls x.id ds;omega
def ofC(ds:List Du)(nx:Int):Int :=
 if 64<ds.length then 6 else if(decide (1<=nx) && decide (nx<=4611686018427387904))=false then 1 else if Gu nx 0 ds=false then 1 else(EN (ds.map (·.am))).2
theorem Tm{xs ys:List Int}(h:xs.Perm ys):EN xs=EN ys:=by
 have h1:xs.all Db=ys.all Db:=by
  rw[qad,qas,qas];exact⟨fun g x hx=>g x (h.mem_iff.2 hx),fun g x hx=>g x (h.mem_iff.1 hx)⟩
 unfold EN;rw[h1,Aaq h]
theorem Tn{ds:List Du}{k:Int}(h:∀d∈ds,d.id≠k):Eg (dm ds) k=none:=by
 induction ds with
 |nil=>rfl
 |cons x ds ih =>
  unfold dm Eg at ih |-;rw[qau,qch,show(x.id == k)=false by simpa using h x (qaj ..)];exact ih fun d hd=>h d (qai _ hd)
theorem Afo(ds:List Du)(d:Du):dm ds++[(d.id,G0 d)]=dm (ds++[d]):=by unfold dm;rw[qax];rfl
theorem Afp{w:World}{b:Nat}{t:TypeId}{l:List Value}(h:w.heap[b]?=some (Bl t l)):∀j v,l[j]?=some v->w.cell? ⟨b,0+j,none⟩=some v:=fun j v hv=>by rw[An h,qa2];exact hv
structure OSt where
 i:Nat
 ah:Int
 o:Obj
theorem Afq(a:Option Addr)(n c:Nat)(ds:List Du)(nx:Int)(w:World)(R:Rd w a 7 CM ds)(hn:ds.length=n)(hid:∀d∈ds,0<=d.id/\d.id<18446744073709551616)(hn2:n<=1000000000:=by omega)(_:0<=nx/\nx<18446744073709551616:=by omega):
  Ret prog 79 #[.slice a n c,.int .u64 nx] w fun v w'=>∃p,v=.tuple #[p,.int .i64 (ofC ds nx)]/\(ofC ds nx≠0->p=.pointer none)/\(ofC ds nx=0->∃bd b o,p=ptr bd/\w'.heap[bd]?=some (Bl 165 (DU b nx))/\w'.heap[b]?=some o/\Ds .u64 (dm ds) o/\w.heap.size<=bd/\w.heap.size<=b/\bd≠b)/\Ext [] w w':=by
 subst hn;obtain⟨w0,rfl,H⟩:=qE w;refine A2 (fn:=f79) func79 U [.slice a ds.length c,.int .u64 nx] U (Ad (BE U (Af U (qA (Ap (Ad (Ao U (AU BT U (Cp U U (qA ?_))))))))));refine Av _ U ?_ ?_
 .intro h1;replace h1:=AJ h1;refine Ad (BE U (Af U (qA (A6 (Al (BG (v1:=(.pointer _)) (v2:=(.int _ _)) U U U U ?_))))));have h1':ofC ds nx=6:=by unfold ofC;rw[if_pos (by omega)]
  exact⟨_,by rw[h1'],fun _=>rfl,(fun h=>by omega),H.ext⟩
 .intro h1;replace h1:=AK h1;have h1':¬64<ds.length:=by omega
  refine Aq (Aa (Ap (Ad (B9 (α:=Unit) 2064384 (fun _=>[(20,.bool (!(decide (1<=nx) && decide (nx<=4611686018427387904))))]) (fun _ w'=>w'=w0) U ?_ ?_))))
  .refine Ae U (AZ U U (Au U (AE 17 U ?_ ?_)))
   .intro h1;replace h1:=AJ h1;refine Ag U (Ag U (A8 U (.bool _) U (Ab ?_)));exact⟨rfl,(),rfl,⟨qaa Value.bool (by rw[qad];simp_all;try omega),trivial⟩,rfl⟩
   .intro h2;replace h2:=AK h2;refine Ae U (Cp U U (AA U (.bool _) U (Ab ?_)));exact⟨rfl,(),rfl,⟨qaa Value.bool (by rw[qad];simp_all;try omega),trivial⟩,rfl⟩
  rintro - j20 w hw;subst w;refine Av _ U ?_ ?_
  .intro h2;replace h2:=Bv h2;refine Ad (BE U (Af U (qA (A6 (Al (BG (v1:=(.pointer _)) (v2:=(.int _ _)) U U U U ?_))))));have h2':ofC ds nx=1:=by unfold ofC;rw[if_neg h1',if_pos (by simpa using h2)]
   exact⟨_,by rw[h2'],fun _=>rfl,(fun h=>by omega),H.ext⟩
  .intro h2;replace h2:=Bw h2;have h2':(decide (1<=nx) && decide (nx<=4611686018427387904))=true:=by simpa using h2
   have h2n:¬(decide (1<=nx) && decide (nx<=4611686018427387904))=false:=by rw[h2'];decide
   refine Aq (Aa (Ad (Mx .u64 U H ?_)));rintro b o w hM H;refine Ae U (Bz (DU b nx) Ad9 Aej ?_);refine Bu (DU b nx) (.agg _) U U H ?_;rintro b24 w - H;refine BE U (qA (Ad (Af U (qA (Ap (Ad (Ao U (AU BT U (Ae U ?_)))))))));refine qA (Ax (Bn 288230376017494704 (α:=OSt) (fun t=>[(7,.int .u64 t.ah),(27,.int .i64 (t.i:Int))]) (fun t w'=>t.i<=ds.length/\t.ah=Ls 0 (ds.take t.i)/\Gu nx 0 (ds.take t.i)=true/\Ds .u64 (dm (ds.take t.i)) t.o/\Ctx w0 [] w' [(b24,Bl 165 (DU b nx)),(b,t.o)]) (fun t=>ds.length - t.i) ⟨0,0,o⟩ U ?_ ?_ ?_))
   .exact⟨rfl,rfl,trivial⟩
   .exact⟨qaf _,rfl,rfl,hM,H⟩
   .rintro⟨i,ah,o⟩ j w ⟨hi,hah,has,hM,H⟩;dsimp only at hi hah has hM H;dsimp only;refine Ad (AZ U U (qA (Ap (Av _ U ?_ ?_))))
    .intro h3;replace h3:=AJ h3;obtain⟨d,hd⟩:=AB (l:=ds) (i:=i);have hdi:=hid d (qac hd);have htk:ds.take (i+1)=ds.take i++[d]:=by rw[qbt,hd];rfl
     have hasc:Gu nx 0 (ds.take (i+1))=(mayD d && (decide (ah<d.id) && decide (d.id<nx))):=by
      rw[htk,Lt,has,qb9,<-hah];show(_ && Gu nx d.id [])=_;show(_ && true)=_;rw[qdo]
     refine Aq (Aa (Ap (Ax (Ad (AM R BT BC U U (by rfl) ?_)))));refine Ca _ EF BC U U ((R.ext0 H.ext).row hd U) (AX DR H ?_);rintro b9 w - H;refine Bi BC U U U (by exact Dt _) H at0 U ?_;rintro w H;refine qA (Ap (Ad (B9 (α:=Unit) 70366596694016 (fun _=>[(45,.bool (!(mayD d && (decide (ah<d.id) && decide (d.id<nx)))))]) (fun _ w'=>Ctx w0 [] w' [(b9,Bl 67 (CM d)),(b24,Bl 165 (DU b nx)),(b,o)]) U ?_ ?_)))
     .refine BV EF BC U H at0 U (Am qB (YU d _) U ?_);rintro v w ⟨rfl,hx32⟩;replace H:=H.call hx32;refine B1 U (Au U (AE 34 U ?_ ?_))
      .intro h3;replace h3:=Bv h3;refine Ag U (Ag U (Ag U (Ag U (A8 U (.bool _) U (Au U (Ag U (Ag U (Ag U (Ag U ?_)))))))));refine A8 U (.bool _) U (Ab ?_);exact⟨rfl,(),rfl,⟨qaa Value.bool (by clear hasc;rw[qad];simp_all;try omega),trivial⟩,H⟩
      .intro h4;replace h4:=Bw h4;refine Ah Hr U (AG BL U H at0 U (Ae U (Ib U U (AA U (.bool _) U (Au U (AE 40 U ?_ ?_))))))
       .intro h5;replace h5:=AJ h5;refine Ag U (Ag U (Ag U (Ag U (A8 U (.bool _) U (Ab ?_)))));exact⟨rfl,(),rfl,⟨qaa Value.bool (by clear hasc;rw[qad];simp_all;try omega),trivial⟩,H⟩
       .intro h6;replace h6:=AK h6;refine Ah Hr U (AG BL U H at0 U (Ae U (Cq U U (AA U (.bool _) U (Ab ?_)))));exact⟨rfl,(),rfl,⟨qaa Value.bool (by clear hasc;rw[qad];simp_all;try omega),trivial⟩,H⟩
     rintro - j45 w H;refine Av _ U ?_ ?_
     .intro h4;replace h4:=Bv h4;refine Ad (BE U (Af U (qA (A6 (Al (A5 (Al (Al (A5 (Al (BG (v1:=(.pointer _)) (v2:=(.int _ _)) U U U U ?_)))))))))))
      have h4':ofC ds nx=1:=by
       unfold ofC;rw[if_neg h1',if_neg h2n,if_pos];have h5:Gu nx 0 ds=Gu nx 0 (ds.take (i+1)++ds.drop (i+1)):=by rw[qbn]
       rw[h5,Lt,hasc,show(mayD d && (decide (ah<d.id) && decide (d.id<nx)))=false by simpa using h4];rfl
      exact⟨_,by rw[h4'],fun _=>rfl,(fun h=>by omega),H.ext⟩
     .intro h4;replace h4:=Bw h4;have h4':(mayD d && (decide (ah<d.id) && decide (d.id<nx)))=true:=by simpa using h4
      have hgt:ah<d.id:=by simp only[qae,qam]at h4';exact h4'.2.1
      have hno:Eg (dm (ds.take i)) d.id=none:=Tn fun x hx=>by
       have:=((Kt has).1 x hx).2.1;omega
      refine Aq (Aa (ET [([0,1,2,3,4,5,6,7,8],9),([10],11),([],12)] (fun z=>z.heap[b9]?=some (Bl 67 (CM d))/\z.heap[b24]?=some (Bl 165 (DU b nx))) [] Bs (⟨H.drew.get at0,H.drew.get at1⟩) ?_));refine AO U U (BZ U (Bp U (A1 Et U (B5 FU U (fun _ hx=>(by rw[An hx.2];rfl)) ?_))));refine A1 Hr U (B5 BL U (fun _ hx=>(by rw[An hx.1];rfl)) ?_);refine GX _ EF BC U U (fun _ hx=>(Afp hx.1)) (A1 Hr U (B5 BL U (fun _ hx=>(by rw[An hx.1];rfl)) ?_));refine Bb ?_;replace H:=H.drew;refine Vi U Gl FD Qz U U H at2 hM hno ?_;rintro st o1 w hE H;refine Ab (BR (⟨H.get at0,H.get at1⟩) (AO U U ?_));refine B7 U U (Bb (RS (G0 d) U U U U H at2 hE ?_));rintro o2 w hM2 H;refine Ab (BR (⟨H.get at0,H.get at1⟩) (AO U U ?_));refine Bb (Af U (Ab (BR (⟨H.get at0,H.get at1⟩) (BK (A7 (Aa (Ay (Aw U U ?_))))))));refine Ae U (qA ?_)
      exact⟨⟨i+1,d.id,o2⟩,rfl,⟨rfl,rfl,trivial⟩,⟨by dsimp only;omega,by dsimp only;rw[htk,RY],by dsimp only;rw[hasc];exact h4',by dsimp only;rw[htk,<-Afo];exact hM2,H.tail⟩,by dsimp only;omega⟩
    .intro h3;replace h3:=AK h3;obtain rfl:i=ds.length:=by omega
     rw[qbf]at hM has
     have hC:ofC ds nx=(EN (ds.map (·.am))).2:=by
      unfold ofC;rw[if_neg h1',if_neg h2n,if_neg (by rw[has];decide)]
     rw[hC];obtain⟨tt,htt⟩:=qD (EN (ds.map (·.am)));rw[<-htt];refine Be (Aj (Aj (AH (Aa (Ap (Ad (A9 U (Am qB (amounts_ok _ (H.get at0) (H.get at1) hM (by omega)) U ?_))))))));rintro v w ⟨l,hlp,F⟩;obtain⟨a3,n3,c3,f3,rfl,O3,hb3⟩:=F.ex;replace H:=H.call F.ext;have hl3:=O3.llen;rw[qak]at hl3;have hlq:=hlp.length_eq;rw[qak]at hlq;refine Am qB (LP a3 n3 c3 l _ (O3.rd1 fun x hx=>(hb3 x hx).1) (by omega)) U ?_;rintro v w ⟨rfl,rfl⟩;rw[Tm hlp];rw[<-htt];refine BN U (AF U U (AF U U (Af U (Af U (qA (Ad (Ae U (C0 U U (qA ?_)))))))));refine Av _ U ?_ ?_
     .intro h5;replace h5:=CC h5;refine Ad (Ae U (BE U (Af U (qA (A6 (Al (BG (v1:=(.pointer _)) (v2:=(.int _ _)) U U U U ?_)))))));exact⟨_,rfl,fun _=>rfl,(fun h=>absurd h h5),H.ext⟩
     .intro h5;replace h5:=CD h5;refine Aq (Aa (Ad (A9 U (BE U (Af U (qA (A6 (BG (v1:=(.pointer _)) (v2:=(.int _ _)) U U U U ?_))))))));have h5':tt.2=0:=by omega
      refine⟨_,by rw[h5'],(fun h=>absurd h5' h),(fun _=>⟨b24,b,o,rfl,H.get at0,H.get at1,hM,?_,?_,H.ne at0 at1 (by decide)⟩),H.ext⟩
      .exact(H.own (b24,_) (qac (i:=0) U)).elim (fun h=>by cases h) id
      .exact(H.own (b,_) (qac (i:=1) U)).elim (fun h=>by cases h) id
structure Ac where
 ba:Int
 re:Int
instance:DecidableEq Ac:=fun x y=>if h:x.ba=y.ba/\x.re=y.re then isTrue (by cases x;cases y;simp_all)else isFalse fun e=>h (by subst e;exact⟨rfl,rfl⟩)
abbrev Dm(a:Ac):List Value:=[.int .i64 a.ba,.int .i64 a.re]
theorem IJ(a:Ac):∀v∈Dm a,AS v=true:=by simp[Dm,AS]
theorem Aaw(acs:List Ac):∀v∈acs.flatMap Dm,AS v=true:=fun v hv=>by
 obtain⟨a,_,h⟩:=qel.1 hv;exact IJ a v h
theorem QJ(acs:List Ac):(acs.flatMap Dm).length=acs.length*2:=by
 induction acs with
 |nil=>rfl
 |cons a acs ih =>
  rw[qcc,qat,ih];show 2+acs.length*2=(acs.length+1)*2;omega
theorem To(a:Option Addr)(n c:Nat)(acs:List Ac)(w:World)(R:Rd w a 2 Dm acs)(hn:acs.length=n)(hm:n<=1000000000) :
  Ret prog 98 #[.slice a n c] w fun v w'=>Fresh w w' 43 2 v (acs.flatMap Dm):=by
 subst hn;obtain⟨w0,rfl,H⟩:=qE w;refine A2 (fn:=f98) func98 U [.slice a acs.length c] U (Ad (Az U (qA (Ap (Ad (Ao U (Iu U Dz U (qA (Av _ U ?_ ?_)))))))))
 .intro h1;have ha:a=none:=by simpa using h1
  subst ha
  have hxs:acs=[]:=by
   cases acs with
   |nil=>rfl
   |cons x xs=>obtain⟨b,o,h⟩:=R.some' (by simp);cases h
  subst hxs;refine Ad (Az U (qA (A6 (Al (AD (v:=(.slice _ _ _)) U U U ?_)))));exact Fresh.nil H _ _
 .intro h1;refine Aq (Aa (Ad (Hd Dz DP H ?_)));rintro b5 w H O;refine Ao U (Hb U Dz Dz DP Alq JC U (acs.flatMap Dm) U U H O (QJ acs) (Aaw acs) ((R.ext0 H.ext).app (fun _ _=>rfl) (by omega)) ?_);rintro a7 c7 full7 w H O;refine Az U (qA (A6 (AD (v:=(.slice _ _ _)) U U U ?_)));exact H.fresh O
theorem QK{bd:Nat}(a:Option Addr)(n c:Nat)(acs:List Ac)(w:World)(hd:w.heap[bd]?=some (Bl 162 [.slice a n c]))(R:Rd w a 2 Dm acs)(hn:acs.length=n)(hm:n<=1000000000:=by omega):
  Ret prog 49 #[ptr bd] w fun v w'=>Fresh w w' 43 2 v (acs.flatMap Dm):=by
 obtain⟨w0,rfl,H⟩:=qE w;refine A2 (fn:=f49) func49 U [.pointer (some ⟨bd,0,none⟩)] U ?_;refine Ad (Az U (qA (Ap (Ad (A9 U (C7 OJ U ?_))))));refine qA (Av _ U ?_ ?_)
 .intro h0;cases h0
 .intro h0;refine Aq (Aa (Ad (A9 U (AP U (Ah Fg U (Ba E3 U ((by rw[An hd];rfl)) ?_))))));refine Am qB (To a n c acs _ R hn hm) U ?_;rintro v w F;obtain⟨a9,n9,c9,full9,rfl,O9,hb9⟩:=F.ex;refine Az U (qA (A6 (AD (v:=(.slice _ _ _)) U U U ?_)));exact F
theorem JM{α β:Type}{f:α->β}{l:List α}{i:Nat}{x:α}(h:l[i]?=some x):(l.take (i+1)).map f=(l.take i).map f++[f x]:=by
 rw[qbt,h,qax];rfl
theorem Ji{bd:Nat}(a:Option Addr)(n c:Nat)(acs:List Ac)(w:World)(hd:w.heap[bd]?=some (Bl 162 [.slice a n c]))(R:Rd w a 2 Dm acs)(hn:acs.length=n)(hm:n<=1000000:=by omega):
  Ret prog 132 #[ptr bd] w fun v w'=>Fresh w w' 2 1 v ((acs.map (·.ba)).map CQ):=by
 subst hn;obtain⟨w0,rfl,H⟩:=qE w;refine A2 (fn:=f132) func132 U [.pointer (some ⟨bd,0,none⟩)] U ?_;refine Ad (Az U (qA (Ad (Az U (qA (Ap (Ad (A9 U (AP U ?_)))))))));refine Ah Fg U (Ba E3 U ((by rw[An hd];rfl)) ?_);refine AU Dz U (Ae U (qA (Ax (Bn 2095144 (α:=LSt) (fun t=>[(3,.slice t.a t.i t.c),(11,.int .i64 (t.i:Int))]) (fun t w'=>t.i<=acs.length/\OS t.a t.i t.c 1 t.full (((acs.take t.i).map (·.ba)).map CQ)/\Ctx w0 [] w' (ent t.a 2 t.full)) (fun t=>acs.length - t.i) ⟨0,none,0,[]⟩ U ?_ ?_ ?_))))
 .exact⟨rfl,rfl,trivial⟩
 .exact⟨qaf _,OS.nil,H⟩
 .rintro⟨i,a2,c2,full⟩ j w ⟨hi,O,H⟩;dsimp only at hi O H;dsimp only;refine Ad (AZ U U (qA (Ap (Av _ U ?_ ?_))))
  .intro h1;replace h1:=AJ h1;obtain⟨x,hx⟩:=AB (l:=acs) (i:=i);refine Aq (Aa (Ap (Ax (Ad (AM R Dz DP U U (by rfl) ?_)))));refine Ca _ SU DP U U ((R.ext0 H.ext).row hx U) (AX JC H ?_);rintro b5 w - H;refine Bi DP U U U (by exact IJ _) H at0 U ?_;rintro w H;refine qA (Ay (Ao U (Ah Ex U (AG Bm U H at0 U (Cs _ (.int _ _) AR Bt Eh U U U U H ?_)))));rintro b18 w - H;refine C3 (L:=[_]) AR AR Bt J9 Eh U U U H O U (by simp[AS]) ?_;rintro a' c' full' w H O;refine Az U (Ab (A7 (Aa (Ay (Aw U U ?_)))));refine Ae U (qA ?_);exact⟨⟨i+1,a',c',full'⟩,rfl,⟨rfl,rfl,trivial⟩,⟨by dsimp only;omega,by dsimp only;rw[JM hx,qax];exact O,H.tail⟩,by dsimp only;omega⟩
  .intro h1;replace h1:=AK h1;refine Be (Aj (Aj (AH (Aa (Ad (Ao U (Az U (qA (A6 (AD (v:=(.slice _ _ _)) U U U ?_))))))))));obtain rfl:i=acs.length:=by omega
   rw[qbf]at O;exact Ctx.fresh (L:=[]) H O
def C9(a:Ac):Int:=max 0 (a.ba - a.re)
def Jj(a:Ac):Bool:=Db a.ba && Db a.re
theorem Afr{bd:Nat}(a:Option Addr)(n c:Nat)(acs:List Ac)(w:World)(hd:w.heap[bd]?=some (Bl 162 [.slice a n c]))(R:Rd w a 2 Dm acs)(hn:acs.length=n)(hmay:∀x∈acs,Jj x=true)(hm:n<=1000000:=by omega):
  Ret prog 180 #[ptr bd] w fun v w'=>Fresh w w' 2 1 v ((acs.map C9).map CQ):=by
 obtain⟨w0,rfl⟩:=qD w;refine A2 (fn:=f180) func180 U [.pointer (some ⟨bd,0,none⟩)] U ?_;refine Ad (Az U (qA (Ad (Az U (qA (Ap (Ad (A9 U (Am qB (QK a n c acs _ hd R hn) U ?_)))))))));rintro v w F;obtain⟨a7,n7,c7,full7,rfl,O7,hb7⟩:=F.ex;have hl7:=O7.llen;rw[QJ]at hl7;obtain rfl:acs.length=n7:=by omega
 refine AU Dz U (Ae U (qA (Ax ?_)));obtain⟨w1,rfl,H⟩:=qE w;have R7:Rd w1 a7 2 Dm acs:=OS.rd O7 (fun x hx=>(hb7 x hx).1) (fun _ _=>rfl) (by omega);refine Bn 8388136 (α:=LSt) (fun t=>[(3,.slice t.a t.i t.c),(9,.int .i64 (t.i:Int))]) (fun t w'=>t.i<=acs.length/\OS t.a t.i t.c 1 t.full (((acs.take t.i).map C9).map CQ)/\Ctx w1 [] w' (ent t.a 2 t.full)) (fun t=>acs.length - t.i) ⟨0,none,0,[]⟩ U ?_ ?_ ?_
 .exact⟨rfl,rfl,trivial⟩
 .exact⟨qaf _,OS.nil,H⟩
 .rintro⟨i,a2,c2,full⟩ j w ⟨hi,O,H⟩;dsimp only at hi O H;dsimp only;refine Ad (AZ U U (qA (Ap (Av _ U ?_ ?_))))
  .intro h1;replace h1:=AJ h1;obtain⟨x,hx⟩:=AB (l:=acs) (i:=i);have hxm:=hmay x (qac hx)
   have hx2:(0<=x.ba/\x.ba<=4503599627370496)/\0<=x.re/\x.re<=4503599627370496:=by
    unfold Jj at hxm;rw[qae,CR,CR]at hxm;exact hxm
   refine Aq (Aa (Ap (Ax (Ad (AM R7 Dz DP U U (by rfl) ?_)))));refine Ca _ SU DP U U ((R7.ext0 H.ext).row hx U) (AX JC H ?_);rintro b5 w - H;refine Bi DP U U U (by exact IJ _) H at0 U ?_;rintro w H;refine qA (Ay (Ao U (Ah Ex U (AG Bm U H at0 U (Ah Hn U (AG Bm U H at0 U (B3 U U ?_)))))));refine Jc U U (Cs _ (.int _ _) AR Bt Eh U U U U H ?_);rintro b20 w - H;refine C3 (L:=[_]) AR AR Bt J9 Eh U U U H O U (by simp[AS]) ?_;rintro a' c' full' w H O;refine Az U (Ab (A7 (Aa (Ay (Aw U U ?_)))));refine Ae U (qA ?_);exact⟨⟨i+1,a',c',full'⟩,rfl,⟨rfl,rfl,trivial⟩,⟨by dsimp only;omega,by dsimp only;rw[JM hx,qax];exact O,H.tail⟩,by dsimp only;omega⟩
  .intro h1;replace h1:=AK h1;refine Be (Aj (Aj (AH (Aa (Ad (Ao U (Az U (qA (A6 (AD (v:=(.slice _ _ _)) U U U ?_))))))))));obtain rfl:i=acs.length:=by omega
   rw[qbf]at O;obtain⟨⟨a3,n3,c3,f3,e1,e2,e3⟩,e4⟩:=Ctx.fresh (L:=[]) H O;exact⟨⟨a3,n3,c3,f3,e1,e2,fun x hx=>⟨(e3 x hx).1,qbe F.ext.size (e3 x hx).2⟩⟩,F.ext.trans e4⟩
end Go.Proofs.YtdagmpmdcgedcaaGreat
