/- Part 8 of the proof. -/
import Derived.Test.YtffclglpjlcojaaGreatPart7
set_option maxRecDepth 20000
set_option maxHeartbeats 8000000
namespace Go.Proofs.YtffclglpjlcojaaGreat
open Go.GV Go.Proofs.Tryz
attribute [local irreducible] A7 W Wq Wt
def HeapU(g:Nat->Int)(o lo hi:Nat):Prop:=∀i c,lo<=i->(c=2*i+1\/c=2*i+2)->c<hi->g (o+c)<=g (o+i)
structure SiftU(g:Nat->Int)(o lo r hi:Nat):Prop where
 oth:∀i c,lo<=i->i≠r->(c=2*i+1\/c=2*i+2)->c<hi->g (o+c)<=g (o+i)
 up:∀p c,lo<=p->(r=2*p+1\/r=2*p+2)->(c=2*r+1\/c=2*r+2)->c<hi->g (o+c)<=g (o+p)
theorem SiftU.start{g:Nat->Int}{o lo hi:Nat}(h:HeapU g o (lo+1) hi):SiftU g o lo lo hi:=⟨fun i c hi hne hc hh=>h i c (by omega) hc hh,fun p c hp hr _ _=>by omega⟩
theorem SiftU.done{g:Nat->Int}{o lo r hi:Nat}(h:SiftU g o lo r hi)(hr:∀c,(c=2*r+1\/c=2*r+2)->c<hi->g (o+c)<=g (o+r)):HeapU g o lo hi:=fun i c hl hc hh=>by
 by_cases e:i=r
 .subst e;exact hr c hc hh
 .exact h.oth i c hl e hc hh
theorem SiftU.step{g:Nat->Int}{o lo r hi c:Nat}(h:SiftU g o lo r hi)(_:lo<=r)(hc:c=2*r+1\/c=2*r+2)(hch:c<hi)(hmax:∀d,(d=2*r+1\/d=2*r+2)->d<hi->g (o+d)<=g (o+c))(hlt:g (o+r)<g (o+c)):SiftU (sw g (o+r) (o+c)) o lo c hi:=by
 refine⟨fun i d hi' hne hd hh=>?_,fun p e hp hcp he hh=>?_⟩
 .by_cases e1:i=r
  .rw[e1,I8]
   by_cases e2:d=c
   .rw[e2,Ep];omega
   .rw[EX];exact hmax d (by omega) hh
  .rw[EX (k:=o+i)]
   by_cases e2:d=r
   .rw[e2,I8];exact h.up i c hi' (by omega) hc hch
   .rw[EX];exact h.oth i d hi' e1 hd hh
 .have e1:p=r:=by omega
  rw[e1,I8,EX];exact h.oth c e (by omega) (by omega) he hh
theorem HeapU.root{g:Nat->Int}{o hi:Nat}(h:HeapU g o 0 hi):∀i,i<hi->g (o+i)<=g (o+0):=fun i=>by
 induction i using Nat.strongRecOn with
 |_ i ih =>
  intro hi'
  rcases qc8 i with h0|h0
  .rw[h0];exact qa3 _
  .exact qbh (h ((i - 1) / 2) i (qaq _) (by omega) hi') (ih ((i - 1) / 2) (by omega) (by omega))
section
variable {w:World}{q n c m:Nat}{f:Nat->Int}
theorem YY{lo hi o:Nat}(hd:w.heap[q]?=some (Bl 23 (CP f m)))(hn:n<=m)(hm:n<=1000000000)(hH:HeapU f o (lo+1) hi)(hb:o+hi<=n:=by omega)(hl:lo<=1000000000:=by omega):
  Ret prog 206 #[.slice (some ⟨q,0,none⟩) n c,.int .i64 (lo:Int),.int .i64 (hi:Int),.int .i64 (o:Int)] w fun v w'=>v=.tuple #[]/\∃g,Sw o (o+hi) f g/\HeapU g o lo hi/\Ctx w [q] w' [(q,Bl 23 (CP g m))]:=by
 obtain⟨w0,rfl⟩:=qD w;have H:=Ctx.start1 hd;refine Au (fn:=f206) func206 U [.slice (some ⟨q,0,none⟩) n c,.int .i64 (lo:Int),.int .i64 (hi:Int),.int .i64 (o:Int)] U ?_;refine Ae (Af U (Ad U (qA (A1 (Bw 75557863725914323417856 (α:=Nat × (Nat->Int)) (fun t=>[(8,.int .i64 (t.1:Int))]) (fun t w'=>lo<=t.1/\t.1<=1000000000/\Sw o (o+hi) f t.2/\SiftU t.2 o lo t.1 hi/\Ctx w0 [q] w' [(q,Bl 23 (CP t.2 m))]) (fun t=>1000000000 - t.1) (lo,f) U ?_ ?_ ?_)))))
 .exact⟨rfl,trivial⟩
 .exact⟨qam _,hl,.refl _,.start hH,H⟩
 .rintro⟨r,g⟩ j0 w ⟨hr1,hr2,hS,hD,H⟩;dsimp only at hr1 hr2 hS hD H;dsimp only;refine A1 (Ae (Af U (D0 U U ?_)));refine Az U U ?_;rw[show 2*(r:Int)+1=((2*r+1:Nat):Int)by omega];refine Ad U (qA (Ax (Ae (Af U (Af U (CM U U (qA (Aw _ U ?_ ?_))))))))
  .intro h1;replace h1:=AM h1;refine Bt (An (FG U (An (AK (CV U U ?_)))));exact⟨rfl,g,hS,hD.done fun c hc hh=>by omega,H⟩
  .intro h1;replace h1:=AN h1;have e1:((o:Int)+((2*r+1:Nat):Int)).toNat=o+(2*r+1):=by omega
   have e2:((o:Int)+((2*r+1:Nat):Int)+1).toNat=o+(2*r+2):=by omega
   refine Ay (Aa (Ax (DV 137438822400 (α:=Unit) (fun _=>[(36,.bool (decide (2*r+2<hi/\g (o+(2*r+1))<g (o+(2*r+2)))))]) (fun _ w'=>Ctx w0 [q] w' [(q,Bl 23 (CP g m))]) U ?_ ?_)))
   .skip
    refine Gm 18 Br U U (AX U (D4 U U ?_));refine AX U (LO U U (CW U (DK 21 U ?_ ?_)))
    .intro h1;replace h1:=AM h1;refine Ca U (AX U (AX U (D4 U U ?_)));refine Bi Bh Bq U U ?_;refine BX B6 U (by rintro _ rfl;exact((CC (H.drew.get at0)))) ?_;refine Ca U (AX U (AX U (D4 U U ?_)));refine D4 U U (Bi Bh Bq U U ?_);refine BX B6 U (by rintro _ rfl;exact((CC (H.drew.get at0)))) ?_;refine BS ?_;replace H:=H.drew;refine Al qB (Fy _ _ _) U ?_;rintro v w ⟨rfl,rfl⟩;rw[e1,e2];refine AA U (.bool _) U (qA ?_);exact⟨(),rfl,⟨qaa Value.bool (by rw[qad];simp_all;try omega),trivial⟩,H⟩
    .intro h2;replace h2:=AN h2;refine A3 U (A3 U (A3 U (A3 U (A3 U (A3 U (A3 U (A3 U (A3 U (A3 U ?_)))))))));refine A3 U (A3 U (A3 U (BS ?_)));replace H:=H.drew;refine Ag U (AJ U (.bool _) U (qA ?_));exact⟨(),rfl,⟨qaa Value.bool (by rw[qad];simp_all;try omega),trivial⟩,H⟩
   .rintro - j1 w H;refine Gi 412316860928 (α:=Nat) (fun d=>[(9,.int .i64 (d:Int))]) (fun d w'=>(d=2*r+1\/d=2*r+2)/\d<hi/\(∀e,(e=2*r+1\/e=2*r+2)->e<hi->g (o+e)<=g (o+d))/\Ctx w0 [q] w' [(q,Bl 23 (CP g m))]) U ?_ ?_
    .skip
     refine Aw _ U ?_ ?_
     .intro h2;have h2:=qba h2;refine A0 (Af U (Az U U ?_));refine Ad U (qA ?_);refine⟨2*r+2,rfl,⟨qaa (Value.int .i64) (by omega),trivial⟩,.inr rfl,h2.1,fun e he _=>?_,H⟩
      rcases he with rfl|rfl
      .omega
      .omega
     .intro h2;have h2:=qbn h2;refine Ay (Aa ?_);refine⟨2*r+1,rfl,⟨rfl,trivial⟩,.inl rfl,by omega,fun e he hh=>?_,H⟩
      rcases he with rfl|rfl
      .omega
      .rcases qcq (g (o+(2*r+1))) (g (o+(2*r+2)))with h7|h7
       .exact absurd ⟨hh,h7⟩ h2
       .exact h7
    .rintro d j2 w ⟨hd1,hd2,hmax,H⟩;have e3:((o:Int)+(r:Int)).toNat=o+r:=by omega
     have e4:((o:Int)+(d:Int)).toNat=o+d:=by omega
     refine Ax (Ej 12 Br U U ?_);refine Ca U (AX U (AX U (D4 U U ?_)));refine Bi Bh Bq U U ?_;refine BX B6 U (by rintro _ rfl;exact((CC (H.drew.get at0)))) ?_;refine Ca U (AX U (AX U (D4 U U ?_)));refine Bi Bh Bq U U ?_;refine BX B6 U (by rintro _ rfl;exact((CC (H.drew.get at0)))) ?_;refine BS ?_;replace H:=H.drew;refine Al qB (Fy _ _ _) U ?_;rintro v w ⟨rfl,rfl⟩;rw[e3,e4];refine BP U (qA (Aw _ U ?_ ?_))
     .intro h3;replace h3:=BM h3;refine A5 (Av (AF (Av (AF (Gl U U ?_)))));have h3:¬g (o+r)<g (o+d):=by simpa using h3
      exact⟨rfl,g,hS,hD.done fun c hc hh=>qbh (hmax c hc hh) (by omega),H⟩
     .intro h3;replace h3:=BN h3;have h3:g (o+r)<g (o+d):=by simpa using h3
      refine Ay (Aa (Ck [([0,1,2,3,4,5,6,7,8,9,10,11,12,13,14,15,16,17,18,19,20],21),([22],23)] (fun z=>z.heap[q]?=some (Bl 23 (CP g m))) [21,23] Br (H.drew.get at0) ?_));refine AD U U (B3 U (Bj U (Bj U (EB U U ?_))));refine B3 U (Bj U (Bj U (EB U U ?_)));refine B3 U (Bj U (Bj U (EB U U ?_)));refine AP Bh Bq U U (B0 B6 U (fun _ hx=>(CC hx)) ?_);refine B3 U (Bj U (Bj U (EB U U ?_)));refine AP Bh Bq U U (B0 B6 U (fun _ hx=>(CC hx)) ?_);refine AP Bh Bq U U (AU ?_);replace H:=H.drew
      refine Cl (o+r) (fun k => .int .u64 (if k=o+r then g (o+d)else g k)) (.int _ _) Bq U U U H at0 (by omega) (by rw[if_pos rfl];exact qaa (fun z=>Value.int .u64 (g z)) (by omega)) (fun k _ hk=>by rw[if_neg hk]) ?_;rintro w H;refine Ab (Bz U (AD U U ?_));refine AP Bh Bq U U ?_;refine AU (Cl (o+d) (fun k => .int .u64 (sw g (o+r) (o+d) k)) (.int _ _) Bq U U U H at0 (by omega) (by rw[Ep];exact qaa (fun z=>Value.int .u64 (g z)) (by omega)) (fun k _ hk=>by rw[Em hk]) ?_);rintro w H;refine Ab (Bz U (BF (A0 (Af U (Ad U (Ab (A8 (Aa ?_))))))));exact⟨(d,sw g (o+r) (o+d)),rfl,⟨rfl,trivial⟩,⟨by dsimp only;omega,by dsimp only;omega,hS.step _ _ ⟨by omega,by omega⟩ ⟨by omega,by omega⟩,hD.step hr1 hd1 hd2 hmax h3,H⟩,by dsimp only;omega⟩
structure HsU(g:Nat->Int)(a i b:Nat):Prop where
 srt:Kz g (a+i) b
 le:∀x y,x<i->a+i<=y->y<b->g (a+x)<=g y
theorem VA{a b:Nat}(hd:w.heap[q]?=some (Bl 23 (CP f m)))(hn:n<=m)(hm:n<=1000000000)(hab:a<b:=by omega)(hb:b<=n:=by omega):
  Ret prog 182 #[.slice (some ⟨q,0,none⟩) n c,.int .i64 (a:Int),.int .i64 (b:Int)] w fun v w'=>v=.tuple #[]/\∃g,Sw a b f g/\Kz g a b/\Ctx w [q] w' [(q,Bl 23 (CP g m))]:=by
 obtain⟨w0,rfl⟩:=qD w;have H:=Ctx.start1 hd;obtain⟨l,rfl⟩:∃l,b=a+l:=⟨b - a,by omega⟩;have hl:((a+l:Nat):Int) - (a:Int)=(l:Int):=by omega
 have hl1:(l:Int) - 1=((l - 1:Nat):Int):=by omega
 refine Au (fn:=f182) func182 U [.slice (some ⟨q,0,none⟩) n c,.int .i64 (a:Int),.int .i64 ((a+l:Nat):Int)] U ?_;refine Ae (Af U (Ad U (qA (Ae (Ad U (qA (Ae (Af U (Af U ?_)))))))));refine Bo U U ?_;rw[hl];refine Ad U (qA (Ax (Ae (Af U (Bo U U ?_)))));refine KC U U (show _<=(9223372036854775807:Int)by omega) ?_;refine Ad U (qA (A1 (Bw 133956096 (α:=Nat × (Nat->Int)) (fun t=>[(9,.int .i64 ((t.1:Int) - 1))]) (fun t w'=>t.1<=l+1/\Sw a (a+l) f t.2/\HeapU t.2 a t.1 l/\Ctx w0 [q] w' [(q,Bl 23 (CP t.2 m))]) (fun t=>t.1) ((l - 1) / 2+1,f) U ?_ ?_ ?_)))
 .exact⟨qaa (Value.int .i64) (by dsimp only;omega),trivial⟩
 .exact⟨by dsimp only;omega,.refl _,fun i c h1 h2 h3=>by dsimp only at h1;omega,H⟩
 .rintro⟨k,g⟩ j0 w ⟨hk,hS,hP,H⟩;dsimp only at hk hS hP H;dsimp only
  rcases k with _|k
  .skip
   refine Ax (Ae (Af U (CM U U (qA (Aw _ U ?_ ?_)))))
   .intro h1;replace h1:=AM h1;omega
   .intro h1;replace h1:=AN h1;refine Bt (An (An (AK (Aa (Ae (Af U (Bo U U ?_)))))));refine Ad U (qA (A1 (Bw 72057593501058048 (α:=Nat × (Nat->Int)) (fun t=>[(10,.int .i64 ((t.1:Int) - 1))]) (fun t w'=>t.1<=l/\Sw a (a+l) f t.2/\HeapU t.2 a 0 t.1/\HsU t.2 a t.1 (a+l)/\Ctx w0 [q] w' [(q,Bl 23 (CP t.2 m))]) (fun t=>t.1) (l,g) U ?_ ?_ ?_)))
    .exact⟨rfl,trivial⟩
    .exact⟨qam _,hS,hP,⟨fun x y h1 h2 h3=>by dsimp only at h1;omega,fun x y h1 h2 h3=>by dsimp only at h2;omega⟩,H⟩
    .rintro⟨k,g⟩ j1 w ⟨hk,hS,hP,hQ,H⟩;dsimp only at hk hS hP hQ H;dsimp only
     rcases k with _|k
     .skip
      refine Ax (Ae (Af U (CM U U (qA (Aw _ U ?_ ?_)))))
      .intro h2;replace h2:=AM h2;omega
      .intro h2;replace h2:=AN h2;refine Bt (An (An (AK (CV U U ?_))));exact⟨rfl,g,hS,hQ.srt,H⟩
     .rw[show((k+1:Nat):Int) - 1=(k:Int)by omega];refine Ax (Ae (Af U (CM U U (qA (Aw _ U ?_ ?_)))))
      .intro h2;replace h2:=AM h2;refine Ay (Aa (Ax (A1 (Ck [([0,1,2,3,4,5,6,7,8,9,10,11,12,13,14,15,16],17),([18],19)] (fun z=>z.heap[q]?=some (Bl 23 (CP g m))) [17,19] Br (H.drew.get at0) ?_))));refine AD U U (B3 U (Bj U (B3 U (Bj U (Bj U (EB U U ?_))))));refine B3 U (Bj U (Bj U (EB U U ?_)));refine AP Bh Bq U U (B0 B6 U (fun _ hx=>(CC hx)) ?_);refine B3 U (Bj U (AP Bh Bq U U ?_));refine B0 B6 U (fun _ hx=>(CC hx)) (AP Bh Bq U U ?_);refine AU ?_;replace H:=H.drew
       refine Cl (a+0) (fun z => .int .u64 (if z=a+0 then g (a+k)else g z)) (.int _ _) Bq U U U H at0 (by omega) (by rw[if_pos rfl];exact qaa (fun z=>Value.int .u64 (g z)) (by omega)) (fun z _ hz=>by rw[if_neg hz]) ?_;rintro w H;refine Ab (Bz U (AD U U ?_));refine AP Bh Bq U U ?_;refine AU (Cl (a+k) (fun z => .int .u64 (sw g (a+0) (a+k) z)) (.int _ _) Bq U U U H at0 (by omega) (by rw[Ep];exact qaa (fun z=>Value.int .u64 (g z)) (by omega)) (fun z _ hz=>by rw[Em hz]) ?_);rintro w H;refine Ab (Bz U (BF (A0 (Ap U (Af U (Af U (Af U (Al qB (YY (lo:=0) (hi:=k) (o:=a) (f:=sw g (a+0) (a+k)) (H.get at0) hn hm (fun i c h1 h2 h3=>by rw[EX,EX];exact hP i c (by omega) h2 (by omega))) U ?_))))))));rintro rv w ⟨rfl,g2,hS2,hP2,H2⟩
       replace H:=Ctx.back (L1:=[_]) (L2:=[]) H H2;refine Ab (A8 (Aa (A0 (Af U (Bo U U ?_)))));refine Ad U (qA ?_);have hout:=fun z hz=>hS2.out z hz;have hk2:g2 (a+k)=g (a+0):=by rw[hout _ (.inr (qam _)),Ep]
       have hot:∀z,a+k<z->g2 z=g z:=fun z hz=>by rw[hout _ (.inr (by omega)),EX]
       refine⟨(k,g2),rfl,⟨rfl,trivial⟩,⟨by dsimp only;omega,(hS.step (a+0) (a+k) ⟨by omega,by omega⟩ ⟨by omega,by omega⟩).trans (hS2.mono (qam _) (by omega)),hP2,⟨fun x y h1 h2 h3=>?_,fun x y h1 h2 h3=>?_⟩,H⟩,by dsimp only;omega⟩
       .dsimp only at h1 |-;rw[hot y (by omega)]
        by_cases e:x=a+k
        .rw[e,hk2];exact hQ.le 0 y (by omega) (by omega) h3
        .rw[hot x (by omega)];exact hQ.srt x y (by omega) h2 h3
       .dsimp only at h1 h2 |-;obtain⟨z,hz1,hz2,hz3⟩:=hS2.mem (a+x) (by omega) (by omega)
        obtain⟨u,hu1,hu2⟩:∃u,u<k+1/\g2 (a+x)=g (a+u):=by
         by_cases e:z=a+0
         .exact⟨k,by omega,by rw[hz3,e,I8]⟩
         .exact⟨z - a,by omega,by rw[hz3,EX (h1:=e)];congr 1;omega⟩
        rw[hu2]
        by_cases e:y=a+k
        .rw[e,hk2];exact hP.root u hu1
        .rw[hot y (by omega)];exact hQ.le u y hu1 (by omega) h3
      .intro h2;replace h2:=AN h2;omega
  .rw[show((k+1:Nat):Int) - 1=(k:Int)by omega];refine Ax (Ae (Af U (CM U U (qA (Aw _ U ?_ ?_)))))
   .intro h1;replace h1:=AM h1;refine Ay (Aa (Ax (A1 (A0 (Ap U (Af U (Af U (Af U (Al qB (YY (lo:=k) (hi:=l) (o:=a) (f:=g) (H.get at0) hn hm hP) U ?_)))))))));rintro rv w ⟨rfl,g2,hS2,hP2,H2⟩;replace H:=Ctx.back (L1:=[_]) (L2:=[]) H H2;refine Ab (A8 (Aa (A0 (Af U (Bo U U ?_)))));refine Ad U (qA ?_);exact⟨(k,g2),rfl,⟨rfl,trivial⟩,⟨by dsimp only;omega,hS.trans hS2,hP2,H⟩,by dsimp only;omega⟩
   .intro h1;replace h1:=AN h1;omega
end
section
variable {w:World}{q n c m s:Nat}{k:Int}{f:Nat->Int}
theorem NR{i j:Nat}(hd:w.heap[q]?=some (Bl 23 (CP f m)))(hs:w.heap[s]?=some (Bl 3 [.int .i64 k]))(hj:j<n)(hn:n<=m)(_:n<=1000000000)(hi:i<n:=by omega):
  Ret prog 219 #[.slice (some ⟨q,0,none⟩) n c,.int .i64 (i:Int),.int .i64 (j:Int),ptr s] w fun v w'=>∃(x y:Nat) (k':Int),((x=i/\y=j)\/(x=j/\y=i))/\v=.tuple #[.int .i64 (x:Int),.int .i64 (y:Int)]/\Ctx w [s] w' [(s,Bl 3 [.int .i64 k'])]:=by
 obtain⟨w0,rfl⟩:=qD w;have H:=Ctx.start1 hs;refine Au (fn:=f219) func219 U [.slice (some ⟨q,0,none⟩) n c,.int .i64 (i:Int),.int .i64 (j:Int),.pointer (some ⟨s,0,none⟩)] U ?_;refine Ae (Ad U (Ad U (qA (Ax (Ej 8 Br U U ?_)))));refine Ca U (AX U (Bi Bh Bq U U ?_));refine BX B6 U (by rintro _ rfl;exact((CC (w:=w0.drew) hd))) ?_;refine Ca U (AX U (Bi Bh Bq U U ?_));refine BX B6 U (by rintro _ rfl;exact((CC (w:=w0.drew) hd))) ?_;refine BS ?_;replace H:=H.drew;refine Al qB (Fy _ _ _) U ?_;rintro v w ⟨rfl,rfl⟩;refine qA (Aw _ U ?_ ?_)
 .intro h1;refine Ae (A4 U (A9 U (AG Cc U H at0 U (OX U U U ?_))));intro k2;refine A9 U (Cb (.int _ _) Gb U U U H at0 (by(simp;done)) ?_);rintro w H;refine qA (Ae (Af U (Af U (Ad U (Ad U (qA (A5 (Av (Cf (v1:=(.int _ _)) (v2:=(.int _ _)) U U U U ?_)))))))));exact⟨j,i,k2,.inr ⟨rfl,rfl⟩,rfl,H⟩
 .intro h1;refine Ay (Aa (Ae (Af U (Af U (Ad U (Ad U (qA (A5 (Cf (v1:=(.int _ _)) (v2:=(.int _ _)) U U U U ?_)))))))));exact⟨i,j,k,.inl ⟨rfl,rfl⟩,rfl,H⟩
theorem SD{i j l:Nat}(hd:w.heap[q]?=some (Bl 23 (CP f m)))(hs:w.heap[s]?=some (Bl 3 [.int .i64 k]))(hne:q≠s)(hn:n<=m)(hm:n<=1000000000)(hi:i<n:=by omega)(hj:j<n:=by omega)(hl:l<n:=by omega):
  Ret prog 210 #[.slice (some ⟨q,0,none⟩) n c,.int .i64 (i:Int),.int .i64 (j:Int),.int .i64 (l:Int),ptr s] w fun v w'=>∃(x:Nat) (k':Int),(x=i\/x=j\/x=l)/\v=.int .i64 (x:Int)/\Ctx w [s] w' [(s,Bl 3 [.int .i64 k'])]:=by
 obtain⟨w0,rfl⟩:=qD w;have H:=Ctx.start1 hs;have hq:q∉[s]:=by rw[qab];exact hne
 refine Au (fn:=f210) func210 U [.slice (some ⟨q,0,none⟩) n c,.int .i64 (i:Int),.int .i64 (j:Int),.int .i64 (l:Int),.pointer (some ⟨s,0,none⟩)] U ?_;refine Ae (Ad U (qA (Ae (Ap U (Af U (Af U (A4 U (Al qB (NR (i:=i) (j:=j) (H.ext.to hd hq) (H.get at0) (hi:=hi) hj hn hm) U ?_))))))));rintro v w ⟨x1,y1,k1,h1,rfl,H2⟩;replace H:=Ctx.back (L1:=[_]) (L2:=[]) H H2;refine Cr U (AH U U (AH U U (Ad U (Ad U (qA (Ae (Ap U (Af U (Af U ?_)))))))));refine A4 U (Al qB (NR (i:=y1) (j:=l) (H.ext.to hd hq) (H.get at0) hl hn hm) U ?_);rintro v w ⟨x2,y2,k2,h2,rfl,H2⟩;replace H:=Ctx.back (L1:=[_]) (L2:=[]) H H2;refine Cr U (AH U U (AH U U (Ad U (Ad U (qA (Ae (Ap U (Af U (Af U ?_)))))))));refine A4 U (Al qB (NR (i:=x1) (j:=x2) (H.ext.to hd hq) (H.get at0) (by omega) hn hm) U ?_)
 rintro v w ⟨x3,y3,k3,h3,rfl,H2⟩;replace H:=Ctx.back (L1:=[_]) (L2:=[]) H H2;refine Cr U (AH U U (AH U U (Ad U (Ad U (qA (Ae (Af U (Ad U (qA ?_)))))))));refine A5 (AB (v:=(.int _ _)) U U U ?_);exact⟨y3,k3,by omega,rfl,H⟩
theorem Kb{i:Nat}(hd:w.heap[q]?=some (Bl 23 (CP f m)))(hs:w.heap[s]?=some (Bl 3 [.int .i64 k]))(hne:q≠s)(hn:n<=m)(hm:n<=1000000000)(hi0:0<i:=by omega)(hi:i+1<n:=by omega):
  Ret prog 209 #[.slice (some ⟨q,0,none⟩) n c,.int .i64 (i:Int),ptr s] w fun v w'=>∃(x:Nat) (k':Int),(x+1=i\/x=i\/x=i+1)/\v=.int .i64 (x:Int)/\Ctx w [s] w' [(s,Bl 3 [.int .i64 k'])]:=by
 obtain⟨w0,rfl⟩:=qD w;refine Au (fn:=f209) func209 U [.slice (some ⟨q,0,none⟩) n c,.int .i64 (i:Int),.pointer (some ⟨s,0,none⟩)] U ?_;refine Ae (Ad U (qA (Ae (Ap U (Af U (Bo U U ?_))))));rw[show(i:Int) - 1=((i - 1:Nat):Int)by omega];refine Af U (Af U (Az U U ?_));rw[show(i:Int)+1=((i+1:Nat):Int)by omega];refine A4 U (Al qB (SD (i:=i - 1) (j:=i) (l:=i+1) hd hs hne hn hm) U ?_);rintro v w ⟨x1,k1,h1,rfl,H⟩;refine Ad U (qA (A5 (AB (v:=(.int _ _)) U U U ?_)));exact⟨x1,k1,by omega,rfl,H⟩
theorem Afp{a b:Nat}(hd:w.heap[q]?=some (Bl 23 (CP f m)))(hn:n<=m)(hm:n<=1000000000)(hab:a<b:=by omega)(hb:b<=n:=by omega):
  Ret prog 184 #[.slice (some ⟨q,0,none⟩) n c,.int .i64 (a:Int),.int .i64 (b:Int)] w fun v w'=>∃(x:Nat) (h:Int),a<=x/\x<b/\v=.tuple #[.int .i64 (x:Int),.int .i64 h]/\Ext [] w w':=by
 obtain⟨w0,rfl,H⟩:=qE w;obtain⟨l,rfl⟩:∃l,b=a+l:=⟨b - a,by omega⟩;have hl:((a+l:Nat):Int) - (a:Int)=(l:Int):=by omega
 have hql:=Bd hd;refine Au (fn:=f184) func184 U [.slice (some ⟨q,0,none⟩) n c,.int .i64 (a:Int),.int .i64 ((a+l:Nat):Int)] U ?_;refine Ae (Ad U (Ad U (qA (Ae (Af U (Af U (Bo U U ?_)))))));rw[hl];refine Ad U (qA (Ae (Bc Xx H ?_)));rintro b9 w - H;refine qA (Ae (Af U (Af U (KC U U (show _<=(9223372036854775807:Int)by omega) ?_))));refine D0 U U (Az U U ?_);rw[show(a:Int)+(l:Int) / 4*1=((a+l / 4:Nat):Int)by omega];refine Ad U (qA (Ae (Af U (Af U (KC U U (show _<=(9223372036854775807:Int)by omega) ?_)))));refine D0 U U (Az U U ?_);rw[show(a:Int)+(l:Int) / 4*2=((a+l / 4*2:Nat):Int)by omega]
 refine Ad U (qA (Ae (Af U (Af U (KC U U (show _<=(9223372036854775807:Int)by omega) ?_)))));refine D0 U U (Az U U ?_);rw[show(a:Int)+(l:Int) / 4*3=((a+l / 4*3:Nat):Int)by omega];refine Ad U (qA (Ax (Ae (Af U (CM U U (qA ?_))))));have hqs:=H.own _ (qak ..)
 have hne:q≠b9:=fun e=>by subst e;rcases hqs with h|h;cases h;dsimp only at h;omega
 refine Gi 562941363493888 (α:=Nat × Int) (fun z=>[(11,.int .i64 (z.1:Int))]) (fun z w'=>a<=z.1/\z.1<a+l/\Ctx w0 [] w' [(b9,Bl 3 [.int .i64 z.2])]) U ?_ ?_
 .skip
  refine Aw _ U ?_ ?_
  .intro h1;replace h1:=AM h1;refine Ax (Ae (Af U (CM U U (qA (Gi 17557826313216 (α:=Nat × Nat × Nat × Int) (fun z=>[(10,.int .i64 (z.1:Int)),(11,.int .i64 (z.2.1:Int)),(12,.int .i64 (z.2.2.1:Int))]) (fun z w'=>(a<=z.1/\z.1<a+l)/\(a<=z.2.1/\z.2.1<a+l)/\(a<=z.2.2.1/\z.2.2.1<a+l)/\Ctx w0 [] w' [(b9,Bl 3 [.int .i64 z.2.2.2])]) U ?_ ?_)))))
   .skip
    refine Aw _ U ?_ ?_
    .intro h2;replace h2:=AM h2;refine Ae (Ap U (Af U (Al qB (Kb (i:=a+l / 4) (H.ext.to hd (by simp)) (H.get at0) hne hn hm) U ?_)));rintro v w ⟨x1,k1,h3,rfl,H2⟩;replace H:=Ctx.back (L1:=[_]) (L2:=[]) H H2;refine Ad U (qA (Ae (Ap U (Af U (Al qB (Kb (i:=a+l / 4*2) (H.ext.to hd (by simp)) (H.get at0) hne hn hm) U ?_)))));rintro v w ⟨x2,k2,h4,rfl,H2⟩;replace H:=Ctx.back (L1:=[_]) (L2:=[]) H H2;refine Ad U (qA (A0 (Ap U (Af U (Al qB (Kb (i:=a+l / 4*3) (H.ext.to hd (by simp)) (H.get at0) hne hn hm) U ?_)))));rintro v w ⟨x3,k3,h5,rfl,H2⟩;replace H:=Ctx.back (L1:=[_]) (L2:=[]) H H2;refine Ad U (qA ?_);exact⟨(x1,x2,x3,k3),rfl,⟨rfl,rfl,rfl,trivial⟩,by dsimp only;omega,by dsimp only;omega,by dsimp only;omega,H⟩
    .intro h2;replace h2:=AN h2;refine Ay (Aa ?_);exact⟨(a+l / 4,a+l / 4*2,a+l / 4*3,_),rfl,⟨rfl,rfl,rfl,trivial⟩,by dsimp only;omega,by dsimp only;omega,by dsimp only;omega,H⟩
   .rintro⟨x1,x2,x3,k1⟩ j1 w ⟨g1,g2,g3,H⟩;dsimp only at g1 g2 g3 H;dsimp only;refine A0 (Ap U (Af U (Af U (Af U (Al qB (SD (i:=x1) (j:=x2) (l:=x3) (H.ext.to hd (by simp)) (H.get at0) hne hn hm) U ?_)))));rintro v w ⟨x4,k4,h3,rfl,H2⟩;replace H:=Ctx.back (L1:=[_]) (L2:=[]) H H2;refine Ad U (qA ?_);exact⟨(x4,k4),rfl,⟨rfl,trivial⟩,by dsimp only;omega,by dsimp only;omega,H⟩
  .intro h1;replace h1:=AN h1;refine Ay (Aa ?_);exact⟨(a+l / 4*2,_),rfl,⟨rfl,trivial⟩,by dsimp only;omega,by dsimp only;omega,H⟩
 .rintro⟨x,k⟩ j w ⟨g1,g2,H⟩;dsimp only at g1 g2 H;dsimp only;refine Ae (AG Cc U H at0 U (qA (A1 (Ae (C3 U U (Ai U (qA (Aw _ U ?_ ?_))))))))
  .intro h1;replace h1:=AM h1;refine Ae (Af U (Ad U (Ad U (qA (A5 (AF (Cf (v1:=(.int _ _)) (v2:=(.int _ _)) U U U U ?_)))))));exact⟨x,_,g1,g2,rfl,H.ext⟩
  .intro h2;replace h2:=AN h2;refine Ae (C3 U U (Ai U (qA (Aw _ U ?_ ?_))))
   .intro h3;replace h3:=AM h3;refine Ae (Af U (Ad U (Ad U (qA (A5 (AF (Cf (v1:=(.int _ _)) (v2:=(.int _ _)) U U U U ?_)))))));exact⟨x,_,g1,g2,rfl,H.ext⟩
   .intro h4;replace h4:=AN h4;refine Ae (Af U (Ad U (Ad U (qA (A5 (AF (Cf (v1:=(.int _ _)) (v2:=(.int _ _)) U U U U ?_)))))));exact⟨x,_,g1,g2,rfl,H.ext⟩
theorem XB{a b:Nat}(hd:w.heap[q]?=some (Bl 23 (CP f m)))(hn:n<=m)(hm:n<=1000000000)(hab:a<b:=by omega)(hb:b<=n:=by omega):
  Ret prog 185 #[.slice (some ⟨q,0,none⟩) n c,.int .i64 (a:Int),.int .i64 (b:Int)] w fun v w'=>v=.tuple #[]/\∃g,Sw a b f g/\Ctx w [q] w' [(q,Bl 23 (CP g m))]:=by
 obtain⟨w0,rfl⟩:=qD w;have H:=Ctx.start1 hd;refine Au (fn:=f185) func185 U [.slice (some ⟨q,0,none⟩) n c,.int .i64 (a:Int),.int .i64 (b:Int)] U ?_;refine Ae (Af U (Ad U (qA (Ae (Af U (Bo U U ?_))))));rw[show(b:Int) - 1=((b - 1:Nat):Int)by omega];refine Ad U (qA (A1 (Bw 4294965440 (α:=Nat × Nat × (Nat->Int)) (fun t=>[(6,.int .i64 (t.1:Int)),(7,.int .i64 (t.2.1:Int))]) (fun t w'=>a<=t.1/\t.2.1<b/\t.1<=b/\Sw a b f t.2.2/\Ctx w0 [q] w' [(q,Bl 23 (CP t.2.2 m))]) (fun t=>b - t.1) (a,b - 1,f) U ?_ ?_ ?_)))
 .exact⟨rfl,rfl,trivial⟩
 .exact⟨qam _,by dsimp only;omega,by dsimp only;omega,.refl _,H⟩
 .rintro⟨i,j,g⟩ j0 w ⟨g1,g2,g3,hS,H⟩;dsimp only at g1 g2 g3 hS H;dsimp only;refine Ax (Ae (Af U (Af U (Bm U U (qA (Aw _ U ?_ ?_))))))
  .intro h1;replace h1:=AM h1;refine Ay (Aa (A1 (Ck [([0,1,2,3,4,5,6,7,8,9,10,11,12],13),([14],15)] (fun z=>z.heap[q]?=some (Bl 23 (CP g m))) [13,15] Br (H.drew.get at0) ?_)));refine AD U U (B3 U (Bj U (B3 U (Bj U (B3 U (Bj U (AP Bh Bq U U ?_)))))));refine B0 B6 U (fun _ hx=>(CC hx)) (B3 U (Bj U (AP Bh Bq U U ?_)));refine B0 B6 U (fun _ hx=>(CC hx)) (AP Bh Bq U U ?_);refine AU ?_;replace H:=H.drew;refine Cl i (fun z => .int .u64 (if z=i then g j else g z)) (.int _ _) Bq U U U H at0 (by omega) (by rw[if_pos rfl];exact qaa (fun z=>Value.int .u64 (g z)) (by omega)) (fun z _ hz=>by rw[if_neg hz]) ?_;rintro w H;refine Ab (Bz U (AD U U ?_));refine AP Bh Bq U U ?_
   refine AU (Cl j (fun z => .int .u64 (sw g i j z)) (.int _ _) Bq U U U H at0 (by omega) (by rw[Ep];exact qaa (fun z=>Value.int .u64 (g z)) (by omega)) (fun z _ hz=>by rw[Em hz]) ?_);rintro w H;refine Ab (Bz U (BF (Ae (Af U (Az U U ?_)))));refine Ad U (qA (A0 (Af U (Bo U U ?_))));refine Ad U (Ab (A8 (Aa ?_)));exact⟨(i+1,j - 1,sw g i j),rfl,⟨qaa (Value.int .i64) (by dsimp only;omega),qaa (Value.int .i64) (by dsimp only;omega),trivial⟩,⟨by dsimp only;omega,by dsimp only;omega,by dsimp only;omega,hS.step i j ⟨by omega,by omega⟩ ⟨by omega,by omega⟩,H⟩,by dsimp only;omega⟩
  .intro h1;replace h1:=AN h1;refine Bt (An (An (AK (CV U U ?_))));exact⟨rfl,g,hS,H⟩
end
structure PartU(g:Nat->Int)(a mid b:Nat):Prop where
 le:∀x,a<=x->x<mid->g x<=g mid
 ge:∀y,mid<y->y<b->g mid<=g y
theorem SF{g:Nat->Int}{a j b:Nat}(h1:∀x,a<x->x<=j->g x<g a)(h2:∀y,j<y->y<b->g a<=g y)(hj:a<=j:=by omega):PartU (sw g j a) a j b:=by
 have hv:sw g j a j=g a:=I8 g j a;refine⟨fun x hx hxj=>?_,fun y hy hyb=>?_⟩
 .rw[hv]
  by_cases e:x=a
  .rw[e,Ep];exact Int.le_of_lt (h1 j (by omega) (qam _))
  .rw[EX (h2:=e)];exact Int.le_of_lt (h1 x (by omega) (by omega))
 .rw[hv,EX];exact h2 y hy hyb
theorem SG{g:Nat->Int}{a i j b:Nat}(h:a+1<=i/\i<=j+1/\j<b/\(∀x,a<x->x<i->g x<g a)/\∀y,j<y->y<b->g a<=g y)(hij:i<j)(hi:g a<=g i)(hj:g j<g a) :
  a+1<=i+1/\i+1<=j - 1+1/\j - 1<b/\(∀x,a<x->x<i+1->sw g i j x<sw g i j a)/\∀y,j - 1<y->y<b->sw g i j a<=sw g i j y:=by
 obtain⟨h1,h2,h3,h4,h5⟩:=h;have ha:sw g i j a=g a:=EX;rw[ha];refine⟨by omega,by omega,by omega,fun x hx hxi=>?_,fun y hy hyb=>?_⟩
 .by_cases e:x=i
  .rw[e,I8];exact hj
  .rw[EX (h1:=e)];exact h4 x hx (by omega)
 .by_cases e:y=j
  .rw[e,Ep];exact hi
  .rw[EX (h2:=e)];exact h5 y (by omega) hyb
section
variable {w:World}{q n c m:Nat}{f:Nat->Int}
theorem Uk{a b p:Nat}(hd:w.heap[q]?=some (Bl 23 (CP f m)))(hn:n<=m)(hm:n<=1000000000)(hp:a<=p/\p<b)(hab:a<b:=by omega)(hb:b<=n:=by omega):
  Ret prog 189 #[.slice (some ⟨q,0,none⟩) n c,.int .i64 (a:Int),.int .i64 (b:Int),.int .i64 (p:Int)] w fun v w'=>∃(mid:Nat) (t:Bool) (g:Nat->Int),v=.tuple #[.int .i64 (mid:Int),.bool t]/\Sw a b f g/\a<=mid/\mid<b/\PartU g a mid b/\Ctx w [q] w' [(q,Bl 23 (CP g m))]:=by
 obtain⟨w0,rfl⟩:=qD w;have H:=Ctx.start1 hd;refine Au (fn:=f189) func189 U [.slice (some ⟨q,0,none⟩) n c,.int .i64 (a:Int),.int .i64 (b:Int),.int .i64 (p:Int)] U ?_;refine Ae (Ad U (Ai U (qA (Ck [([0,1,2,3,4,5,6,7,8,9,10,11,12],13),([14],15)] (fun z=>z.heap[q]?=some (Bl 23 (CP (f) m))) [13,15] Br (H.drew.get at0) ?_))));refine AD U U (B3 U (Bj U (B3 U (Bj U (B3 U (Bj U (AP Bh Bq U U ?_)))))));refine B0 B6 U (fun _ hx=>(CC hx)) (B3 U (Bj U (AP Bh Bq U U ?_)));refine B0 B6 U (fun _ hx=>(CC hx)) (AP Bh Bq U U ?_);refine AU ?_;replace H:=H.drew
 refine Cl (a) (fun z => .int .u64 (if z=a then(f) (p)else(f) z)) (.int _ _) Bq U U U H at0 (by omega) (by rw[if_pos rfl];exact qaa (fun z=>Value.int .u64 ((f) z)) (by omega)) (fun z _ hz=>by rw[if_neg hz]) ?_;rintro w H;refine Ab (Bz U (AD U U ?_));refine AP Bh Bq U U ?_;refine AU (Cl (p) (fun z => .int .u64 (sw (f) (a) (p) z)) (.int _ _) Bq U U U H at0 (by omega) (by rw[Ep];exact qaa (fun z=>Value.int .u64 ((f) z)) (by omega)) (fun z _ hz=>by rw[Em hz]) ?_);rintro w H;refine Ab (Bz U (BF ?_));have hS0:=(Sw.refl (a:=a) (b:=b) f).step a p ⟨by omega,by omega⟩ hp;obtain⟨g,hg⟩:=qD (sw f a p);rw[<-hg]at hS0 H;have hi0:a+1<=(a+1)/\(a+1)<=(b - 1)+1/\(b - 1)<b/\(∀x,a<x->x<(a+1)->(g) x<(g) a)/\∀y,(b - 1)<y->y<b->(g) a<=(g) y:=⟨qam _,by omega,by omega,fun x h1 h2=>by omega,fun y h1 h2=>by omega⟩
 refine Ae (Af U (Az U U ?_));rw[show(a:Int)+1=((a+1:Nat):Int)by omega];refine Af U (Bo U U ?_);rw[show(b:Int) - 1=((b - 1:Nat):Int)by omega];refine Ad U (Ad U (qA (Ax (A1 (Bw 70367670436864 (α:=Nat) (fun i=>[(10,.int .i64 (i:Int))]) (fun i w'=>(a+1<=i/\i<=(b - 1)+1/\(b - 1)<b/\(∀x,a<x->x<i->(g) x<(g) a)/\∀y,(b - 1)<y->y<b->(g) a<=(g) y)/\Ctx w0 [q] w' [(q,Bl 23 (CP (g) m))]) (fun i=>b - i) (a+1) U ?_ ?_ ?_)))))
 .exact⟨by rfl,trivial⟩
 .exact⟨by assumption,H⟩
 .rintro i jx w ⟨hiv,H⟩;refine Ax (DV 17591112302592 (α:=Unit) (fun _=>[(43,.bool (decide (i<=b - 1/\g i<g a)))]) (fun _ w'=>Ctx w0 [q] w' [(q,Bl 23 (CP (g) m))]) U ?_ ?_)
  .skip
   refine Gm 12 Br U U (AX U (AX U (PS U U (CW U (DK 33 U ?_ ?_)))))
   .intro h1;replace h1:=AM h1;refine Ca U (AX U (Bi Bh Bq U U ?_));refine BX B6 U (by rintro _ rfl;exact((CC (H.drew.get at0)))) ?_;refine Ca U (AX U (Bi Bh Bq U U ?_));refine BX B6 U (by rintro _ rfl;exact((CC (H.drew.get at0)))) ?_;refine BS ?_;replace H:=H.drew;refine Al qB (Fy _ _ _) U ?_;rintro v w ⟨rfl,rfl⟩;simp only[qbg];refine AA U (.bool _) U (qA ?_);exact⟨(),rfl,⟨qaa Value.bool (by clear hiv;rw[qad];simp_all;try omega),trivial⟩,H⟩
   .intro h2;replace h2:=AN h2;refine A3 U (A3 U (A3 U (A3 U (A3 U (A3 U (A3 U (A3 U (BS ?_))))))));replace H:=H.drew;refine Ag U (AJ U (.bool _) U (qA ?_));exact⟨(),rfl,⟨qaa Value.bool (by clear hiv;rw[qad];simp_all;try omega),trivial⟩,H⟩
  .rintro - jy w H;refine Aw _ U ?_ ?_
   .intro hc;have hc:=qba hc;refine Ay (Aa (A1 (A0 (Af U (Az U U ?_)))));refine Ad U (Ab (A8 (Aa ?_)));exact⟨i+1,rfl,⟨qaa (Value.int .i64) (by omega),trivial⟩,⟨⟨by omega,by omega,by omega,fun x h1 h2=>(if e:x=i then by rw[e];exact hc.2 else hiv.2.2.2.1 x h1 (by omega)),hiv.2.2.2.2⟩,H⟩,by omega⟩
   .intro hc;have hc:=qbn hc;have hci:=hc;have hi0:=hiv;refine Bt (An (An (AK (Aa (Ax (A1 (Bw 9223301668110600192 (α:=Nat) (fun j=>[(11,.int .i64 (j:Int))]) (fun j w'=>(a+1<=i/\i<=j+1/\j<b/\(∀x,a<x->x<i->(g) x<(g) a)/\∀y,j<y->y<b->(g) a<=(g) y)/\Ctx w0 [q] w' [(q,Bl 23 (CP (g) m))]) (fun j=>j) (b - 1) U ?_ ?_ ?_)))))))
    .exact⟨by rfl,trivial⟩
    .exact⟨by assumption,H⟩
    .rintro j jx w ⟨hiv,H⟩;refine Ax (DV 2305772640469516288 (α:=Unit) (fun _=>[(60,.bool (decide (i<=j/\g a<=g j)))]) (fun _ w'=>Ctx w0 [q] w' [(q,Bl 23 (CP (g) m))]) U ?_ ?_)
     .skip
      refine Gm 12 Br U U (AX U (AX U (PS U U (CW U (DK 49 U ?_ ?_)))))
      .intro h3;replace h3:=AM h3;refine Ca U (AX U (Bi Bh Bq U U ?_));refine BX B6 U (by rintro _ rfl;exact((CC (H.drew.get at0)))) ?_;refine Ca U (AX U (Bi Bh Bq U U ?_));refine BX B6 U (by rintro _ rfl;exact((CC (H.drew.get at0)))) ?_;refine BS ?_;replace H:=H.drew;refine Al qB (Fy _ _ _) U ?_;rintro v w ⟨rfl,rfl⟩;simp only[qbg];refine BP U (AA U (.bool _) U (qA ?_));exact⟨(),rfl,⟨qaa Value.bool (by clear hiv;rw[qad];simp_all;try omega),trivial⟩,H⟩
      .intro h4;replace h4:=AN h4;refine A3 U (A3 U (A3 U (A3 U (A3 U (A3 U (A3 U (A3 U (BS ?_))))))));replace H:=H.drew;refine Ag U (Ag U (AJ U (.bool _) U (qA ?_)));exact⟨(),rfl,⟨qaa Value.bool (by clear hiv;rw[qad];simp_all;try omega),trivial⟩,H⟩
     .rintro - jy w H;refine Aw _ U ?_ ?_
      .intro hc;have hc:=qba hc;refine Ay (Aa (A1 (A0 (Af U (Bo U U ?_)))));refine Ad U (Ab (A8 (Aa ?_)));exact⟨j - 1,rfl,⟨qaa (Value.int .i64) (by omega),trivial⟩,⟨⟨by omega,by omega,by omega,hiv.2.2.2.1,fun y h1 h2=>(if e:y=j then by rw[e];exact hc.2 else hiv.2.2.2.2 y (by omega) h2)⟩,H⟩,by omega⟩
      .intro hc;have hc:=qbn hc;have hci:¬(i<=j/\g i<g a):=fun h=>hci ⟨by omega,h.2⟩;refine Bt (An (An (AK (Aa (Ax (Ae (Af U (Af U (C8 U U (qA (Aw _ U ?_ ?_)))))))))))
       .intro h5;replace h5:=AM h5;have hji:j+1=i:=by omega
        refine Ck [([0,1,2,3,4,5,6,7,8,9,10,11,12],13),([14],15)] (fun z=>z.heap[q]?=some (Bl 23 (CP (g) m))) [13,15] Br (H.drew.get at0) (AD U U ?_);refine B3 U (Bj U (B3 U (Bj U (B3 U (Bj U (AP Bh Bq U U ?_))))));refine B0 B6 U (fun _ hx=>(CC hx)) (B3 U (Bj U (AP Bh Bq U U ?_)));refine B0 B6 U (fun _ hx=>(CC hx)) (AP Bh Bq U U ?_);refine AU ?_;replace H:=H.drew;refine Cl (j) (fun z => .int .u64 (if z=j then(g) (a)else(g) z)) (.int _ _) Bq U U U H at0 (by omega) (by rw[if_pos rfl];exact qaa (fun z=>Value.int .u64 ((g) z)) (by omega)) (fun z _ hz=>by rw[if_neg hz]) ?_;rintro w H;refine Ab (Bz U (AD U U ?_));refine AP Bh Bq U U ?_
        refine AU (Cl (a) (fun z => .int .u64 (sw (g) (j) (a) z)) (.int _ _) Bq U U U H at0 (by omega) (by rw[Ep];exact qaa (fun z=>Value.int .u64 ((g) z)) (by omega)) (fun z _ hz=>by rw[Em hz]) ?_);rintro w H;refine Ab (Bz U (BF (Ae (Af U (Ad U (Ai U (qA (A5 (Av (Cf (v1:=(.int _ _)) (v2:=(.bool _)) U U U U ?_))))))))));exact⟨j,true,sw g j a,rfl,hS0.step j a ⟨by omega,by omega⟩ ⟨by omega,by omega⟩,by omega,by omega,SF (fun x h1 h2=>hiv.2.2.2.1 x h1 (by omega)) hiv.2.2.2.2,H⟩
       .intro h5;replace h5:=AN h5
        have hne:i<j:=by
         rcases qap i j with h|h
         .exact h
         .obtain rfl:i=j:=by omega
          exact absurd ⟨qam i,by rcases qcq (g i) (g a)with h7|h7;exact absurd ⟨qam i,h7⟩ hci;exact h7⟩ hc
        have hgi:g a<=g i:=by rcases qcq (g i) (g a)with h7|h7;exact absurd ⟨by omega,h7⟩ hci;exact h7
        have hgj:g j<g a:=by rcases qcq (g j) (g a)with h7|h7;exact h7;exact absurd ⟨by omega,h7⟩ hc
        refine Ay (Aa (Ck [([0,1,2,3,4,5,6,7,8,9,10,11,12],13),([14],15)] (fun z=>z.heap[q]?=some (Bl 23 (CP (g) m))) [13,15] Br (H.drew.get at0) ?_));refine AD U U (B3 U (Bj U (B3 U (Bj U (B3 U (Bj U (AP Bh Bq U U ?_)))))));refine B0 B6 U (fun _ hx=>(CC hx)) (B3 U (Bj U (AP Bh Bq U U ?_)));refine B0 B6 U (fun _ hx=>(CC hx)) (AP Bh Bq U U ?_);refine AU ?_;replace H:=H.drew;refine Cl (i) (fun z => .int .u64 (if z=i then(g) (j)else(g) z)) (.int _ _) Bq U U U H at0 (by omega) (by rw[if_pos rfl];exact qaa (fun z=>Value.int .u64 ((g) z)) (by omega)) (fun z _ hz=>by rw[if_neg hz]) ?_;rintro w H;refine Ab (Bz U (AD U U ?_));refine AP Bh Bq U U ?_
        refine AU (Cl (j) (fun z => .int .u64 (sw (g) (i) (j) z)) (.int _ _) Bq U U U H at0 (by omega) (by rw[Ep];exact qaa (fun z=>Value.int .u64 ((g) z)) (by omega)) (fun z _ hz=>by rw[Em hz]) ?_);rintro w H;refine Ab (Bz U (BF (Ae (Af U (Az U U ?_)))));refine Ad U (qA (Ae (Af U (Bo U U ?_))));refine Ad U (qA (Ax (A1 (Bw 11417981541647678414640987641481260342710373376 (α:=Nat × Nat × (Nat->Int)) (fun t=>[(10,.int .i64 (t.1:Int)),(11,.int .i64 (t.2.1:Int))]) (fun t w'=>(a+1<=t.1/\t.1<=t.2.1+1/\t.2.1<b/\(∀x,a<x->x<t.1->(t.2.2) x<(t.2.2) a)/\∀y,t.2.1<y->y<b->(t.2.2) a<=(t.2.2) y)/\Sw a b f t.2.2/\Ctx w0 [q] w' [(q,Bl 23 (CP t.2.2 m))]) (fun t=>b - t.1) (i+1,j - 1,sw g i j) U ?_ ?_ ?_))))
        .exact⟨rfl,qaa (Value.int .i64) (by dsimp only;omega),trivial⟩
        .exact⟨SG hiv hne hgi hgj,hS0.step i j ⟨by omega,by omega⟩ ⟨by omega,by omega⟩,H⟩
        .rintro⟨i,j,g⟩ j0 w ⟨hi0,hS0,H⟩;dsimp only at hi0 hS0 H;dsimp only;obtain⟨i0,hi0e⟩:=qD i;obtain⟨j1,hj1e⟩:=qD j;have hi1:i0<=i/\a+1<=i/\i<=j+1/\j<b/\(∀x,a<x->x<i->(g) x<(g) a)/\∀y,j<y->y<b->(g) a<=(g) y:=⟨by omega,hi0⟩;refine A1 (Ax (A1 (Bw 41537741042978506913543222282159104 (α:=Nat) (fun i=>[(10,.int .i64 (i:Int))]) (fun i w'=>(i0<=i/\a+1<=i/\i<=j+1/\j<b/\(∀x,a<x->x<i->(g) x<(g) a)/\∀y,j<y->y<b->(g) a<=(g) y)/\Ctx w0 [q] w' [(q,Bl 23 (CP (g) m))]) (fun i=>j+1 - i) i U ?_ ?_ ?_)))
         .exact⟨by rfl,trivial⟩
         .exact⟨hi1,H⟩
         .rintro i jx w ⟨hiv,H⟩;refine Ax (DV 10383959891769541142360244306837504 (α:=Unit) (fun _=>[(112,.bool (decide (i<=j/\g i<g a)))]) (fun _ w'=>Ctx w0 [q] w' [(q,Bl 23 (CP (g) m))]) U ?_ ?_)
          .skip
           refine Gm 12 Br U U (AX U (AX U (PS U U (CW U (DK 102 U ?_ ?_)))))
           .intro h5;replace h5:=AM h5;refine Ca U (AX U (Bi Bh Bq U U ?_));refine BX B6 U (by rintro _ rfl;exact((CC (H.drew.get at0)))) ?_;refine Ca U (AX U (Bi Bh Bq U U ?_));refine BX B6 U (by rintro _ rfl;exact((CC (H.drew.get at0)))) ?_;refine BS ?_;replace H:=H.drew;refine Al qB (Fy _ _ _) U ?_;rintro v w ⟨rfl,rfl⟩;simp only[qbg];refine AA U (.bool _) U (qA ?_);exact⟨(),rfl,⟨qaa Value.bool (by clear hiv;rw[qad];simp_all;try omega),trivial⟩,H⟩
           .intro h6;replace h6:=AN h6;refine A3 U (A3 U (A3 U (A3 U (A3 U (A3 U (A3 U (A3 U (BS ?_))))))));replace H:=H.drew;refine Ag U (AJ U (.bool _) U (qA ?_));exact⟨(),rfl,⟨qaa Value.bool (by clear hiv;rw[qad];simp_all;try omega),trivial⟩,H⟩
          .rintro - jy w H;refine Aw _ U ?_ ?_
           .intro hc;have hc:=qba hc;refine Ay (Aa (A1 (A0 (Af U (Az U U ?_)))));refine Ad U (Ab (A8 (Aa ?_)));exact⟨i+1,rfl,⟨qaa (Value.int .i64) (by omega),trivial⟩,⟨⟨by omega,by omega,by omega,by omega,fun x h1 h2=>(if e:x=i then by rw[e];exact hc.2 else hiv.2.2.2.2.1 x h1 (by omega)),hiv.2.2.2.2.2⟩,H⟩,by omega⟩
           .intro hc;have hc:=qbn hc;have hci:=hc;have hi2:j<=j1/\a+1<=i/\i<=j+1/\j<b/\(∀x,a<x->x<i->(g) x<(g) a)/\∀y,j<y->y<b->(g) a<=(g) y:=⟨by omega,hiv.2⟩;have hi3:=hiv.1;refine Bt (An (An (AK (Aa (Ax (A1 (Bw 5444476332360147136792965474937657624576 (α:=Nat) (fun j=>[(11,.int .i64 (j:Int))]) (fun j w'=>(j<=j1/\a+1<=i/\i<=j+1/\j<b/\(∀x,a<x->x<i->(g) x<(g) a)/\∀y,j<y->y<b->(g) a<=(g) y)/\Ctx w0 [q] w' [(q,Bl 23 (CP (g) m))]) (fun j=>j) j U ?_ ?_ ?_)))))))
            .exact⟨by rfl,trivial⟩
            .exact⟨hi2,H⟩
            .rintro j jx w ⟨hiv,H⟩;refine Ax (DV 1361087929308885575232470185756439085056 (α:=Unit) (fun _=>[(129,.bool (decide (i<=j/\g a<=g j)))]) (fun _ w'=>Ctx w0 [q] w' [(q,Bl 23 (CP (g) m))]) U ?_ ?_)
             .skip
              refine Gm 12 Br U U (AX U (AX U (PS U U (CW U (DK 118 U ?_ ?_)))))
              .intro h7;replace h7:=AM h7;refine Ca U (AX U (Bi Bh Bq U U ?_));refine BX B6 U (by rintro _ rfl;exact((CC (H.drew.get at0)))) ?_;refine Ca U (AX U (Bi Bh Bq U U ?_));refine BX B6 U (by rintro _ rfl;exact((CC (H.drew.get at0)))) ?_;refine BS ?_;replace H:=H.drew;refine Al qB (Fy _ _ _) U ?_;rintro v w ⟨rfl,rfl⟩;simp only[qbg];refine BP U (AA U (.bool _) U (qA ?_));exact⟨(),rfl,⟨qaa Value.bool (by clear hiv;rw[qad];simp_all;try omega),trivial⟩,H⟩
              .intro h8;replace h8:=AN h8;refine A3 U (A3 U (A3 U (A3 U (A3 U (A3 U (A3 U (A3 U (BS ?_))))))));replace H:=H.drew;refine Ag U (Ag U (AJ U (.bool _) U (qA ?_)));exact⟨(),rfl,⟨qaa Value.bool (by clear hiv;rw[qad];simp_all;try omega),trivial⟩,H⟩
             .rintro - jy w H;refine Aw _ U ?_ ?_
              .intro hc;have hc:=qba hc;refine Ay (Aa (A1 (A0 (Af U (Bo U U ?_)))));refine Ad U (Ab (A8 (Aa ?_)));exact⟨j - 1,rfl,⟨qaa (Value.int .i64) (by omega),trivial⟩,⟨⟨by omega,by omega,by omega,by omega,hiv.2.2.2.2.1,fun y h1 h2=>(if e:y=j then by rw[e];exact hc.2 else hiv.2.2.2.2.2 y (by omega) h2)⟩,H⟩,by omega⟩
              .intro hc;have hc:=qbn hc;have hci:¬(i<=j/\g i<g a):=fun h=>hci ⟨by omega,h.2⟩;replace hiv:=hiv.2;refine Bt (An (An (AK (Aa (Ax (Ae (Af U (Af U (C8 U U (qA (Aw _ U ?_ ?_)))))))))))
               .intro h5;replace h5:=AM h5;have hji:j+1=i:=by omega
                refine Bt (An (FG U (An (AK (Aa (Ck [([0,1,2,3,4,5,6,7,8,9,10,11,12],13),([14],15)] (fun z=>z.heap[q]?=some (Bl 23 (CP (g) m))) [13,15] Br (H.drew.get at0) ?_))))));refine AD U U (B3 U (Bj U (B3 U (Bj U (B3 U (Bj U (AP Bh Bq U U ?_)))))));refine B0 B6 U (fun _ hx=>(CC hx)) (B3 U (Bj U (AP Bh Bq U U ?_)));refine B0 B6 U (fun _ hx=>(CC hx)) (AP Bh Bq U U ?_);refine AU ?_;replace H:=H.drew;refine Cl (j) (fun z => .int .u64 (if z=j then(g) (a)else(g) z)) (.int _ _) Bq U U U H at0 (by omega) (by rw[if_pos rfl];exact qaa (fun z=>Value.int .u64 ((g) z)) (by omega)) (fun z _ hz=>by rw[if_neg hz]) ?_;rintro w H;refine Ab (Bz U (AD U U ?_));refine AP Bh Bq U U ?_
                refine AU (Cl (a) (fun z => .int .u64 (sw (g) (j) (a) z)) (.int _ _) Bq U U U H at0 (by omega) (by rw[Ep];exact qaa (fun z=>Value.int .u64 ((g) z)) (by omega)) (fun z _ hz=>by rw[Em hz]) ?_);rintro w H;refine Ab (Bz U (BF (Ae (Af U (Ad U (Ai U (qA (A5 (Cf (v1:=(.int _ _)) (v2:=(.bool _)) U U U U ?_)))))))));exact⟨j,false,sw g j a,rfl,hS0.step j a ⟨by omega,by omega⟩ ⟨by omega,by omega⟩,by omega,by omega,SF (fun x h1 h2=>hiv.2.2.2.1 x h1 (by omega)) hiv.2.2.2.2,H⟩
               .intro h5;replace h5:=AN h5
                have hne:i<j:=by
                 rcases qap i j with h|h
                 .exact h
                 .obtain rfl:i=j:=by omega
                  exact absurd ⟨qam i,by rcases qcq (g i) (g a)with h7|h7;exact absurd ⟨qam i,h7⟩ hci;exact h7⟩ hc
                refine Ay (Aa (Ck [([0,1,2,3,4,5,6,7,8,9,10,11,12],13),([14],15)] (fun z=>z.heap[q]?=some (Bl 23 (CP (g) m))) [13,15] Br (H.drew.get at0) ?_));refine AD U U (B3 U (Bj U (B3 U (Bj U (B3 U (Bj U (AP Bh Bq U U ?_)))))));refine B0 B6 U (fun _ hx=>(CC hx)) (B3 U (Bj U (AP Bh Bq U U ?_)));refine B0 B6 U (fun _ hx=>(CC hx)) (AP Bh Bq U U ?_);refine AU ?_;replace H:=H.drew;refine Cl (i) (fun z => .int .u64 (if z=i then(g) (j)else(g) z)) (.int _ _) Bq U U U H at0 (by omega) (by rw[if_pos rfl];exact qaa (fun z=>Value.int .u64 ((g) z)) (by omega)) (fun z _ hz=>by rw[if_neg hz]) ?_;rintro w H;refine Ab (Bz U (AD U U ?_));refine AP Bh Bq U U ?_
                refine AU (Cl (j) (fun z => .int .u64 (sw (g) (i) (j) z)) (.int _ _) Bq U U U H at0 (by omega) (by rw[Ep];exact qaa (fun z=>Value.int .u64 ((g) z)) (by omega)) (fun z _ hz=>by rw[Em hz]) ?_);rintro w H;refine Ab (Bz U (BF (Ae (Af U (Az U U ?_)))));refine Ad U (qA (A0 (Af U (Bo U U ?_))));refine Ad U (Ab (A8 (Aa ?_)))
                have hgi:g a<=g i:=by rcases qcq (g i) (g a)with h7|h7;exact absurd ⟨by omega,h7⟩ hci;exact h7
                have hgj:g j<g a:=by rcases qcq (g j) (g a)with h7|h7;exact h7;exact absurd ⟨by omega,h7⟩ hc
                exact⟨(i+1,j - 1,sw g i j),rfl,⟨rfl,qaa (Value.int .i64) (by dsimp only;omega),trivial⟩,⟨SG hiv hne hgi hgj,hS0.step i j ⟨by omega,by omega⟩ ⟨by omega,by omega⟩,H⟩,by dsimp only;omega⟩
end
theorem Aj7{g:Nat->Int}{a i j b:Nat}(h:a+1<=i/\i<=j+1/\j<b/\(∀x,a<x->x<i->(g) x<=(g) a)/\∀y,j<y->y<b->(g) a<(g) y)(hij:i<j)(hi:g a<g i)(hj:g j<=g a):a+1<=i+1/\i+1<=(j - 1)+1/\(j - 1)<b/\(∀x,a<x->x<i+1->(sw g i j) x<=(sw g i j) a)/\∀y,(j - 1)<y->y<b->(sw g i j) a<(sw g i j) y:=by
 obtain⟨h1,h2,h3,h4,h5⟩:=h;have ha:sw g i j a=g a:=EX;rw[ha];refine⟨by omega,by omega,by omega,fun x hx hxi=>?_,fun y hy hyb=>?_⟩
 .by_cases e:x=i
  .rw[e,I8];exact hj
  .rw[EX (h1:=e)];exact h4 x hx (by omega)
 .by_cases e:y=j
  .rw[e,Ep];exact hi
  .rw[EX (h2:=e)];exact h5 y (by omega) hyb
section
variable {w:World}{q n c m:Nat}{f:Nat->Int}
theorem Aax{a b p:Nat}(hd:w.heap[q]?=some (Bl 23 (CP f m)))(hn:n<=m)(hm:n<=1000000000)(hp:a<=p/\p<b)(hab:a<b:=by omega)(hb:b<=n:=by omega):
  Ret prog 188 #[.slice (some ⟨q,0,none⟩) n c,.int .i64 (a:Int),.int .i64 (b:Int),.int .i64 (p:Int)] w fun v w'=>∃(i:Nat) (g:Nat->Int),v=.int .i64 (i:Int)/\Sw a b f g/\a<i/\i<=b/\g a=f p/\(∀x,a<=x->x<i->g x<=g a)/\(∀y,i<=y->y<b->g a<g y)/\Ctx w [q] w' [(q,Bl 23 (CP g m))]:=by
 obtain⟨w0,rfl⟩:=qD w;have H:=Ctx.start1 hd;refine Au (fn:=f188) func188 U [.slice (some ⟨q,0,none⟩) n c,.int .i64 (a:Int),.int .i64 (b:Int),.int .i64 (p:Int)] U ?_;refine Ae (Ad U (qA (Ck [([0,1,2,3,4,5,6,7,8,9,10,11,12],13),([14],15)] (fun z=>z.heap[q]?=some (Bl 23 (CP (f) m))) [13,15] Br (H.drew.get at0) ?_)));refine AD U U (B3 U (Bj U (B3 U (Bj U (B3 U (Bj U (AP Bh Bq U U ?_)))))));refine B0 B6 U (fun _ hx=>(CC hx)) (B3 U (Bj U (AP Bh Bq U U ?_)));refine B0 B6 U (fun _ hx=>(CC hx)) (AP Bh Bq U U ?_);refine AU ?_;replace H:=H.drew
 refine Cl (a) (fun z => .int .u64 (if z=a then(f) (p)else(f) z)) (.int _ _) Bq U U U H at0 (by omega) (by rw[if_pos rfl];exact qaa (fun z=>Value.int .u64 ((f) z)) (by omega)) (fun z _ hz=>by rw[if_neg hz]) ?_;rintro w H;refine Ab (Bz U (AD U U ?_));refine AP Bh Bq U U ?_;refine AU (Cl (p) (fun z => .int .u64 (sw (f) (a) (p) z)) (.int _ _) Bq U U U H at0 (by omega) (by rw[Ep];exact qaa (fun z=>Value.int .u64 ((f) z)) (by omega)) (fun z _ hz=>by rw[Em hz]) ?_);rintro w H;refine Ab (Bz U (BF ?_));have hS0:=(Sw.refl (a:=a) (b:=b) f).step a p ⟨by omega,by omega⟩ hp;obtain⟨g,hg⟩:=qD (sw f a p);have hga:g a=f p:=by rw[hg,I8]
 rw[<-hg]at hS0 H;refine Ae (Af U (Az U U ?_));rw[show(a:Int)+1=((a+1:Nat):Int)by omega];refine Af U (Bo U U ?_);rw[show(b:Int) - 1=((b - 1:Nat):Int)by omega];refine Ad U (Ad U (qA (Ax (A1 (Bw 9671406556917032860780032 (α:=Nat × Nat × (Nat->Int)) (fun t=>[(9,.int .i64 (t.1:Int)),(10,.int .i64 (t.2.1:Int))]) (fun t w'=>(a+1<=t.1/\t.1<=t.2.1+1/\t.2.1<b/\(∀x,a<x->x<t.1->(t.2.2) x<=(t.2.2) a)/\∀y,t.2.1<y->y<b->(t.2.2) a<(t.2.2) y)/\t.2.2 a=f p/\Sw a b f t.2.2/\Ctx w0 [q] w' [(q,Bl 23 (CP t.2.2 m))]) (fun t=>b - t.1) (a+1,b - 1,g) U ?_ ?_ ?_)))))
 .exact⟨rfl,rfl,trivial⟩
 .exact⟨⟨qam _,by dsimp only;omega,by dsimp only;omega,fun x h1 h2=>by dsimp only at h2;omega,fun y h1 h2=>by dsimp only at h1;omega⟩,hga,hS0,H⟩
 .rintro⟨i,j,g⟩ j0 w ⟨hi0,hga,hS0,H⟩;dsimp only at hi0 hga hS0 H;dsimp only;obtain⟨i0,hi0e⟩:=qD i;obtain⟨j1,hj1e⟩:=qD j;have hi1:i0<=i/\a+1<=i/\i<=j+1/\j<b/\(∀x,a<x->x<i->(g) x<=(g) a)/\∀y,j<y->y<b->(g) a<(g) y:=⟨by omega,hi0⟩;refine A1 (Ax (A1 (Bw 70368207307264 (α:=Nat) (fun i=>[(9,.int .i64 (i:Int))]) (fun i w'=>(i0<=i/\a+1<=i/\i<=j+1/\j<b/\(∀x,a<x->x<i->(g) x<=(g) a)/\∀y,j<y->y<b->(g) a<(g) y)/\Ctx w0 [q] w' [(q,Bl 23 (CP (g) m))]) (fun i=>j+1 - i) i U ?_ ?_ ?_)))
  .exact⟨by rfl,trivial⟩
  .exact⟨hi1,H⟩
  .rintro i jx w ⟨hiv,H⟩;refine Ax (DV 17591649173504 (α:=Unit) (fun _=>[(43,.bool (decide (i<=j/\¬g a<g i)))]) (fun _ w'=>Ctx w0 [q] w' [(q,Bl 23 (CP (g) m))]) U ?_ ?_)
   .skip
    refine Gm 12 Br U U (AX U (AX U (PS U U (CW U (DK 32 U ?_ ?_)))))
    .intro h1;replace h1:=AM h1;refine Ca U (AX U (Bi Bh Bq U U ?_));refine BX B6 U (by rintro _ rfl;exact((CC (H.drew.get at0)))) ?_;refine Ca U (AX U (Bi Bh Bq U U ?_));refine BX B6 U (by rintro _ rfl;exact((CC (H.drew.get at0)))) ?_;refine BS ?_;replace H:=H.drew;refine Al qB (Fy _ _ _) U ?_;rintro v w ⟨rfl,rfl⟩;simp only[qbg];refine BP U (AA U (.bool _) U (qA ?_));exact⟨(),rfl,⟨qaa Value.bool (by clear hiv;rw[qad];simp_all;try omega),trivial⟩,H⟩
    .intro h2;replace h2:=AN h2;refine A3 U (A3 U (A3 U (A3 U (A3 U (A3 U (A3 U (A3 U (BS ?_))))))));replace H:=H.drew;refine Ag U (Ag U (AJ U (.bool _) U (qA ?_)));exact⟨(),rfl,⟨qaa Value.bool (by clear hiv;rw[qad];simp_all;try omega),trivial⟩,H⟩
   .rintro - jy w H;refine Aw _ U ?_ ?_
    .intro hc;have hc:=qba hc;refine Ay (Aa (A1 (A0 (Af U (Az U U ?_)))));refine Ad U (Ab (A8 (Aa ?_)));exact⟨i+1,rfl,⟨qaa (Value.int .i64) (by omega),trivial⟩,⟨⟨by omega,by omega,by omega,by omega,fun x h1 h2=>(if e:x=i then by rw[e];omega else hiv.2.2.2.2.1 x h1 (by omega)),hiv.2.2.2.2.2⟩,H⟩,by omega⟩
    .intro hc;have hc:=qbn hc;have hci:=hc;have hi2:j<=j1/\a+1<=i/\i<=j+1/\j<b/\(∀x,a<x->x<i->(g) x<=(g) a)/\∀y,j<y->y<b->(g) a<(g) y:=⟨by omega,hiv.2⟩;have hi3:=hiv.1;refine Bt (An (An (AK (Aa (Ax (A1 (Bw 4611615649683211264 (α:=Nat) (fun j=>[(10,.int .i64 (j:Int))]) (fun j w'=>(j<=j1/\a+1<=i/\i<=j+1/\j<b/\(∀x,a<x->x<i->(g) x<=(g) a)/\∀y,j<y->y<b->(g) a<(g) y)/\Ctx w0 [q] w' [(q,Bl 23 (CP (g) m))]) (fun j=>j) j U ?_ ?_ ?_)))))))
     .exact⟨by rfl,trivial⟩
     .exact⟨hi2,H⟩
     .rintro j jx w ⟨hiv,H⟩;refine Ax (DV 1152851135862669312 (α:=Unit) (fun _=>[(59,.bool (decide (i<=j/\g a<g j)))]) (fun _ w'=>Ctx w0 [q] w' [(q,Bl 23 (CP (g) m))]) U ?_ ?_)
      .skip
       refine Gm 12 Br U U (AX U (AX U (PS U U (CW U (DK 49 U ?_ ?_)))))
       .intro h3;replace h3:=AM h3;refine Ca U (AX U (Bi Bh Bq U U ?_));refine BX B6 U (by rintro _ rfl;exact((CC (H.drew.get at0)))) ?_;refine Ca U (AX U (Bi Bh Bq U U ?_));refine BX B6 U (by rintro _ rfl;exact((CC (H.drew.get at0)))) ?_;refine BS ?_;replace H:=H.drew;refine Al qB (Fy _ _ _) U ?_;rintro v w ⟨rfl,rfl⟩;simp only[qbg];refine AA U (.bool _) U (qA ?_);exact⟨(),rfl,⟨qaa Value.bool (by clear hiv;rw[qad];simp_all;try omega),trivial⟩,H⟩
       .intro h4;replace h4:=AN h4;refine A3 U (A3 U (A3 U (A3 U (A3 U (A3 U (A3 U (A3 U (BS ?_))))))));replace H:=H.drew;refine Ag U (AJ U (.bool _) U (qA ?_));exact⟨(),rfl,⟨qaa Value.bool (by clear hiv;rw[qad];simp_all;try omega),trivial⟩,H⟩
      .rintro - jy w H;refine Aw _ U ?_ ?_
       .intro hc;have hc:=qba hc;refine Ay (Aa (A1 (A0 (Af U (Bo U U ?_)))));refine Ad U (Ab (A8 (Aa ?_)));exact⟨j - 1,rfl,⟨qaa (Value.int .i64) (by omega),trivial⟩,⟨⟨by omega,by omega,by omega,by omega,hiv.2.2.2.2.1,fun y h1 h2=>(if e:y=j then by rw[e];exact hc.2 else hiv.2.2.2.2.2 y (by omega) h2)⟩,H⟩,by omega⟩
       .intro hc;have hc:=qbn hc;have hci:¬(i<=j/\¬g a<g i):=fun h=>hci ⟨by omega,h.2⟩;replace hiv:=hiv.2;refine Bt (An (An (AK (Aa (Ax (Ae (Af U (Af U (C8 U U (qA (Aw _ U ?_ ?_)))))))))))
        .intro h5;replace h5:=AM h5;have hji:j+1=i:=by omega
         refine Bt (An (FG U (An (AK (Aa (Ae (Af U (Ad U (qA (A5 (AB (v:=(.int _ _)) U U U ?_)))))))))));exact⟨i,g,rfl,hS0,by omega,by omega,hga,fun x h1 h2=>(if e:x=a then by rw[e];exact qa3 _ else hiv.2.2.2.1 x (by omega) h2),fun y h1 h2=>hiv.2.2.2.2 y (by omega) h2,H⟩
        .intro h5;replace h5:=AN h5
         have hgi:g a<g i:=by rcases qcq (g a) (g i)with h7|h7;exact h7;exact absurd ⟨by omega,by omega⟩ hci
         have hgj:g j<=g a:=by rcases qcq (g a) (g j)with h7|h7;exact absurd ⟨by omega,h7⟩ hc;exact h7
         have hne:i<j:=by
          rcases qap i j with h|h
          .exact h
          .obtain rfl:i=j:=by omega
           omega
         refine Ay (Aa (Ck [([0,1,2,3,4,5,6,7,8,9,10,11,12],13),([14],15)] (fun z=>z.heap[q]?=some (Bl 23 (CP (g) m))) [13,15] Br (H.drew.get at0) ?_));refine AD U U (B3 U (Bj U (B3 U (Bj U (B3 U (Bj U (AP Bh Bq U U ?_)))))));refine B0 B6 U (fun _ hx=>(CC hx)) (B3 U (Bj U (AP Bh Bq U U ?_)));refine B0 B6 U (fun _ hx=>(CC hx)) (AP Bh Bq U U ?_);refine AU ?_;replace H:=H.drew;refine Cl (i) (fun z => .int .u64 (if z=i then(g) (j)else(g) z)) (.int _ _) Bq U U U H at0 (by omega) (by rw[if_pos rfl];exact qaa (fun z=>Value.int .u64 ((g) z)) (by omega)) (fun z _ hz=>by rw[if_neg hz]) ?_;rintro w H;refine Ab (Bz U (AD U U ?_));refine AP Bh Bq U U ?_
         refine AU (Cl (j) (fun z => .int .u64 (sw (g) (i) (j) z)) (.int _ _) Bq U U U H at0 (by omega) (by rw[Ep];exact qaa (fun z=>Value.int .u64 ((g) z)) (by omega)) (fun z _ hz=>by rw[Em hz]) ?_);rintro w H;refine Ab (Bz U (BF (Ae (Af U (Az U U ?_)))));refine Ad U (qA (A0 (Af U (Bo U U ?_))));refine Ad U (Ab (A8 (Aa ?_)));exact⟨(i+1,j - 1,sw g i j),rfl,⟨rfl,qaa (Value.int .i64) (by dsimp only;omega),trivial⟩,⟨Aj7 hiv hne hgi hgj,(EX).trans hga,hS0.step i j ⟨by omega,by omega⟩ ⟨by omega,by omega⟩,H⟩,by dsimp only;omega⟩
theorem XC{a b:Nat}(hd:w.heap[q]?=some (Bl 23 (CP f m)))(hn:n<=m)(hm:n<=1000000000)(hLB:0<a->∀x,a<=x->x<b->f (a - 1)<=f x)(hab:a<b:=by omega)(hb:b<=n:=by omega):
  Ret prog 186 #[.slice (some ⟨q,0,none⟩) n c,.int .i64 (a:Int),.int .i64 (b:Int)] w fun v w'=>∃(t:Bool) (g:Nat->Int),v=.bool t/\Sw a b f g/\(t=true->Kz g a b)/\Ctx w [q] w' [(q,Bl 23 (CP g m))]:=by
 obtain⟨w0,rfl⟩:=qD w;have H:=Ctx.start1 hd;refine Au (fn:=f186) func186 U [.slice (some ⟨q,0,none⟩) n c,.int .i64 (a:Int),.int .i64 (b:Int)] U ?_;refine Ae (Ai U (qA (Ae (Af U (Az U U ?_)))));rw[show(a:Int)+1=((a+1:Nat):Int)by omega];refine Ad U (qA (Ax (Ae (Ad U (qA (A1 (Bw 10889035741470030830827987437816582760384 (α:=Nat × Nat × (Nat->Int)) (fun t=>[(8,.int .i64 (t.1:Int)),(7,.int .i64 (t.2.1:Int))]) (fun t w'=>t.1<=5/\(a+1<=t.2.1/\t.2.1<=b/\Kz t.2.2 a t.2.1)/\Sw a b f t.2.2/\Ctx w0 [q] w' [(q,Bl 23 (CP t.2.2 m))]) (fun t=>5 - t.1) (0,a+1,f) U ?_ ?_ ?_)))))))
 .exact⟨rfl,rfl,trivial⟩
 .exact⟨by dsimp only;omega,⟨qam _,by dsimp only;omega,fun x y h1 h2 h3=>by dsimp only at h3;omega⟩,.refl _,H⟩
 .rintro⟨st,i,g⟩ j0 w ⟨hst,hi0,hS0,H⟩;dsimp only at hst hi0 hS0 H;dsimp only;refine Ax (Ae (Af U (Bm U U (qA (Aw _ U ?_ ?_)))))
  .intro h1;replace h1:=AM h1
   have hLBg:0<a->∀g',Sw a b f g'->∀x,a<=x->x<b->g' (a - 1)<=g' x:=fun h0 g' h x hx hxb=>by
    obtain⟨z,hz1,hz2,hz3⟩:=h.mem x hx hxb;rw[h.out (a - 1) (.inl (by omega)),hz3];exact hLB h0 z hz1 hz2
   refine Ay (Aa (Ax (A1 (Ax (A1 (Bw 34359607424 (α:=Nat) (fun i=>[(7,.int .i64 (i:Int))]) (fun i w'=>(a+1<=i/\i<=b/\Kz g a i)/\Ctx w0 [q] w' [(q,Bl 23 (CP (g) m))]) (fun i=>b - i) i U ?_ ?_ ?_))))))
   .exact⟨by rfl,trivial⟩
   .exact⟨hi0,H⟩
   .rintro i jx w ⟨hiv,H⟩;refine Ax (DV 8589803520 (α:=Unit) (fun _=>[(32,.bool (decide (i<b/\¬g i<g (i - 1))))]) (fun _ w'=>Ctx w0 [q] w' [(q,Bl 23 (CP (g) m))]) U ?_ ?_)
    .skip
     refine Gm 13 Br U U (AX U (AX U (LO U U (CW U (DK 20 U ?_ ?_)))))
     .intro h1;replace h1:=AM h1;refine Ca U (AX U (Bi Bh Bq U U ?_));refine BX B6 U (by rintro _ rfl;exact((CC (H.drew.get at0)))) ?_;refine Ca U (AX U (EA U U ?_));refine Bi Bh Bq U U ?_;refine BX B6 U (by rintro _ rfl;exact((CC (H.drew.get at0)))) ?_;refine BS ?_;replace H:=H.drew;refine Al qB (Fy _ _ _) U ?_;rintro v w ⟨rfl,rfl⟩;rw[show((i:Int) - 1).toNat=i - 1 by omega,qbg];refine BP U (AA U (.bool _) U (qA ?_));exact⟨(),rfl,⟨qaa Value.bool (by clear hiv;rw[qad];simp_all;try omega),trivial⟩,H⟩
     .intro h2;replace h2:=AN h2;refine A3 U (A3 U (A3 U (A3 U (A3 U (A3 U (A3 U (A3 U (A3 U (BS ?_)))))))));replace H:=H.drew;refine Ag U (Ag U (AJ U (.bool _) U (qA ?_)));exact⟨(),rfl,⟨qaa Value.bool (by clear hiv;rw[qad];simp_all;try omega),trivial⟩,H⟩
    .rintro - jy w H;refine Aw _ U ?_ ?_
     .intro hc;have hc:=qba hc;refine Ay (Aa (A1 (A0 (Af U (Az U U ?_)))));refine Ad U (Ab (A8 (Aa ?_)));exact⟨i+1,rfl,⟨qaa (Value.int .i64) (by omega),trivial⟩,⟨⟨by omega,by omega,fun x y hx hxy hy=>(if e:y=i then(by rw[e];exact(if e2:x=i - 1 then by rw[e2];omega else qbh (hiv.2.2 x (i - 1) hx (by omega) (by omega)) (by omega)))else hiv.2.2 x y hx hxy (by omega))⟩,H⟩,by omega⟩
     .intro hc;have hc:=qbn hc;refine Bt (An (An (AK (Aa (Ax (Ae (Af U (Af U (C3 U U (qA (Aw _ U ?_ ?_)))))))))))
      .intro h2;replace h2:=AM h2;refine Ae (Ai U (qA (A5 (Av (AF (Av (Av (AF (Av (AB (v:=(.bool _)) U U U ?_))))))))));obtain rfl:i=b:=by omega
       exact⟨true,g,rfl,hS0,fun _=>hiv.2.2,H⟩
      .intro h2;replace h2:=AN h2;have hib:i<b:=by omega
       have hlt:g i<g (i - 1):=by rcases qcq (g i) (g (i - 1))with h7|h7;exact h7;exact absurd ⟨hib,by omega⟩ hc
       refine Ay (Aa (Ax (Ae (Af U (Af U (Bo U U ?_))))));refine Bm U U (qA (Aw _ U ?_ ?_))
       .intro h3;replace h3:=AM h3;refine Ae (Ai U (qA (A5 (Av (AF (Av (Av (AF (Av (AB (v:=(.bool _)) U U U ?_))))))))));exact⟨false,g,rfl,hS0,(fun h=>by cases h),H⟩
       .intro h3;replace h3:=AN h3;refine Ay (Aa (Ck [([0,1,2,3,4,5,6,7,8,9,10,11,12,13,14],15),([16],17)] (fun z=>z.heap[q]?=some (Bl 23 (CP (g) m))) [15,17] Br (H.drew.get at0) ?_));refine AD U U (B3 U (Bj U (B3 U (Bj U (Fq U U ?_)))));refine B3 U (Bj U (Fq U U ?_));refine AP Bh Bq U U (B0 B6 U (fun _ hx=>(CC hx)) ?_);refine B3 U (Bj U (AP Bh Bq U U ?_));refine B0 B6 U (fun _ hx=>(CC hx)) (AP Bh Bq U U ?_);refine AU ?_;replace H:=H.drew;refine Cl (i) (fun z => .int .u64 (if z=i then(g) (i - 1)else(g) z)) (.int _ _) Bq U U U H at0 (by omega) (by rw[if_pos rfl];exact qaa (fun z=>Value.int .u64 ((g) z)) (by omega)) (fun z _ hz=>by rw[if_neg hz]) ?_;rintro w H
        refine Ab (Bz U (AD U U ?_));refine AP Bh Bq U U ?_;refine AU (Cl (i - 1) (fun z => .int .u64 (sw (g) (i) (i - 1) z)) (.int _ _) Bq U U U H at0 (by omega) (by rw[Ep];exact qaa (fun z=>Value.int .u64 ((g) z)) (by omega)) (fun z _ hz=>by rw[Em hz]) ?_);rintro w H;refine Ab (Bz U (BF (Ax ?_)));have hS1:=hS0.step i (i - 1) ⟨by omega,by omega⟩ ⟨by omega,by omega⟩;have hI1:InsU (sw g i (i - 1)) a (i - 1) (i - 1):=fun x y hx hxy hy hne=>by rw[EX,EX];exact hiv.2.2 x y hx hxy (by omega)
        obtain⟨g1,hg1⟩:=qD (sw g i (i - 1));rw[<-hg1]at hS1 hI1 H;refine Ae (Af U (Af U (Bo U U ?_)));refine CM U U (qA (Gi 39614081252520482778344587776 (α:=Nat->Int) (fun _=>[]) (fun g w'=>Kz g a i/\Sw a b f g/\Ctx w0 [q] w' [(q,Bl 23 (CP g m))]) U ?_ ?_))
        .skip
         refine Aw _ U ?_ ?_
         .intro h4;replace h4:=AM h4;refine Ae (Af U (Bo U U ?_));rw[show(i:Int) - 1=((i - 1:Nat):Int)by omega];refine Ad U (qA (A1 (Bw 39614081238685424723062424064 (α:=Nat × (Nat->Int)) (fun t=>[(9,.int .i64 (t.1:Int))]) (fun t w'=>(a<=t.1/\t.1<=i - 1/\InsU t.2 a t.1 (i - 1))/\Sw a b f t.2/\Ctx w0 [q] w' [(q,Bl 23 (CP t.2 m))]) (fun t=>t.1) (i - 1,g1) U ?_ ?_ ?_)))
          .exact⟨rfl,trivial⟩
          .exact⟨⟨by dsimp only;omega,qam _,hI1⟩,hS1,H⟩
          .rintro⟨j,g⟩ j3 w ⟨hj,hS,H⟩;dsimp only at hj hS H;dsimp only;have hex:(a<j->g (j - 1)<=g j)->Kz g a i:=fun h7=>by have h8:=hj.2.2.done hj.1 h7;rw[show i - 1+1=i by omega]at h8;exact h8
           refine Ax (Ae (Af U (CM U U (qA (Aw _ U ?_ ?_)))))
           .intro h5;replace h5:=AM h5;refine Ay (Aa (Ax (A1 (Ax (Ej 9 Br U U ?_)))));refine Ca U (AX U (Bi Bh Bq U U ?_));refine BX B6 U (by rintro _ rfl;exact((CC (H.drew.get at0)))) ?_;refine Ca U (AX U (EA U U ?_));refine Bi Bh Bq U U ?_;refine BX B6 U (by rintro _ rfl;exact((CC (H.drew.get at0)))) ?_;refine BS ?_;replace H:=H.drew;refine Al qB (Fy _ _ _) U ?_;rintro v w ⟨rfl,rfl⟩;rw[show((j:Int) - 1).toNat=j - 1 by omega,qbg];refine BP U (qA (Aw _ U ?_ ?_))
            .intro h6;replace h6:=BM h6;have h6:¬g j<g (j - 1):=by simpa using h6
             refine Bt (An (FG U (An (An (AK (Aa ?_))))));exact⟨g,rfl,trivial,hex fun _=>by omega,hS,H⟩
            .intro h6;replace h6:=BN h6;have h6:g j<g (j - 1):=by simpa using h6
             have haj:a<j:=by
              rcases qap a j with h|h
              .exact h
              .obtain rfl:a=j:=by omega
               have:=hLBg (by omega) g hS a (qam _) hab;omega
             refine Ay (Aa (Ft [([0,1,2,3,4,5,6,7,8,9,10,11,12,13,14],15),([16],17)] (fun z=>z.heap[q]?=some (Bl 23 (CP (g) m))) [15,17] Br (H.drew.get at0) ?_));refine AD U U (B3 U (Bj U (B3 U (Bj U (Fq U U ?_)))));refine B3 U (Bj U (Fq U U ?_));refine AP Bh Bq U U (B0 B6 U (fun _ hx=>(CC hx)) ?_);refine B3 U (Bj U (AP Bh Bq U U ?_));refine B0 B6 U (fun _ hx=>(CC hx)) (AP Bh Bq U U ?_);refine AU ?_;replace H:=H.drew;refine Cl (j) (fun z => .int .u64 (if z=j then(g) (j - 1)else(g) z)) (.int _ _) Bq U U U H at0 (by omega) (by rw[if_pos rfl];exact qaa (fun z=>Value.int .u64 ((g) z)) (by omega)) (fun z _ hz=>by rw[if_neg hz]) ?_;rintro w H
             refine Ab (Bz U (AD U U ?_));refine AP Bh Bq U U ?_;refine AU (Cl (j - 1) (fun z => .int .u64 (sw (g) (j) (j - 1) z)) (.int _ _) Bq U U U H at0 (by omega) (by rw[Ep];exact qaa (fun z=>Value.int .u64 ((g) z)) (by omega)) (fun z _ hz=>by rw[Em hz]) ?_);rintro w H;refine Ab (Bz U (BF (A8 (Aa (A0 (Af U (Bo U U ?_)))))));refine Ad U (qA ?_);exact⟨(j - 1,sw g j (j - 1)),rfl,⟨qaa (Value.int .i64) (by dsimp only;omega),trivial⟩,⟨⟨by dsimp only;omega,by dsimp only;omega,hj.2.2.step haj hj.2.1 h6⟩,hS.step j (j - 1) ⟨by omega,by omega⟩ ⟨by omega,by omega⟩,H⟩,by dsimp only;omega⟩
           .intro h5;replace h5:=AN h5;refine Bt (An (An (AK (Aa ?_))));exact⟨g,rfl,trivial,hex fun _=>by omega,hS,H⟩
         .intro h4;replace h4:=AN h4;refine Ay (Aa ?_);exact⟨g1,rfl,trivial,fun x y hx hxy hy=>by omega,hS1,H⟩
        .rintro g2 j4 w ⟨hO2,hS2,H⟩;refine Ae (Af U (Af U (Bo U U ?_)));refine CM U U (qA (Aw _ U ?_ ?_))
         .intro h4;replace h4:=AM h4;refine Ae (Af U (Az U U ?_));rw[show(i:Int)+1=((i+1:Nat):Int)by omega];refine Ad U (qA (A1 (Bw 10889035738934729630371528634823176356864 (α:=Nat × (Nat->Int)) (fun t=>[(10,.int .i64 (t.1:Int))]) (fun t w'=>(i+1<=t.1/\t.1<=b/\Kz t.2 a i)/\Sw a b f t.2/\Ctx w0 [q] w' [(q,Bl 23 (CP t.2 m))]) (fun t=>b - t.1) (i+1,g2) U ?_ ?_ ?_)))
          .exact⟨rfl,trivial⟩
          .exact⟨⟨qam _,by dsimp only;omega,hO2⟩,hS2,H⟩
          .rintro⟨j,g⟩ j5 w ⟨hj,hS,H⟩;dsimp only at hj hS H;dsimp only;refine Ax (Ae (Af U (Af U (Bm U U (qA (Aw _ U ?_ ?_))))))
           .intro h5;replace h5:=AM h5;refine Ay (Aa (Ax (A1 (Ax (Ej 9 Br U U ?_)))));refine Ca U (AX U (Bi Bh Bq U U ?_));refine BX B6 U (by rintro _ rfl;exact((CC (H.drew.get at0)))) ?_;refine Ca U (AX U (EA U U ?_));refine Bi Bh Bq U U ?_;refine BX B6 U (by rintro _ rfl;exact((CC (H.drew.get at0)))) ?_;refine BS ?_;replace H:=H.drew;refine Al qB (Fy _ _ _) U ?_;rintro v w ⟨rfl,rfl⟩;rw[show((j:Int) - 1).toNat=j - 1 by omega,qbg];refine BP U (qA (Aw _ U ?_ ?_))
            .intro h6;replace h6:=BM h6;refine Bt (An (FG U (An (An (AK (A8 (Aa (A0 (Af U (Az U U ?_))))))))));refine Ad U (qA ?_);exact⟨(st+1,i,g),rfl,⟨rfl,rfl,trivial⟩,⟨by dsimp only;omega,⟨by dsimp only;omega,by dsimp only;omega,hj.2.2⟩,hS,H⟩,by dsimp only;omega⟩
            .intro h6;replace h6:=BN h6;refine Ay (Aa (Ft [([0,1,2,3,4,5,6,7,8,9,10,11,12,13,14],15),([16],17)] (fun z=>z.heap[q]?=some (Bl 23 (CP (g) m))) [15,17] Br (H.drew.get at0) ?_));refine AD U U (B3 U (Bj U (B3 U (Bj U (Fq U U ?_)))));refine B3 U (Bj U (Fq U U ?_));refine AP Bh Bq U U (B0 B6 U (fun _ hx=>(CC hx)) ?_);refine B3 U (Bj U (AP Bh Bq U U ?_));refine B0 B6 U (fun _ hx=>(CC hx)) (AP Bh Bq U U ?_);refine AU ?_;replace H:=H.drew;refine Cl (j) (fun z => .int .u64 (if z=j then(g) (j - 1)else(g) z)) (.int _ _) Bq U U U H at0 (by omega) (by rw[if_pos rfl];exact qaa (fun z=>Value.int .u64 ((g) z)) (by omega)) (fun z _ hz=>by rw[if_neg hz]) ?_;rintro w H
             refine Ab (Bz U (AD U U ?_));refine AP Bh Bq U U ?_;refine AU (Cl (j - 1) (fun z => .int .u64 (sw (g) (j) (j - 1) z)) (.int _ _) Bq U U U H at0 (by omega) (by rw[Ep];exact qaa (fun z=>Value.int .u64 ((g) z)) (by omega)) (fun z _ hz=>by rw[Em hz]) ?_);rintro w H;refine Ab (Bz U (BF (A8 (Aa (A0 (Af U (Az U U ?_)))))));refine Ad U (qA ?_);exact⟨(j+1,sw g j (j - 1)),rfl,⟨rfl,trivial⟩,⟨⟨by dsimp only;omega,by dsimp only;omega,fun x y hx hxy hy=>by dsimp only;rw[EX,EX];exact hj.2.2 x y hx hxy hy⟩,hS.step j (j - 1) ⟨by omega,by omega⟩ ⟨by omega,by omega⟩,H⟩,by dsimp only;omega⟩
           .intro h5;replace h5:=AN h5;refine Bt (An (An (AK (A8 (Aa (A0 (Af U (Az U U ?_))))))));refine Ad U (qA ?_);exact⟨(st+1,i,g),rfl,⟨rfl,rfl,trivial⟩,⟨by dsimp only;omega,⟨by dsimp only;omega,by dsimp only;omega,hj.2.2⟩,hS,H⟩,by dsimp only;omega⟩
         .intro h4;replace h4:=AN h4;refine Ay (A8 (Aa (A0 (Af U (Az U U ?_)))));refine Ad U (qA ?_);exact⟨(st+1,i,g2),rfl,⟨rfl,rfl,trivial⟩,⟨by dsimp only;omega,⟨by dsimp only;omega,by dsimp only;omega,hO2⟩,hS2,H⟩,by dsimp only;omega⟩
  .intro h1;replace h1:=AN h1;refine Bt (An (An (AK (Aa (Ae (Ai U (qA (A5 (AB (v:=(.bool _)) U U U ?_)))))))));exact⟨false,g,rfl,hS0,(fun h=>by cases h),H⟩
end
theorem XD(x:Nat)(w:World)(hx:x<=4503599627370496:=by omega):Ret prog 162 #[.int .u64 (x:Int)] w fun v w'=>∃r:Nat,v=.int .i64 (r:Int)/\x<2 ^ r/\r<=64/\(0<x->2 ^ r<=2*x)/\w=w':=by
 refine Au (fn:=f162) func162 U [.int .u64 (x:Int)] U (Ae (Ad U (qA (Ax (Aw _ U ?_ ?_)))))
 .intro h;cases h
 .intro h;refine Ay (Aa (Ae (Af U (Al qB (V8 x hx w) U ?_))));rintro v w ⟨r,rfl,h1,h2,h3,-,rfl⟩;refine Ad U (qA (A5 (AB (v:=(.int _ _)) U U U ?_)));exact⟨r,rfl,h1,h2,h3,rfl⟩
theorem Aj8(l:Nat)(w:World)(h0:0<l:=by omega)(hl:l<=1000000000:=by omega):Ret prog 207 #[.int .i64 (l:Int)] w fun v w'=>∃r:Nat,v=.int .u64 (r:Int)/\0<r/\r<=2*l/\w=w':=by
 refine Au (fn:=f207) func207 U [.int .i64 (l:Int)] U (Ae (Ad U (qA (Ae (Af U (D5 U Ho Q1 ?_))))));refine Al qB (XD l w) U ?_;rintro v w ⟨r,rfl,h1,h2,h3,rfl⟩;refine PW (a:=1) (n:=r) U U U h2 (Ad U (qA (A5 (AB (v:=(.int _ _)) U U U ?_))));have h4:=h3 h0;have h5:=Nat.two_pow_pos r;exact⟨2 ^ r,qaa (Value.int .u64) (by rw[Nat.one_mul,qbr (by omega)]),h5,h4,rfl⟩
theorem Afq{x y:Nat}(hx:x<18446744073709551616)(hy:y<18446744073709551616):x ^^^ y<18446744073709551616:=Nat.xor_lt_two_pow (n:=64) hx hy
section
variable {w:World}{q n c m s:Nat}{f:Nat->Int}
theorem Aj9{z:Nat}(hs:w.heap[s]?=some (Bl 283 [.int .u64 (z:Int)]))(hz:z<18446744073709551616) :
  Ret prog 208 #[ptr s] w fun v w'=>∃z':Nat,v=.int .u64 (z':Int)/\z'<18446744073709551616/\Ctx w [s] w' [(s,Bl 283 [.int .u64 (z':Int)])]:=by
 obtain⟨w0,rfl⟩:=qD w;have H:=Ctx.start1 hs;refine Au (fn:=f208) func208 U [.pointer (some ⟨s,0,none⟩)] U ?_;have b1:=qda (z*2 ^ 13) (show 0<18446744073709551616 by decide);obtain⟨y1,hy1⟩:=qD (z*2 ^ 13 % 18446744073709551616);rw[<-hy1]at b1;refine Ae (Ad U (qA (Ej 9 Br U U ?_)));refine BE U (AZ U (Cj Mm U (by rintro _ rfl;exact H.drew) at0 U ?_));refine BE U (AZ U (Cj Mm U (by rintro _ rfl;exact H.drew) at0 U ?_));refine Sg (a:=z) (n:=13) U U U ?_;rw[<-hy1];refine NA (a:=z) (b:=y1) U U U hz b1 (AZ U (BS ?_));replace H:=H.drew;refine Cb (.int _ _) TT U U U H at0 (by(simp;done)) ?_;rintro w H;refine qA ?_;obtain⟨z1,hz1⟩:=qD (z ^^^ y1);have c1:=Afq hz b1;rw[<-hz1]at c1;replace H:Ctx w0 [s] w [(s,Bl 283 [.int .u64 (z1:Int)])]:=by rw[hz1];exact H
 have b2:z1 / 2 ^ 7<18446744073709551616:=Nat.lt_of_le_of_lt (Nat.div_le_self _ _) c1;obtain⟨y2,hy2⟩:=qD (z1 / 2 ^ 7);rw[<-hy2]at b2;refine Ej 9 Br U U (BE U (AZ U (Cj Mm U (by rintro _ rfl;exact H.drew) at0 U ?_)));refine BE U (AZ U (Cj Mm U (by rintro _ rfl;exact H.drew) at0 U ?_));refine ZL (a:=z1) (n:=7) U U U ?_;rw[<-hy2];refine NA (a:=z1) (b:=y2) U U U c1 b2 (AZ U (BS ?_));replace H:=H.drew;refine Cb (.int _ _) TT U U U H at0 (by(simp;done)) ?_;rintro w H;refine qA ?_;obtain⟨z2,hz2⟩:=qD (z1 ^^^ y2);have c2:=Afq c1 b2;rw[<-hz2]at c2;replace H:Ctx w0 [s] w [(s,Bl 283 [.int .u64 (z2:Int)])]:=by rw[hz2];exact H
 have b3:=qda (z2*2 ^ 17) (show 0<18446744073709551616 by decide);obtain⟨y3,hy3⟩:=qD (z2*2 ^ 17 % 18446744073709551616);rw[<-hy3]at b3;refine Ej 9 Br U U (BE U (AZ U (Cj Mm U (by rintro _ rfl;exact H.drew) at0 U ?_)));refine BE U (AZ U (Cj Mm U (by rintro _ rfl;exact H.drew) at0 U ?_));refine Sg (a:=z2) (n:=17) U U U ?_;rw[<-hy3];refine NA (a:=z2) (b:=y3) U U U c2 b3 (AZ U (BS ?_));replace H:=H.drew;refine Cb (.int _ _) TT U U U H at0 (by(simp;done)) ?_;rintro w H;refine qA (Ae (A4 U (A9 U (AG Mm U H at0 U (Ad U (qA (A5 (AB (v:=(.int _ _)) U U U ?_))))))));exact⟨z2 ^^^ y3,rfl,Afq c2 b3,H⟩
theorem Afr{a b:Nat}(hd:w.heap[q]?=some (Bl 23 (CP f m)))(hn:n<=m)(hm:n<=1000000000)(hab:a<b:=by omega)(hb:b<=n:=by omega):
  Ret prog 183 #[.slice (some ⟨q,0,none⟩) n c,.int .i64 (a:Int),.int .i64 (b:Int)] w fun v w'=>v=.tuple #[]/\∃g,Sw a b f g/\Ctx w [q] w' [(q,Bl 23 (CP g m))]:=by
 obtain⟨w0,rfl⟩:=qD w;have H:=Ctx.start1 hd;obtain⟨l,rfl⟩:∃l,b=a+l:=⟨b - a,by omega⟩;have hl:((a+l:Nat):Int) - (a:Int)=(l:Int):=by omega
 refine Au (fn:=f183) func183 U [.slice (some ⟨q,0,none⟩) n c,.int .i64 (a:Int),.int .i64 ((a+l:Nat):Int)] U ?_;refine Ae (Af U (Af U (Bo U U ?_)));rw[hl];refine Ad U (qA (Ae (Af U (CM U U (qA (Aw _ U ?_ ?_))))))
 .intro h1;replace h1:=AM h1;refine Ae (Af U (D5 U Ho Apy ?_));refine Bc Ap6 H ?_;rintro b7 w - H;refine Cb (.int _ _) TT U U U H at0 (by decide) ?_;rintro w H;refine qA (Ae (Af U (Al qB (Aj8 l _) U ?_)));rintro v w ⟨M,rfl,hM0,hM,rfl⟩;refine Ad U (qA (Ae (Af U (Af U (KC U U (show _<=(9223372036854775807:Int)by omega) ?_)))));refine D0 U U (Az U U ?_);refine Bo U U ?_;rw[show(a:Int)+(l:Int) / 4*2 - 1=((a+l / 4*2 - 1:Nat):Int)by omega]
  refine Ad U (qA (A1 (Bw 36893488147351995904 (α:=Nat × (Nat->Int) × Nat) (fun t=>[(9,.int .i64 (t.1:Int))]) (fun t w'=>a<=t.1/\t.1<=a+l / 4*2+2/\t.2.2<18446744073709551616/\Sw a (a+l) f t.2.1/\Ctx w0 [q] w' [(b7,Bl 283 [.int .u64 (t.2.2:Int)]),(q,Bl 23 (CP t.2.1 m))]) (fun t=>a+l / 4*2+2 - t.1) (a+l / 4*2 - 1,f,l) U ?_ ?_ ?_)))
  .exact⟨rfl,trivial⟩
  .exact⟨by dsimp only;omega,by dsimp only;omega,by dsimp only;omega,.refl _,H⟩
  .rintro⟨i,g,z⟩ j0 w ⟨hi1,hi2,hz,hS,H⟩;dsimp only at hi1 hi2 hz hS H;dsimp only;refine Ax (Ae (Af U (Af U (Af U (KC U U (show _<=(9223372036854775807:Int)by omega) ?_)))));refine D0 U U (Az U U ?_);refine Az U U ?_;refine N7 U U U (qA (Aw _ U ?_ ?_))
   .intro h2;replace h2:=AM h2;refine Ay (Aa (Ax (A1 (Ae (Al qB (Aj9 (H.get at0) hz) U ?_)))));rintro v w ⟨z2,rfl,hz2,H2⟩;replace H:=Ctx.back (L1:=[_]) (L2:=[_]) H H2;refine Af U (PT U U U ?_);rw[show(M:Int) - 1=((M - 1:Nat):Int)by omega];refine Iq (a:=z2) (b:=M - 1) U U U (ha:=hz2) ?_;have hand:z2 &&& (M - 1)<=M - 1:=Nat.and_le_right;refine Di U Q1 Ho (Ad U (qA (Ax (Ae (Af U (Af U (CM U U (qA ?_))))))));obtain⟨r,hr⟩:=qD (z2 &&& (M - 1));have hr2:r<=M - 1:=by rw[hr];exact Nat.and_le_right
    rw[<-hr];refine Gi 123145302311936 (α:=Nat) (fun r=>[(10,.int .i64 (r:Int))]) (fun r w'=>r<l/\Ctx w0 [q] w' [(b7,Bl 283 [.int .u64 (z2:Int)]),(q,Bl 23 (CP g m))]) U ?_ ?_
    .skip
     refine Aw _ U ?_ ?_
     .intro h3;replace h3:=AM h3;refine A0 (Af U (Af U (Bo U U ?_)));refine Ad U (qA ?_);exact⟨r - l,rfl,⟨qaa (Value.int .i64) (by omega),trivial⟩,by omega,H⟩
     .intro h3;replace h3:=AN h3;refine Ay (Aa ?_);exact⟨r,rfl,⟨rfl,trivial⟩,by omega,H⟩
    .rintro r2 j1 w ⟨hr3,H⟩;refine Ft [([0,1,2,3,4,5,6,7,8,9,10,11,12,13,14,15,16],17),([18],19)] (fun z=>z.heap[q]?=some (Bl 23 (CP (g) m))) [17,19] Br (H.drew.get at1) (AD U U ?_);refine B3 U (Bj U (B3 U (Bj U (Bj U (EB U U ?_)))));refine B3 U (Bj U (Bj U (EB U U ?_)));refine AP Bh Bq U U (B0 B6 U (fun _ hx=>(CC hx)) ?_);refine B3 U (Bj U (AP Bh Bq U U ?_));refine B0 B6 U (fun _ hx=>(CC hx)) (AP Bh Bq U U ?_);refine AU ?_;replace H:=H.drew;refine Cl (i) (fun z => .int .u64 (if z=i then(g) (a+r2)else(g) z)) (.int _ _) Bq U U U H at1 (by omega) (by rw[if_pos rfl];exact qaa (fun z=>Value.int .u64 ((g) z)) (by omega)) (fun z _ hz=>by rw[if_neg hz]) ?_;rintro w H
     refine Ab (Bz U (AD U U ?_));refine AP Bh Bq U U ?_;refine AU (Cl (a+r2) (fun z => .int .u64 (sw (g) (i) (a+r2) z)) (.int _ _) Bq U U U H at1 (by omega) (by rw[Ep];exact qaa (fun z=>Value.int .u64 ((g) z)) (by omega)) (fun z _ hz=>by rw[Em hz]) ?_);rintro w H;refine Ab (Bz U (BF (A8 (Aa (A0 (Af U (Az U U ?_)))))));refine Ad U (qA ?_);exact⟨(i+1,sw g i (a+r2),z2),rfl,⟨rfl,trivial⟩,⟨by dsimp only;omega,by dsimp only;omega,hz2,hS.step i (a+r2) ⟨by omega,by omega⟩ ⟨by omega,by omega⟩,H⟩,by dsimp only;omega⟩
   .intro h2;replace h2:=AN h2;refine Bt (An (An (AK (CV U U ?_))));exact⟨rfl,g,hS,H.tail⟩
 .intro h1;replace h1:=AN h1;refine Ay (CV U U ?_);exact⟨rfl,f,.refl _,H⟩
end
structure PQ(f g:Nat->Int)(a b a' b':Nat):Prop where
 ha:a<=a'
 hab:a'<=b'
 hb:b'<=b
 sw:Sw a b f g
 out:∀x y,a<=x->x<y->y<b->¬(a'<=x/\y<b')->g x<=g y
 lb:0<a'->∀x,a'<=x->x<b'->g (a' - 1)<=g x
section
variable {f g g':Nat->Int}{a b a' b':Nat}
theorem PQ.swap(h:PQ f g a b a' b')(s:Sw a' b' g g'):PQ f g' a b a' b':=by
 refine⟨h.ha,h.hab,h.hb,h.sw.trans (s.mono h.ha h.hb),fun x y hx hxy hy hn=>?_,fun h0 x hx hxb=>?_⟩
 .by_cases ix:a'<=x/\x<b'
  .obtain⟨x2,h1,h2,h3⟩:=s.mem x ix.1 ix.2;rw[h3,s.out y (.inr (by omega))];exact h.out x2 y (qa6 h.ha h1) (by omega) hy (by omega)
  .rw[s.out x (by omega)]
   by_cases iy:a'<=y/\y<b'
   .obtain⟨y2,h1,h2,h3⟩:=s.mem y iy.1 iy.2;rw[h3];exact h.out x y2 hx (by omega) (qa7 h2 h.hb) (by omega)
   .rw[s.out y (by omega)];exact h.out x y hx hxy hy hn
 .obtain⟨x2,h1,h2,h3⟩:=s.mem x hx hxb;rw[h3,s.out (a' - 1) (.inl (by omega))];exact h.lb h0 x2 h1 h2
theorem PQ.done(h:PQ f g a b a' b')(s:Kz g a' b'):Kz g a b:=fun x y hx hxy hy=>by
 by_cases hn:a'<=x/\y<b'
 .exact s x y hn.1 hxy hn.2
 .exact h.out x y hx hxy hy hn
theorem PQ.eq{i:Nat}(h:PQ f g a b a' b')(h0:0<a')(hle:g a'<=g (a' - 1))(hi:a'<i)(hi2:i<=b')(h1:∀x,a'<=x->x<i->g x<=g a')(h2:∀y,i<=y->y<b'->g a'<g y):PQ f g a b i b':=by
 refine⟨by have:=h.ha;omega,hi2,h.hb,h.sw,fun x y hx hxy hy hn=>?_,fun _ x hx hxb=>?_⟩
 .by_cases hin:a'<=x/\y<b'
  .have hxi:x<i:=by omega
   have hx1:=h1 x hin.1 hxi
   rcases qap y i with h3|h3
   .have:=h.lb h0 y (by omega) hin.2;omega
   .have:=h2 y h3 hin.2;omega
  .exact h.out x y hx hxy hy hin
 .have e1:=h1 (i - 1) (by omega) (by omega);have e2:=h2 x hx hxb;omega
theorem PartU.sw{mid lo hi:Nat}(p:PartU g a' mid b')(s:Sw lo hi g g')(h:(a'<=lo/\hi<=mid)\/(mid<lo/\hi<=b')):PartU g' a' mid b':=by
 have hm:g' mid=g mid:=s.out mid (by omega);refine⟨fun x hx hxm=>?_,fun y hy hyb=>?_⟩
 .rw[hm]
  by_cases ix:lo<=x/\x<hi
  .obtain⟨x2,h1,h2,h3⟩:=s.mem x ix.1 ix.2;rw[h3];exact p.le x2 (by omega) (by omega)
  .rw[s.out x (by omega)];exact p.le x hx hxm
 .rw[hm]
  by_cases iy:lo<=y/\y<hi
  .obtain⟨y2,h1,h2,h3⟩:=s.mem y iy.1 iy.2;rw[h3];exact p.ge y2 (by omega) (by omega)
  .rw[s.out y (by omega)];exact p.ge y hy hyb
theorem PQ.right{mid:Nat}(h:PQ f g a b a' b')(hm1:a'<=mid)(hm2:mid<b')(p:PartU g a' mid b')(s:Kz g a' mid):PQ f g a b (mid+1) b':=by
 refine⟨by have:=h.ha;omega,by omega,h.hb,h.sw,fun x y hx hxy hy hn=>?_,fun _ x hx hxb=>p.ge x (by omega) hxb⟩
 by_cases hin:a'<=x/\y<b'
 .rcases qap y mid with h1|h1
  .exact s x y hin.1 hxy h1
  .have hxm:x<=mid:=by omega
   have e1:g x<=g mid:=by
    rcases qap x mid with h2|h2
    .exact p.le x hin.1 h2
    .rw[show x=mid by omega];exact qa3 _
   rcases qap mid y with h2|h2
   .exact qbh e1 (p.ge y h2 hin.2)
   .rw[show y=mid by omega];exact e1
 .exact h.out x y hx hxy hy hin
theorem PQ.left{mid:Nat}(h:PQ f g a b a' b')(hm1:a'<=mid)(hm2:mid<b')(p:PartU g a' mid b')(s:Kz g (mid+1) b'):PQ f g a b a' mid:=by
 refine⟨h.ha,hm1,by have:=h.hb;omega,h.sw,fun x y hx hxy hy hn=>?_,fun h0 x hx hxb=>h.lb h0 x hx (by omega)⟩
 by_cases hin:a'<=x/\y<b'
 .rcases qap mid x with h1|h1
  .exact s x y h1 hxy hin.2
  .have hym:mid<=y:=by omega
   have e1:g x<=g mid:=by
    rcases qap x mid with h2|h2
    .exact p.le x hin.1 h2
    .rw[show x=mid by omega];exact qa3 _
   rcases qap mid y with h2|h2
   .exact qbh e1 (p.ge y h2 hin.2)
   .rw[show y=mid by omega];exact e1
 .exact h.out x y hx hxy hy hin
end
structure QSt where
 a:Nat
 b:Nat
 lim:Nat
 t8:Bool
 t9:Bool
 g:Nat->Int
theorem Aqh{q n c m:Nat}(hn:n<=m)(hm:n<=1000000000):∀(Z:Nat) {w:World} {f:Nat->Int} {a b lim:Nat},b - a<Z->w.heap[q]?=some (Bl 23 (CP f m))->a<=b->b<=n->lim<=1000->(0<a->∀x,a<=x->x<b->f (a - 1)<=f x) ->
  Ret prog 161 #[.slice (some ⟨q,0,none⟩) n c,.int .i64 (a:Int),.int .i64 (b:Int),.int .i64 (lim:Int)] w fun v w'=>v=.tuple #[]/\∃g,Sw a b f g/\Kz g a b/\Ctx w [q] w' [(q,Bl 23 (CP g m))]:=by
 intro Z
 induction Z with
 |zero=>intro w f a b lim h;omega
 |succ Z ih =>
 intro w f a b lim hZ hd hab hb hlim hLB;obtain⟨w0,rfl⟩:=qD w;have H:=Ctx.start1 hd;refine Au (fn:=f161) func161 U [.slice (some ⟨q,0,none⟩) n c,.int .i64 (a:Int),.int .i64 (b:Int),.int .i64 (lim:Int)] U ?_;refine Ae (Ai U (qA (Ae (Ai U (qA (A1 (Bw 21778071482940061661655974875633165532942 (α:=QSt) (fun t=>[(1,.int .i64 (t.a:Int)),(2,.int .i64 (t.b:Int)),(3,.int .i64 (t.lim:Int)),(8,.bool t.t8),(9,.bool t.t9)]) (fun t w'=>t.lim<=1000/\PQ f t.g a b t.a t.b/\Ctx w0 [q] w' [(q,Bl 23 (CP t.g m))]) (fun t=>t.b - t.a) ⟨a,b,lim,true,true,f⟩ U ?_ ?_ ?_)))))))
 .exact⟨rfl,rfl,rfl,rfl,rfl,trivial⟩
 .exact⟨hlim,⟨qam _,hab,qam _,.refl _,fun x y h1 h2 h3 h4=>absurd ⟨h1,h3⟩ h4,hLB⟩,H⟩
 .rintro⟨a',b',lim,t8,t9,g⟩ j0 w ⟨hlim,P,H⟩;dsimp only at hlim P H;dsimp only;have hP1:=P.ha;have hP2:=P.hab;have hP3:=P.hb;refine A1 (Ae (Af U (Af U (Bo U U ?_))));refine Ad U (qA (Ax (Ae (Af U (N7 U U U (qA (Aw _ U ?_ ?_)))))))
  .intro h1;replace h1:=AM h1;refine Ae (Ap U (Af U (Af U (Al qB (Uj (a:=a') (b:=b') (H.get at0) hP2 hn hm) U ?_))));rintro rv w ⟨rfl,g2,s2,o2,H2⟩;replace H:=Ctx.back (L1:=[_]) (L2:=[]) H H2;refine qA (A5 (Av (AF (Av (AF (Gl U U ?_))))));exact⟨rfl,g2,(P.swap s2).sw,(P.swap s2).done o2,H⟩
  .intro h1;replace h1:=AN h1;refine Ay (Aa (Ax (Ae (Af U (C3 U U (qA (Aw _ U ?_ ?_)))))))
   .intro h2;replace h2:=AM h2;refine Ae (Ap U (Af U (Af U (Al qB (VA (a:=a') (b:=b') (H.get at0) hn hm) U ?_))));rintro rv w ⟨rfl,g2,s2,o2,H2⟩;replace H:=Ctx.back (L1:=[_]) (L2:=[]) H H2;refine qA (A5 (Av (AF (Av (AF (Gl U U ?_))))));exact⟨rfl,g2,(P.swap s2).sw,(P.swap s2).done o2,H⟩
   .intro h2;replace h2:=AN h2;refine Ay (Aa (Ax (Ae (A2 U (BP U (qA (Gi 4329327034376 (α:=Nat × (Nat->Int)) (fun t=>[(3,.int .i64 (t.1:Int))]) (fun t w'=>t.1<=1000/\PQ f t.2 a b a' b'/\Ctx w0 [q] w' [(q,Bl 23 (CP t.2 m))]) U ?_ ?_)))))))
    .skip
     refine Aw _ U ?_ ?_
     .intro h3;replace h3:=BM h3;refine Ae (Ap U (Af U (Af U (Al qB (Afr (a:=a') (b:=b') (H.get at0) hn hm) U ?_))));rintro rv w ⟨rfl,g2,s2,H2⟩;replace H:=Ctx.back (L1:=[_]) (L2:=[]) H H2;refine qA (A0 (Af U (Bo U U ?_)));refine Ad U (qA ?_);exact⟨(lim - 1,g2),rfl,⟨qaa (Value.int .i64) (by dsimp only;omega),trivial⟩,by dsimp only;omega,P.swap s2,H⟩
     .intro h3;replace h3:=BN h3;refine Ay (Aa ?_);exact⟨(lim,g),rfl,⟨rfl,trivial⟩,hlim,P,H⟩
    .rintro⟨lim,g⟩ j1 w ⟨hlim,P,H⟩;dsimp only at hlim P H;dsimp only;refine Ae (Ap U (Af U (Af U (Al qB (Afp (a:=a') (b:=b') (H.get at0) hn hm) U ?_))));rintro rv w ⟨p,hint,hp1,hp2,rfl,hx46⟩;replace H:=H.call hx46;refine Cr U (AH U U (AH U U (Ad U (Ad U (qA (Ax (Ae (Af U (C3 U U ?_)))))))));refine qA (Gi 2303591209400014848 (α:=Nat × Int × (Nat->Int)) (fun t=>[(11,.int .i64 (t.1:Int)),(12,.int .i64 t.2.1)]) (fun t w'=>a'<=t.1/\t.1<b'/\PQ f t.2.2 a b a' b'/\Ctx w0 [q] w' [(q,Bl 23 (CP t.2.2 m))]) U ?_ ?_)
     .skip
      refine Aw _ U ?_ ?_
      .intro h4;replace h4:=AM h4;refine Ae (Ap U (Af U (Af U (Al qB (XB (a:=a') (b:=b') (H.get at0) hn hm) U ?_))));rintro rv w ⟨rfl,g2,s2,H2⟩;replace H:=Ctx.back (L1:=[_]) (L2:=[]) H H2;refine qA (Ae (Af U (Bo U U ?_)));refine Af U (Af U (Bo U U ?_));refine Bo U U (Ad U (qA (A0 (Ad U (qA ?_)))));exact⟨(b' - 1 - (p - a'),1,g2),rfl,⟨qaa (Value.int .i64) (by dsimp only;omega),rfl,trivial⟩,by dsimp only;omega,by dsimp only;omega,P.swap s2,H⟩
      .intro h4;replace h4:=AN h4;refine Ay (Aa ?_);exact⟨(p,hint,g),rfl,⟨rfl,rfl,trivial⟩,hp1,hp2,P,H⟩
     .rintro⟨p,hint,g⟩ j2 w ⟨hp1,hp2,P,H⟩;dsimp only at hp1 hp2 P H;dsimp only;refine Ax (DV 587989967349491957760 (α:=Bool) (fun t=>[(68,.bool t)]) (fun _ w'=>Ctx w0 [q] w' [(q,Bl 23 (CP g m))]) U ?_ ?_)
      .skip
       refine A0 (A2 U (A2 U (AR 62 U ?_ ?_)))
       .intro h1;refine A2 U (AA U (.bool _) U (A2 U (AR 65 U ?_ ?_)))
        .intro h2;refine Af U (C3 U U (AA U (.bool _) U (qA ?_)));exact⟨_,rfl,⟨rfl,trivial⟩,H⟩
        .intro h3;refine Ag U (Ag U (AJ U (.bool _) U (qA ?_)));exact⟨_,rfl,⟨rfl,trivial⟩,H⟩
       .intro h4;refine Ag U (AJ U (.bool _) U (A2 U (Ag U (Ag U (AJ U (.bool _) U (qA ?_))))));exact⟨_,rfl,⟨rfl,trivial⟩,H⟩
      .rintro t68 j3 w H;refine Gi 8854437155380584775680 (α:=Nat->Int) (fun _=>[]) (fun g w'=>PQ f g a b a' b'/\Ctx w0 [q] w' [(q,Bl 23 (CP g m))]) U ?_ ?_
       .skip
        refine Aw _ U ?_ ?_
        .intro h5;refine Ae (Ap U (Af U (Af U (Al qB (XC (a:=a') (b:=b') (H.get at0) hn hm P.lb) U ?_))));rintro rv w ⟨t72,g2,rfl,s2,o2,H2⟩;replace H:=Ctx.back (L1:=[_]) (L2:=[]) H H2;refine qA (Aw _ U ?_ ?_)
         .intro h6;refine A5 (Av (AF (Av (AF (Gl U U ?_)))));exact⟨rfl,g2,(P.swap s2).sw,(P.swap s2).done (o2 h6),H⟩
         .intro h6;refine Ay (Aa ?_);exact⟨g2,rfl,trivial,P.swap s2,H⟩
        .intro h5;refine Ay (Aa ?_);exact⟨g,rfl,trivial,P,H⟩
       .rintro g j4 w ⟨P,H⟩;have hP1:=P.ha;have hP3:=P.hb;have e1:((a':Int) - 1).toNat=a' - 1:=by omega
        refine Ax (DV 309475565088379329434353664 (α:=Unit) (fun _=>[(87,.bool (decide (0<a'/\¬g (a' - 1)<g p)))]) (fun _ w'=>Ctx w0 [q] w' [(q,Bl 23 (CP g m))]) U ?_ ?_)
        .skip
         refine Gm 12 Br U U (AX U (Se U U U (CW U (DK 75 U ?_ ?_))))
         .intro h5;replace h5:=AM h5;refine Ca U (AX U (EA U U ?_));refine Bi Bh Bq U U ?_;refine BX B6 U (by rintro _ rfl;exact((CC (H.drew.get at0)))) ?_;refine Ca U (AX U (Bi Bh Bq U U ?_));refine BX B6 U (by rintro _ rfl;exact((CC (H.drew.get at0)))) ?_;refine BS ?_;replace H:=H.drew;refine Al qB (Fy _ _ _) U ?_;rintro v w ⟨rfl,rfl⟩;rw[e1,qbg];refine BP U (AA U (.bool _) U (qA ?_));exact⟨(),rfl,⟨qaa Value.bool (by clear P ih hLB;rw[qad];simp_all;try omega),trivial⟩,H⟩
         .intro h6;replace h6:=AN h6;refine A3 U (A3 U (A3 U (A3 U (A3 U (A3 U (A3 U (A3 U (A3 U (BS ?_)))))))));replace H:=H.drew;refine Ag U (Ag U (AJ U (.bool _) U (qA ?_)));exact⟨(),rfl,⟨qaa Value.bool (by clear P ih hLB;rw[qad];simp_all;try omega),trivial⟩,H⟩
        .rintro - j5 w H;refine Aw _ U ?_ ?_
         .intro h7;have h7:=qba h7;refine Ae (Ap U (Af U (Af U (Af U (Al qB (Aax (a:=a') (b:=b') (p:=p) (H.get at0) hn hm ⟨hp1,hp2⟩) U ?_)))));rintro rv w ⟨i,g2,rfl,s2,hi1,hi2,hga,o1,o2,H2⟩;replace H:=Ctx.back (L1:=[_]) (L2:=[]) H H2;refine Ad U (qA (Ae (Af U (Ad U (qA (Bt (An (AK (Aa ?_)))))))));have P2:=P.swap s2;have hout:=s2.out (a' - 1) (.inl (by omega));exact⟨⟨i,b',lim,t8,t9,g2⟩,rfl,⟨rfl,rfl,rfl,rfl,rfl,trivial⟩,⟨hlim,P2.eq h7.1 (by rw[hga,hout];omega) hi1 hi2 o1 o2,H⟩,by dsimp only;omega⟩
         .intro h7;refine Ay (Aa (Ae (Ap U (Af U (Af U (Af U (Al qB (Uk (a:=a') (b:=b') (p:=p) (H.get at0) hn hm ⟨hp1,hp2⟩) U ?_)))))));rintro rv w ⟨mid,t,g2,rfl,s2,hm1,hm2,PP,H2⟩;replace H:=Ctx.back (L1:=[_]) (L2:=[]) H H2;refine Cr U (AH U U (AH U U (Ad U (Ai U (qA ?_)))));have P2:=P.swap s2;refine Ae (A2 U (Ai U (qA (Ae (Af U (Af U (Bo U U ?_)))))));refine Af U (Af U (Bo U U ?_));refine Ad U (Ad U (qA (Ae (Af U (KC U U (show _<=(9223372036854775807:Int)by omega) ?_)))));refine Ad U (qA (Ae (Af U (Af U (Bm U U (qA (Aw _ U ?_ ?_)))))))
          .intro h8;replace h8:=AM h8;refine Ae (Af U (Af U (CM U U (Ai U (qA (Ae (Ap U (Af U (Af U ?_)))))))));refine Af U (Al qB (ih (a:=a') (b:=mid) (lim:=lim) (f:=g2) (by omega) (H.get at0) hm1 (by omega) hlim (fun h0 x hx hxb=>P2.lb h0 x hx (by omega))) U ?_);rintro rv w ⟨rfl,g3,s3,o3,H2⟩;replace H:=Ctx.back (L1:=[_]) (L2:=[]) H H2;refine qA (A0 (Af U (Az U U ?_)));refine Ad U (Ab (A8 (Aa ?_)));have P3:=P2.swap (s3.mono (qam _) (by omega));exact⟨⟨mid+1,b',lim,_,t,g3⟩,rfl,⟨rfl,rfl,rfl,rfl,rfl,trivial⟩,⟨hlim,P3.right hm1 hm2 (PartU.sw PP s3 (.inl ⟨qam _,qam _⟩)) o3,H⟩,by dsimp only;omega⟩
          .intro h8;replace h8:=AN h8;refine Ae (Af U (Af U (CM U U (Ai U (qA (Ae (Ap U (Af U (Az U U ?_)))))))));rw[show(mid:Int)+1=((mid+1:Nat):Int)by omega];refine Af U (Af U (Al qB (ih (a:=mid+1) (b:=b') (lim:=lim) (f:=g2) (by omega) (H.get at0) (by omega) (by omega) hlim (fun _ x hx hxb=>PP.ge x (by omega) hxb)) U ?_));rintro rv w ⟨rfl,g3,s3,o3,H2⟩;replace H:=Ctx.back (L1:=[_]) (L2:=[]) H H2;refine qA (A0 (Af U (Ad U (Ab (A8 (Aa ?_))))));have P3:=P2.swap (s3.mono (by omega) (qam _));have P4:=P3.left hm1 hm2 (PartU.sw PP s3 (.inr ⟨by omega,qam _⟩)) o3;exact⟨⟨a',mid,lim,_,t,g3⟩,rfl,⟨rfl,rfl,rfl,rfl,rfl,trivial⟩,⟨hlim,P4,H⟩,by show mid - a'<b' - a';omega⟩
theorem Afs{q n c m:Nat}{w:World}{f:Nat->Int}(hd:w.heap[q]?=some (Bl 23 (CP f m)))(hn:n<=m)(hm:n<=1000000000) :
  Ret prog 127 #[.slice (some ⟨q,0,none⟩) n c] w fun v w'=>v=.tuple #[]/\∃g,(tab g n).Perm (tab f n)/\Kz g 0 n/\Ctx w [q] w' [(q,Bl 23 (CP g m))]:=by
 obtain⟨w0,rfl⟩:=qD w;refine Au (fn:=f127) func127 U [.slice (some ⟨q,0,none⟩) n c] U ?_;refine Ae (Ap U (Be Bh U (Ad U (qA (A0 (Ap U (Af U (Af U (D5 U Ho Q1 ?_)))))))));refine Al qB (XD n _) U ?_;rintro v w ⟨r,rfl,h1,h2,h3,rfl⟩;refine Al qB (Aqh hn hm (n+1) (a:=0) (b:=n) (lim:=r) (by omega) hd (qaq _) (qam _) (by omega) (fun h=>absurd h (Nat.lt_irrefl _))) U ?_;rintro rv w ⟨rfl,g,s,o,H⟩;refine Ab (CV U U ?_);exact⟨rfl,g,s.perm (qam _),o,H⟩
theorem XE(c:Nat)(w:World):Ret prog 127 #[.slice none 0 c] w fun v w'=>v=.tuple #[]/\w=w':=by
 have ins:∀w,Ret prog 181 #[.slice none 0 c,.int .i64 0,.int .i64 0] w fun v w'=>v=.tuple #[]/\w=w':=fun w=>by
  refine Au (fn:=f181) func181 U [.slice none 0 c,.int .i64 0,.int .i64 0] U (Ae (Af U (Az U U ?_)));refine Ad U (qA (A1 (Bw 562949953420480 (α:=Unit) (fun _=>[(6,.int .i64 1)]) (fun _ w'=>w=w') (fun _=>0) () U ?_ ?_ ?_)))
  .exact⟨rfl,trivial⟩
  .rfl
  .rintro - j0 w rfl;refine Ax (Ae (Af U (Af U (Bm U U (qA (Aw _ U ?_ ?_))))))
   .intro h1;replace h1:=AM h1;omega
   .intro h1;replace h1:=AN h1;refine Bt (An (An (AK (CV U U ?_))));exact⟨rfl,rfl⟩
 have pdq:∀(r:Nat) (w:World),Ret prog 161 #[.slice none 0 c,.int .i64 0,.int .i64 0,.int .i64 (r:Int)] w fun v w'=>v=.tuple #[]/\w=w':=fun r w=>by
  refine Au (fn:=f161) func161 U [.slice none 0 c,.int .i64 0,.int .i64 0,.int .i64 (r:Int)] U ?_;refine Ae (Ai U (qA (Ae (Ai U (qA (A1 (Bw 21778071482940061661655974875633165532942 (α:=Unit) (fun _=>[(1,.int .i64 0),(2,.int .i64 0),(3,.int .i64 (r:Int)),(8,.bool true),(9,.bool true)]) (fun _ w'=>w=w') (fun _=>0) () U ?_ ?_ ?_)))))))
  .exact⟨rfl,rfl,rfl,rfl,rfl,trivial⟩
  .rfl
  .rintro - j0 w rfl;refine A1 (Ae (Af U (Af U (Bo U U ?_))));refine Ad U (qA (Ax (Ae (Af U (N7 U U U (qA (Aw _ U ?_ ?_)))))))
   .intro h1;replace h1:=AM h1;refine Ae (Ap U (Af U (Af U (Al qB (ins _) U ?_))));rintro v w ⟨rfl,rfl⟩;refine qA (A5 (Av (AF (Av (AF (Gl U U ?_))))));exact⟨rfl,rfl⟩
   .intro h1;replace h1:=AN h1;omega
 refine Au (fn:=f127) func127 U [.slice none 0 c] U (Ae (Ap U (Be Bh U (Ad U (qA (A0 (Ap U (Af U (Af U (D5 U Ho Q1 ?_))))))))));refine Al qB (XD 0 _) U ?_;rintro v w ⟨r,rfl,h1,h2,h3,rfl⟩;refine Al qB (pdq r _) U ?_;rintro v w ⟨rfl,rfl⟩;refine Ab (CV U U ?_);exact⟨rfl,rfl⟩
def Dp(x:Int):Bool:=decide (0<=x) && decide (x<=4503599627370496)
theorem Mw(x:Int)(w:World):Ret prog 96 #[.int .i64 x] w fun v w'=>v=.bool (Dp x)/\w=w':=by
 obtain⟨w0,rfl⟩:=qD w;refine Au (fn:=f96) func96 U [.int .i64 x] U (Ae (Ai U (qA (Ae (Af U (CM U U (A2 U (AR 5 U ?_ ?_))))))))
 .intro h1;replace h1:=AM h1;refine Af U (N7 U U U (AA U (.bool _) U (Ai U (qA (A5 (AB (v:=(.bool _)) U U U ?_))))));exact⟨qaa Value.bool (by unfold Dp;rw[qad];simp_all;try omega),rfl⟩
 .intro h2;replace h2:=AN h2;refine Ag U (Ag U (AJ U (.bool _) U (Ai U (qA (A5 (AB (v:=(.bool _)) U U U ?_))))));exact⟨qaa Value.bool (by unfold Dp;rw[qad];simp_all;try omega),rfl⟩
theorem SH(a:Option Addr)(n c:Nat)(xs:List Int)(w:World)(R:Rd w a 1 I1 xs)(hn:xs.length=n)(hn2:n<=1000000) :
  Ret prog 137 #[.slice a n c] w fun v w'=>v=.bool (xs.all Dp)/\w=w':=by
 subst hn;obtain⟨w0,rfl⟩:=qD w;refine Au (fn:=f137) func137 U [.slice a xs.length c] U (Ae (Ai U (qA (Ax (Ae (Ap U (Be Bf U (Af U (qA (A1 ?_))))))))));refine Bw 32660 (α:=Nat) (fun i=>[(7,.int .i64 (i:Int))]) (fun i w'=>i<=xs.length/\w0=w'/\∀(k:Nat) (x:Int),k<i->xs[k]?=some x->Dp x=true) (fun i=>xs.length - i) 0 U ?_ ?_ ?_
 .exact⟨rfl,trivial⟩
 .exact⟨qaq _,rfl,fun k x h=>absurd h (qbd _)⟩
 .rintro i j w ⟨hi,rfl,hb⟩;refine Ae (Bm U U (qA (Ax (Aw _ U ?_ ?_))))
  .intro h1;replace h1:=AM h1;obtain⟨x,hx⟩:=AE (l:=xs) (i:=i);refine Ay (Aa (Ax (A1 (Ae (Bg R Bf BD U U (by rfl) ?_)))));refine Bb B4 U ((R.fld hx U (j:=0) U)) (Ad U (qA (Ae (Af U (Al qB (Mw x _) U ?_)))));rintro v w ⟨rfl,rfl⟩;refine BP U (qA (Aw _ U ?_ ?_))
   .intro h2;replace h2:=BM h2;refine Ae (Ai U (qA (A5 (AF (Av (Av (AF (Av (AB (v:=(.bool _)) U U U ?_)))))))));refine⟨qaa Value.bool ?_,rfl⟩;exact(ET hx (show Dp x=false by simpa using h2)).symm
   .intro h2;replace h2:=BN h2;refine Ay (A8 (Aa (A0 (Az U U ?_))));refine Af U (qA ?_);refine⟨i+1,rfl,⟨rfl,trivial⟩,⟨by omega,rfl,fun k y hk hy=>?_⟩,by omega⟩
    rcases qap k i with h7|h7
    .exact hb k y h7 hy
    .obtain rfl:k=i:=by omega
     rw[hx]at hy;cases hy
     simpa using h2
  .intro h1;replace h1:=AN h1;refine Bt (An (An (AK (Aa (Ae (Ai U (qA (A5 (AB (v:=(.bool _)) U U U ?_)))))))));exact⟨qaa Value.bool (Gc fun k x hk hx=>hb k x (by omega) hx).symm,rfl⟩
def C2(xs:List Int):Int:=xs.foldl (·+·) 0
theorem Aay(xs:List Int):∀a:Int,xs.foldl (·+·) a=a+C2 xs:=by
 induction xs with
 |nil=>intro a;show a=a+0;omega
 |cons x xs ih =>
  intro a;show xs.foldl (·+·) (a+x)=a+xs.foldl (·+·) (0+x);rw[ih,ih (0+x)];omega
theorem LF{xs:List Int}{i:Nat}{x:Int}(h:xs[i]?=some x):C2 (xs.take (i+1))=C2 (xs.take i)+x:=by
 rw[qb6,h];unfold C2;rw[qdy];rfl
theorem Cm(x:Int)(xs:List Int):C2 (x::xs)=x+C2 xs:=by
 show xs.foldl (·+·) (0+x)=_;rw[Aay];omega
theorem F8(xs ys:List Int):C2 (xs++ys)=C2 xs+C2 ys:=by
 induction xs with
 |nil=>show C2 ys=0+_;omega
 |cons x xs ih=>rw[qck,Cm,Cm,ih];omega
theorem Aaz{xs ys:List Int}(h:xs.Perm ys):C2 xs=C2 ys:=by
 induction h with
 |nil=>rfl
 |cons x _ ih=>rw[Cm,Cm,ih]
 |swap x y l=>rw[Cm,Cm,Cm,Cm];omega
 |trans _ _ h1 h2=>exact h1.trans h2
theorem Hw{xs:List Int}(h:∀x∈xs,0<=x):0<=C2 xs:=by
 induction xs with
 |nil=>exact qa3 _
 |cons x xs ih =>
  rw[Cm];have:=h x (qak ..);have:=ih fun y hy=>h y (qaj _ hy);omega
theorem Aft(f:Nat->Int)(n:Nat):C2 (tab f n)=BJ f n:=by
 induction n with
 |zero=>rfl
 |succ n ih =>
  unfold tab at ih |-;rw[qdx,qav,F8,ih];show _+(0+f n)=BJ f n+f n;omega
def Fl(xs:List Int):Int × Int:=if xs.all Dp=false then(0,1)else if C2 xs<=4503599627370496 then(C2 xs,0)else(0,13)
theorem CT{x:Int}:Dp x=true↔0<=x/\x<=4503599627370496:=by unfold Dp;simp
theorem Ng(a:Option Addr)(n c:Nat)(xs:List Int)(w:World)(R:Rd w a 1 I1 xs)(hn:xs.length=n)(hn2:n<=1000000:=by omega):
  Ret prog 97 #[.slice a n c] w fun v w'=>v=.tuple #[.int .i64 (Fl xs).1,.int .i64 (Fl xs).2]/\w=w':=by
 subst hn;obtain⟨w0,rfl⟩:=qD w;refine Au (fn:=f97) func97 U [.slice a xs.length c] U (Ae (Ad U (Ad U (qA (Ax (Ae (Ap U (Al qB (SH a xs.length c xs _ R U hn2) U ?_))))))));rintro v w ⟨rfl,rfl⟩;refine BP U (qA (Aw _ U ?_ ?_))
 .intro h1;replace h1:=BM h1;refine Ae (Ad U (Ad U (qA (A5 (Av (Cf (v1:=(.int _ _)) (v2:=(.int _ _)) U U U U ?_))))));have h1':xs.all Dp=false:=by simpa using h1
  exact⟨by unfold Fl;rw[if_pos h1'],rfl⟩
 .intro h1;replace h1:=BN h1;have h1':xs.all Dp=true:=by simpa using h1
  have hall:∀(k:Nat) (x:Int),xs[k]?=some x->0<=x/\x<=4503599627370496:=fun k x hx=>CT.1 (qaw.1 h1' x (qac hx));have hpos:∀x∈xs,0<=x:=fun x hx=>(CT.1 (qaw.1 h1' x hx)).1;refine Ay (Aa (Ae (Ad U (qA (Ax (Ae (Ap U (Be Bf U (Af U (qA ?_))))))))));refine A1 (Bw 8384604 (α:=Nat) (fun i=>[(4,.int .i64 (C2 (xs.take i))),(12,.int .i64 (i:Int))]) (fun i w'=>i<=xs.length/\w0=w'/\C2 (xs.take i)<=4503599627370496) (fun i=>xs.length - i) 0 U ?_ ?_ ?_)
  .exact⟨rfl,rfl,trivial⟩
  .exact⟨qaq _,rfl,by show(0:Int)<=_;omega⟩
  .rintro i j w ⟨hi,rfl,hb⟩;have hs0:0<=C2 (xs.take i):=Hw fun y hy=>hpos y (qea hy);refine Ae (Bm U U (qA (Ax (Aw _ U ?_ ?_))))
   .intro h2;replace h2:=AM h2;obtain⟨x,hx⟩:=AE (l:=xs) (i:=i);obtain⟨hx0,hx1⟩:=hall i x hx;have hst:=LF hx;refine Ay (Aa (Ax (A1 (Ae (Bg R Bf BD U U (by rfl) ?_)))));refine Bb B4 U ((R.fld hx U (j:=0) U)) (Ad U (qA (Ae (Af U (Af U (Az U U ?_))))));rw[<-hst];refine Ad U (qA (Ae (Af U (Al qB (Mw (C2 (xs.take (i+1))) _) U ?_))));rintro v w ⟨rfl,rfl⟩;refine BP U (qA (Aw _ U ?_ ?_))
    .intro h3;replace h3:=BM h3;refine Ae (Ad U (Ad U (qA (A5 (AF (Av (Av (AF (Av (Cf (v1:=(.int _ _)) (v2:=(.int _ _)) U U U U ?_))))))))));have h4:Dp (C2 (xs.take (i+1)))=false:=by simpa using h3
     have h5:¬C2 (xs.take (i+1))<=4503599627370496:=fun h=>by
      rw[CT.2 ⟨by omega,h⟩]at h4;cases h4
     have h6:C2 xs=C2 (xs.take (i+1))+C2 (xs.drop (i+1)):=by rw[<-F8,qbq]
     have h7:=Hw (xs:=xs.drop (i+1)) fun y hy=>hpos y (qc7 hy);exact⟨by unfold Fl;rw[if_neg (by rw[h1'];decide),if_neg (by omega)],rfl⟩
    .intro h3;replace h3:=BN h3;refine Ay (A8 (Aa (A0 (Az U U ?_))));refine Af U (qA ?_);have h4:Dp (C2 (xs.take (i+1)))=true:=by simpa using h3
     exact⟨i+1,rfl,⟨rfl,rfl,trivial⟩,⟨by omega,rfl,(CT.1 h4).2⟩,by omega⟩
   .intro h2;replace h2:=AN h2;refine Bt (An (An (AK (Aa (Ae (Af U (Ad U (Ad U (qA (A5 (Cf (v1:=(.int _ _)) (v2:=(.int _ _)) U U U U ?_)))))))))));obtain rfl:i=xs.length:=by omega
    rw[qbm]at hb |-;exact⟨by unfold Fl;rw[if_neg (by rw[h1'];decide),if_pos hb],rfl⟩
section
variable {P:Program}{r:Option Nat}{ops rest:List Oper}{Q:Exit->Env->World->Prop}{e:Env}{w:World}{dst:Option Tmp}{ty:TypeId}{pos:String}{af:Array Edge}{g:Option (Nat × Bool)}
theorem Aka{t t2:TypeId}{x y:Operand}{a b:Int}(hg:AV ⟨dst,.binOp .quo t x y t2,ty,pos,af,g⟩ ops e=true)(hx:ev e x=.int .i64 a)(hy:ev e y=.int .i64 b)(h:A7 P r ops Q rest (put e dst (.int .i64 (a.tdiv b))) w)(hb:0<b:=by decide)(h1: -9223372036854775808<=a.tdiv b:=by omega)(h2:a.tdiv b<=9223372036854775807:=by omega):A7 P r ops Q (⟨dst,.binOp .quo t x y t2,ty,pos,af,g⟩::rest) e w :=
 B7 hg rfl (Ch hx hy (v := .int .i64 (a.tdiv b)) (by simp[binOp,Op.intDiv,show ¬b=0 from by omega,Dm (k := .i64) (n:=a.tdiv b) h1 h2])) h
end
theorem tdm(t:Int):∃q r,t.tdiv 4503599627370496=q/\t.tmod 4503599627370496=r/\t=4503599627370496*q+r /\ -4503599627370496<r/\r<4503599627370496/\(-9007199254740992<t->t<9007199254740992 -> -1<=q/\q<=1):=by
 refine⟨_,_,rfl,rfl,?_⟩
 rcases Vv t 0 with h|h
 .obtain⟨s,rfl⟩:∃s,t = -s:=⟨-t,by omega⟩;rw[Int.neg_tdiv,Int.neg_tmod,qeu (by omega),qek (by omega)];exact⟨by omega,by omega,by omega,fun h1 h2=>by omega⟩
 .rw[qeu h,qek h];exact⟨by omega,by omega,by omega,fun h1 h2=>by omega⟩
def GX(x:Int):Bool:=decide (-4503599627370496<=x) && decide (x<=4503599627370496)
def Jb(xs:List Int):Bool:=xs.all GX && decide (C2 xs=0)
theorem Afu(a:Option Addr)(n c:Nat)(xs:List Int)(w:World)(R:Rd w a 1 I1 xs)(hn:xs.length=n)(hn2:n<=1000000) :
  Ret prog 179 #[.slice a n c] w fun v w'=>v=.bool (Jb xs)/\w=w':=by
 subst hn;obtain⟨w0,rfl⟩:=qD w;refine Au (fn:=f179) func179 U [.slice a xs.length c] U (Ae (Ai U (qA (Ae (Ad U (Ad U (qA (Ax (Ae (Ap U ?_))))))))));refine Be Bf U (Af U (qA (A1 (Bw 536870492 (α:=Nat × Int × Int) (fun t=>[(3,.int .i64 t.2.1),(4,.int .i64 t.2.2),(9,.int .i64 (t.1:Int))]) (fun t w'=>t.1<=xs.length/\w0=w'/\C2 (xs.take t.1)=4503599627370496*t.2.1+t.2.2 /\ -4503599627370496<t.2.2/\t.2.2<4503599627370496 /\ -(t.1:Int)<=t.2.1/\t.2.1<=t.1/\∀(k:Nat) (x:Int),k<t.1->xs[k]?=some x->GX x=true) (fun t=>xs.length - t.1) (0,0,0) U ?_ ?_ ?_))))
 .exact⟨rfl,rfl,rfl,trivial⟩
 .exact⟨qaq _,rfl,rfl,by dsimp only;omega,by dsimp only;omega,by dsimp only;omega,by dsimp only;omega,fun k x h=>absurd h (qbd _)⟩
 .rintro⟨i,hh,ll⟩ j w ⟨hi,rfl,hs,hl1,hl2,hh1,hh2,hb⟩;dsimp only at hi hs hl1 hl2 hh1 hh2 hb;dsimp only;refine Ae (Bm U U (qA (Ax (Aw _ U ?_ ?_))))
  .intro h1;replace h1:=AM h1;obtain⟨x,hx⟩:=AE (l:=xs) (i:=i);refine Ay (Aa (Ax (A1 (Ae (Bg R Bf BD U U (by rfl) ?_)))));refine Bb B4 U ((R.fld hx U (j:=0) U)) ?_;refine Ad U (qA (Ax (Ae (Ci (α:=Unit) 516096 (fun _=>[(18,.bool (!GX x))]) (fun _ w'=>w'=w0) U ?_ ?_))))
   .refine Af U (Bm U U (A2 U (AR 15 U ?_ ?_)))
    .intro h1;replace h1:=AM h1;refine Ag U (Ag U (AA U (.bool _) U (Ab ?_)));exact⟨rfl,(),rfl,⟨qaa Value.bool (by unfold GX;rw[qad];simp_all;try omega),trivial⟩,rfl⟩
    .intro h2;replace h2:=AN h2;refine Af U (C8 U U (AJ U (.bool _) U (Ab ?_)));exact⟨rfl,(),rfl,⟨qaa Value.bool (by unfold GX;rw[qad];simp_all;try omega),trivial⟩,rfl⟩
   rintro - j18 w hw;subst hw;refine Aw _ U ?_ ?_
   .intro h2;replace h2:=BM h2;refine Ae (Ai U (qA (A5 (Av (AF (Av (Av (AF (Av (AB (v:=(.bool _)) U U U ?_))))))))));refine⟨qaa Value.bool ?_,rfl⟩;unfold Jb;rw[ET hx (show GX x=false by simpa using h2)];rfl
   .intro h2;replace h2:=BN h2;have h2':GX x=true:=by simpa using h2
    have h3 : -4503599627370496<=x/\x<=4503599627370496:=by unfold GX at h2';simpa using h2'
    have hst:=LF hx;obtain⟨q,r,hq,hr,he,hr1,hr2,hq2⟩:=tdm (ll+x);have hq3:=hq2 (by omega) (by omega);refine Ay (Aa (Ae (Af U (Af U (Az U U ?_)))));refine Ad U (qA (Ae (Af U (Af U (Aka U U U ?_)))));rw[hq];refine Az U U (Ad U (qA (A0 (Af U (Yq U U U (by decide) ?_)))));rw[hr];refine Ad U (Ab (A8 (Aa (A0 (Az U U ?_)))));refine Af U (qA ?_);refine⟨(i+1,hh+q,r),rfl,⟨rfl,rfl,rfl,trivial⟩,⟨by dsimp only;omega,rfl,by dsimp only;omega,hr1,hr2,by dsimp only;omega,by dsimp only;omega,fun k y hk hy=>?_⟩,by dsimp only;omega⟩
    rcases qap k i with h7|h7
    .exact hb k y h7 hy
    .obtain rfl:k=i:=by dsimp only at hk;omega
     rw[hx]at hy;cases hy;exact h2'
  .intro h1;replace h1:=AN h1;obtain rfl:i=xs.length:=by omega
   rw[qbm]at hs;have hall:xs.all GX=true:=Gc fun k x hk hx=>hb k x hk hx;refine Bt (An (An (AK (Aa (Ae (Af U (C3 U U (A2 U (AR 31 U ?_ ?_)))))))))
   .intro h3;replace h3:=AM h3;refine Af U (C3 U U (AA U (.bool _) U (Ai U (qA (A5 (AB (v:=(.bool _)) U U U ?_))))));exact⟨qaa Value.bool (by unfold Jb;rw[hall,qcl,qad];simp_all;try omega),rfl⟩
   .intro h4;replace h4:=AN h4;refine Ag U (Ag U (AJ U (.bool _) U (Ai U (qA (A5 (AB (v:=(.bool _)) U U U ?_))))));exact⟨qaa Value.bool (by unfold Jb;rw[hall,qcl,qad];simp_all;try omega),rfl⟩
def Dr(xs ys:List Int):List Int:=List.zipWith (·+·) xs ys
def DY(xs ys:List Int):Int :=
 if(decide (xs.length=ys.length) && (xs.all Dp && Jb ys))=false then 1 else if(Dr xs ys).all (fun x=>decide (0<=x))=false then 12 else if(Dr xs ys).all Dp=false then 13 else 0
theorem Lk{xs ys:List Int}{i:Nat}{x y:Int}(hx:xs[i]?=some x)(hy:ys[i]?=some y):(Dr xs ys)[i]?=some (x+y):=by
 unfold Dr;rw[qed,hx,hy]
theorem XF{xs ys:List Int}{i:Nat}{x y:Int}(hx:xs[i]?=some x)(hy:ys[i]?=some y):(Dr xs ys).take (i+1)=(Dr xs ys).take i++[x+y]:=by
 rw[qb6,Lk hx hy];rfl
theorem Aa0(a b:Option Addr)(n c m d:Nat)(xs ys:List Int)(w:World)(R:Rd w a 1 I1 xs)(hn:xs.length=n)(Ry:Rd w b 1 I1 ys)(hm:ys.length=m)(hm2:m<=1000000)(hn2:n<=1000000:=by omega):
  Ret prog 156 #[.slice a n c,.slice b m d] w fun v w'=>∃v',v=.tuple #[v',.int .i64 (DY xs ys)]/\(DY xs ys≠0->v'=.slice none 0 0)/\(DY xs ys=0->Fresh w w' 2 1 v' ((Dr xs ys).map Eb))/\Ext [] w w':=by
 subst hn hm;obtain⟨w0,rfl,H⟩:=qE w;refine Au (fn:=f156) func156 U [.slice a xs.length c,.slice b ys.length d] U ?_;refine Ae (Am U (Ad U (qA (Ax (Ae (Ci (α:=Unit) 33553408 (fun _=>[(24,.bool (!(decide (xs.length=ys.length) && (xs.all Dp && Jb ys))))]) (fun _ w'=>w'=w0) U ?_ ?_))))))
 .refine Ap U (Be Bf U (Ap U (Be Bf U (CK U U (A2 U (AR 15 U ?_ ?_))))))
  .intro h1;replace h1:=CY h1;refine Ag U (Ag U (Ag U (AA U (.bool _) U (A2 U (Ag U (Ag U (Ag U (AA U (.bool _) U (Ab ?_)))))))));exact⟨rfl,(),rfl,⟨qaa Value.bool (by generalize xs.all Dp=A at *;generalize Jb ys=B at *;rw[qad];simp_all;try omega),trivial⟩,rfl⟩
  .intro h2;replace h2:=CZ h2;refine Ap U (Al qB (SH a xs.length c xs _ R U hn2) U ?_);rintro v w ⟨rfl,rfl⟩;refine BP U (AJ U (.bool _) U (A2 U (AR 20 U ?_ ?_)))
   .intro h3;replace h3:=BM h3;refine Ag U (Ag U (Ag U (AA U (.bool _) U (Ab ?_))));exact⟨rfl,(),rfl,⟨qaa Value.bool (by generalize xs.all Dp=A at *;generalize Jb ys=B at *;rw[qad];simp_all;try omega),trivial⟩,rfl⟩
   .intro h4;replace h4:=BN h4;refine Ap U (Al qB (Afu b ys.length d ys _ Ry U hm2) U ?_);rintro v w ⟨rfl,rfl⟩;refine BP U (AJ U (.bool _) U (Ab ?_));exact⟨rfl,(),rfl,⟨qaa Value.bool (by generalize xs.all Dp=A at *;generalize Jb ys=B at *;rw[qad];simp_all;try omega),trivial⟩,rfl⟩
 rintro - j24 w hw;subst w;refine Aw _ U ?_ ?_
 .intro h1;replace h1:=BM h1;refine Ae (Am U (Ad U (qA (A5 (Av (Cf (v1:=(.slice _ _ _)) (v2:=(.int _ _)) U U U U ?_))))));have h1':DY xs ys=1:=by unfold DY;rw[if_pos (by simpa using h1)]
  exact⟨_,by rw[h1'],fun _=>rfl,(fun h=>by omega),H.ext⟩
 .intro h1;replace h1:=BN h1;have h1':(decide (xs.length=ys.length) && (xs.all Dp && Jb ys))=true:=by simpa using h1
  have h1c:¬(decide (xs.length=ys.length) && (xs.all Dp && Jb ys))=false:=by rw[h1'];decide
  have hE:=h1';simp only[qae,qar,qaw]at hE;obtain⟨hle,hma,hev⟩:=hE
  have hsm:∀y∈ys,-4503599627370496<=y/\y<=4503599627370496:=fun y hy=>by
   unfold Jb at hev;simp only[qae,qaw]at hev;have:=hev.1 y hy;unfold GX at this
   simpa using this
  have hlen:(Dr xs ys).length=xs.length:=by unfold Dr;rw[qc5];omega
  refine Ay (Aa (Ae (Am U (qA (Ae (Ad U (qA (Ax (Ae (Ap U ?_))))))))));refine Be Bf U (Af U (qA (A1 (Bw 1125899772625904 (α:=LSt × Int) (fun t=>[(6,.slice t.1.a t.1.i t.1.c),(7,.int .i64 t.2),(27,.int .i64 (t.1.i:Int))]) (fun t w'=>t.1.i<=xs.length/\OS t.1.a t.1.i t.1.c 1 t.1.full (((Dr xs ys).take t.1.i).map Eb)/\Ctx w0 [] w' (ent t.1.a 2 t.1.full)/\(∀(k:Nat) (x:Int),k<t.1.i->(Dr xs ys)[k]?=some x->0<=x)/\((t.2=0/\∀(k:Nat) (x:Int),k<t.1.i->(Dr xs ys)[k]?=some x->Dp x=true)\/(t.2=13/\(Dr xs ys).all Dp=false))) (fun t=>xs.length - t.1.i) (⟨0,none,0,[]⟩,0) U ?_ ?_ ?_))))
  .exact⟨rfl,rfl,rfl,trivial⟩
  .exact⟨qaq _,OS.nil,H,fun k x h=>absurd h (qbd _),.inl ⟨rfl,fun k x h=>absurd h (qbd _)⟩⟩
  .rintro⟨⟨i,a2,c2,full⟩,ov⟩ j w ⟨hi,O,H,hp,hov⟩;dsimp only at hi O H hp hov;dsimp only;refine Ae (Bm U U (qA (Ax (Aw _ U ?_ ?_))))
   .intro h2;replace h2:=AM h2;obtain⟨x,hx⟩:=AE (l:=xs) (i:=i);obtain⟨y,hy⟩:=AE (l:=ys) (i:=i);have hx1:=CT.1 (hma x (qac hx));have hy1:=hsm y (qac hy);have hat:=Lk hx hy;have htk:=XF hx hy;refine Ay (Aa (Ax (A1 (Ae (Af U (Bg R Bf BD U U (by rfl) ?_))))));refine Bb B4 U (((R.ext0 H.ext).fld hx U (j:=0) U)) (Ad U (Ad U (qA (Ae (Af U (Ap U (Af U (Bg Ry Bf BD U U (by rfl) ?_))))))));refine Bb B4 U (((Ry.ext0 H.ext).fld hy U (j:=0) U)) (Az U U ?_);refine Ad U (qA (Ax (A1 (Ae (Af U (Bm U U (Ai U (qA (Aw _ U ?_ ?_)))))))))
    .intro h3;replace h3:=AM h3;refine Ae (Am U (Ad U (qA (A5 (AF (Av (AF (Av (Av (AF (Av (Cf (v1:=(.slice _ _ _)) (v2:=(.int _ _)) U U U U ?_))))))))))))
     have h4:DY xs ys=12:=by
      unfold DY;rw[if_neg h1c,if_pos (ET hat (by simpa using h3))]
     exact⟨_,by rw[h4],fun _=>rfl,(fun h=>by omega),H.ext⟩
    .intro h3;replace h3:=AN h3
     have hp':∀(k:Nat) (z:Int),k<i+1->(Dr xs ys)[k]?=some z->0<=z:=fun k z hk hz=>by
      rcases qap k i with h7|h7
      .exact hp k z h7 hz
      .obtain rfl:k=i:=by omega
       rw[hat]at hz;cases hz;omega
     have hO:((Dr xs ys).take (i+1)).map Eb=((Dr xs ys).take i).map Eb++[.int .i64 (x+y)]:=by rw[htk,qav];rfl
     refine Ae (Af U (Al qB (Mw (x+y) _) U ?_));rintro v w ⟨rfl,rfl⟩;refine BP U (Ai U (qA (Aw _ U ?_ ?_)))
     .intro h4;replace h4:=BM h4;have h4':Dp (x+y)=false:=by simpa using h4
      refine A0 (Ad U (Ab (A8 (Aa (A0 (Ap U (Af U (Cp _ (.int _ _) Bf BD Fh U U U U H ?_))))))));rintro b47 w - H;refine Cy (L:=[]) Bf Bf BD Mn Fh U U U H O U (by simp[AY]) ?_;rintro a' c' full' w H O;refine Am U (Ab (A8 (Aa (A0 (Az U U ?_)))));refine Af U (qA ?_);exact⟨(⟨i+1,a',c',full'⟩,13),rfl,⟨rfl,rfl,rfl,trivial⟩,⟨by dsimp only;omega,by dsimp only;rw[hO];exact O,H,hp',.inr ⟨rfl,ET hat h4'⟩⟩,by dsimp only;omega⟩
     .intro h4;replace h4:=BN h4;have h4':Dp (x+y)=true:=by simpa using h4
      refine Ay (A8 (Aa (A0 (Ap U (Af U (Cp _ (.int _ _) Bf BD Fh U U U U H ?_))))));rintro b47 w - H;refine Cy (L:=[]) Bf Bf BD Mn Fh U U U H O U (by simp[AY]) ?_;rintro a' c' full' w H O;refine Am U (Ab (A8 (Aa (A0 (Az U U ?_)))));refine Af U (qA ?_);refine⟨(⟨i+1,a',c',full'⟩,ov),rfl,⟨rfl,rfl,rfl,trivial⟩,⟨by dsimp only;omega,by dsimp only;rw[hO];exact O,H,hp',?_⟩,by dsimp only;omega⟩
      rcases hov with⟨h5,h6⟩|h5
      .refine .inl ⟨h5,fun k z hk hz=>?_⟩
       rcases qap k i with h7|h7
       .exact h6 k z h7 hz
       .obtain rfl:k=i:=by dsimp only at hk;omega
        rw[hat]at hz;cases hz;exact h4'
      .exact .inr h5
   .intro h2;replace h2:=AN h2;obtain rfl:i=xs.length:=by omega
    have hpa:¬(Dr xs ys).all (fun x=>decide (0<=x))=false:=by
     rw[Gc fun k x hk hx=>qan (hp k x (by omega) hx)];decide
    rw[show(Dr xs ys).take xs.length=Dr xs ys by rw[<-hlen,qbm]]at O;refine Bt (An (An (AK (Aa (Ax (Ae (Af U (CK U U (qA (Aw _ U ?_ ?_))))))))))
    .intro h3;replace h3:=CY h3
     rcases hov with⟨h5,-⟩|⟨rfl,h6⟩
     .exact absurd h5 h3
     .refine Ae (Af U (Am U (Ad U (qA (A5 (Av (Cf (v1:=(.slice _ _ _)) (v2:=(.int _ _)) U U U U ?_)))))));have h4:DY xs ys=13:=by unfold DY;rw[if_neg h1c,if_neg hpa,if_pos h6]
      exact⟨_,by rw[h4],fun _=>rfl,(fun h=>by omega),H.ext⟩
    .intro h3;replace h3:=CZ h3;refine Ay (Aa (Ae (Ap U (Am U (Ad U (qA (A5 (Cf (v1:=(.slice _ _ _)) (v2:=(.int _ _)) U U U U ?_))))))))
     have h4:DY xs ys=0:=by
      unfold DY
      rcases hov with⟨-,h6⟩|⟨h5,-⟩
      .rw[if_neg h1c,if_neg hpa,if_neg (by rw[Gc fun k x hk hx=>h6 k x (by omega) hx];decide)]
      .omega
     exact⟨_,by rw[h4],(fun h=>absurd h4 h),(fun _=>Ctx.fresh (L:=[]) H O),H.ext⟩
structure DueK(b2 b:Nat)(o:Obj)(w:World):Prop where
 h2:w.heap[b2]?=some (Bl 130 [.map (some b)])
 hb:w.heap[b]?=some o
def Amn(m:List (Int × Value))(vis:List (Int × Value))(v:List Value)(vis':List (Int × Value)):Prop:=∃p,vis'=vis++[p]/\v=[.int .u64 p.1]/\p∈m/\vis.length<m.length
theorem Afv{b2 b:Nat}{o:Obj}{m:List (Int × Value)}(hM:Df .u64 m o):Ys prog 128 #[ptr b2] [] (fun _ w=>DueK b2 b o w) ([]:List (Int × Value)) (Amn m) (fun vis=>vis.Perm m) (fun _=>True):=by
 intro l w _ J E hJ0 hJs hEs hK hY;obtain⟨M0,hJ0⟩:=hJ0;obtain⟨w0,rfl,H⟩:=qE w;refine Au (fn:=f128) func128 U [.func (.yield l) #[] #[],.pointer (some ⟨b2,0,none⟩)] U ?_;have K0:=(hK _ _ _ hJ0).2;refine Ae (Bb F3 U ((by rw[Aj K0.h2];rfl)) ?_);refine UX U FT U H K0.hb hM ?_;rintro bi it w hV H;refine qA (A1 ?_);have hbi:w0.heap.size<=bi:=(H.own (bi,it) (qak ..)).elim (fun h=>by cases h) id;have hJ1:=hJs _ _ _ _ [] hJ0 (fun x hx=>by cases hx) H.ext
 have hM0:¬M0 bi:=fun h=>by
  have:=(hK _ _ _ hJ0).1 bi h;omega
 refine Bw 16328 (α:=List (Int × Value) × Obj) (fun _=>[]) (fun z w'=>VisO .u64 b m z.1 o z.2/\∃M,J z.1 M w'/\¬M bi/\w'.heap[bi]?=some z.2) (fun z=>m.length - z.1.length) (([]:List (Int × Value)),it) U ?_ ?_ ?_
 .exact trivial
 .exact⟨hV,M0,hJ1,hM0,H.get at0⟩
 .rintro⟨vis,it⟩ j w ⟨hV,M,hJ,hMb,hit⟩;dsimp only at hV hJ hit;dsimp only;have KK:=(hK _ _ _ hJ).2;obtain⟨w1,rfl⟩:=qD w;have H:=Ctx.start1 hit;have hT:∀x∈[bi],¬M x/\w0.heap.size<=x:=fun x hx=>by rw[qab]at hx;subst hx;exact⟨hMb,hbi⟩
  refine Ae (Yu U (fun _=>rfl) U H KK.hb at0 hV ?_);rintro vs more it' w hc H
  skip
  refine qA (Ax (Aw _ U ?_ ?_))
  .intro h1;obtain⟨p,hV'⟩:∃p,VisO .u64 b m (vis++[p]) o it':=hc.elim (fun h=>by rw[h.1]at h1;cases h1) fun h=>h.2;have hJw:=hJs _ _ _ _ [bi] hJ hT H.ext;have KR:=(hK _ _ _ hJw).2;have hle:=hV'.le;rw[qat]at hle;have hst:Amn m vis [.int .u64 p.1] (vis++[p]):=⟨p,rfl,rfl,hV'.mem p (by simp),by simp at hle;omega⟩;refine Ay (Aa (A1 (Ae (UY U U H KR.hb at0 hV' ?_))));refine AH U U (Ad U (qA ?_));have hY1:=hY vis [.int .u64 p.1] (vis++[p]) M w hst hJw;refine Ae (C7 (.func _ _ _) U ?_);refine Af U (Hl (vs:=[.int .u64 p.1]) U hY1 U ?_);rintro u w hu
   obtain⟨bb,rfl,hu1,hu0⟩:∃bb,u=.bool bb/\(bb=true->∃M,J (vis++[p]) M w/\¬M bi/\w.heap[bi]?=some it')/\(bb=false->E w):=hu.elim (fun h=>⟨true,h.1,fun _=>let ⟨M',h1,g⟩:=h.2;⟨M',h1,fun hx=>(g.new _ hx).elim hMb (fun h=>by have:=H.lt at0;omega),g.to (H.get at0) hMb⟩,fun h=>by cases h⟩) (fun h=>⟨false,h.1,(fun h=>by cases h),fun _=>h.2⟩);refine BP U (qA (Aw _ U ?_ ?_))
   .intro h2;replace h2:=BM h2;refine A5 (AF (Av (AF (Gl U U ?_))));exact .inr (hu0 (by simpa using h2))
   .intro h2;replace h2:=BN h2;refine Ay (A8 (Aa ?_));exact⟨(vis++[p],it'),rfl,trivial,⟨hV',hu1 (by simpa using h2)⟩,by dsimp only;rw[qat];simp;simp at hle;omega⟩
  .intro h1;obtain⟨hp,rfl⟩:vis.Perm m/\it'=it:=hc.elim (fun h=>h.2) fun h=>by rw[h.1]at h1;cases h1
   refine Bt (An (An (AK (CV U U ?_))));exact .inl ⟨vis,M,hp,hJs _ _ _ _ [bi] hJ hT H.ext⟩
end Go.Proofs.YtffclglpjlcojaaGreat
