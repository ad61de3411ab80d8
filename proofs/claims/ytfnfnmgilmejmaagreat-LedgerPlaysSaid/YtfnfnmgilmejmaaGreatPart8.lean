/- Part 8 of the proof. -/
import Derived.Test.YtfnfnmgilmejmaaGreatPart7
set_option maxRecDepth 20000
set_option maxHeartbeats 8000000
namespace Go.Proofs.YtfnfnmgilmejmaaGreat
open Go.GV Go.Proofs.Tryz
attribute [local irreducible] A4 W Wq Wt
variable{α β:Type}{k nx x y:Int}{l xs ys zs:List Int}{full:List Value}{b b2 bd bk c hi i lo m mid n q:Nat}{z:Nat->Int}{o:Obj}{t t2:TypeId}{v':Value}{w w0 w1:World}
structure PQ(f g:Nat->Int)(a b a' b':Nat):Prop where
 ha:a<=a'
 hab:a'<=b'
 hb:b'<=b
 sw:Sw a b f g
 out:∀x y,a<=x->x<y->y<b->¬(a'<=x/\y<b')->g x<=g y
 lb:0<a'->∀x,a'<=x->x<b'->g (a' - 1)<=g x
section
variable {f g g':Nat->Int}{a b a' b':Nat}
theorem PQ.swap(h:PQ f g a b a' b')(s:Sw a' b' g g'):PQ f g' a b a' b':=by
 refine⟨h.ha,h.hab,h.hb,h.sw.trans<|s.mono h.ha h.hb,fun x y hx hxy hy hn=>?_,fun h0 x hx hxb=>?_⟩
 .by_cases ix:a'<=x/\x<b'
  .obtain⟨x2,h1,h2,h3⟩:=s.mem x ix.1 ix.2;rw[h3,s.out y<|.inr<|by omega];exact h.out x2 y (qa3 h.ha h1) (by omega) hy<|by omega
  .rw[s.out x<|by omega]
   by_cases iy:a'<=y/\y<b'
   .obtain⟨y2,h1,h2,h3⟩:=s.mem y iy.1 iy.2;rw[h3];exact h.out x y2 hx (by omega) (qbb h2 h.hb)<|by omega
   .rw[s.out y<|by omega];exact h.out x y hx hxy hy hn
 .obtain⟨x2,h1,h2,h3⟩:=s.mem x hx hxb;rw[h3,s.out (a' - 1)<|.inl<|by omega];exact h.lb h0 x2 h1 h2
theorem PQ.done(h:PQ f g a b a' b')(s:II g a' b'):II g a b:=fun x y hx hxy hy=>by
 by_cases hn:a'<=x/\y<b'
 .exact s x y hn.1 hxy hn.2
 .exact h.out x y hx hxy hy hn
theorem PQ.eq(h:PQ f g a b a' b')(h0:0<a')(hle:g a'<=g (a' - 1))(hi:a'<i)(hi2:i<=b')(h1:∀x,a'<=x->x<i->g x<=g a')(h2:∀y,i<=y->y<b'->g a'<g y):PQ f g a b i b':=by
 refine⟨by have:=h.ha;omega,hi2,h.hb,h.sw,fun x y hx hxy hy hn=>?_,fun _ x hx hxb=>?_⟩
 .by_cases hin:a'<=x/\y<b'
  .have hxi:x<i:=by omega
   have hx1:=h1 x hin.1 hxi
   rcases qao y i with h3|h3
   .have:=h.lb h0 y (by omega) hin.2;omega
   .have:=h2 y h3 hin.2;omega
  .exact h.out x y hx hxy hy hin
 .have e1:=h1 (i - 1) (by omega) (by omega);have e2:=h2 x hx hxb;omega
theorem PartU.sw(p:PartU g a' mid b')(s:Sw lo hi g g')(h:(a'<=lo/\hi<=mid)\/(mid<lo/\hi<=b')):PartU g' a' mid b':=by
 have hm:g' mid=g mid:=s.out mid (by omega);refine⟨fun x hx hxm=>?_,fun y hy hyb=>?_⟩
 .rw[hm]
  by_cases ix:lo<=x/\x<hi
  .obtain⟨x2,h1,h2,h3⟩:=s.mem x ix.1 ix.2;rw[h3];exact p.le x2 (by omega)<|by omega
  .rw[s.out x<|by omega];exact p.le x hx hxm
 .rw[hm]
  by_cases iy:lo<=y/\y<hi
  .obtain⟨y2,h1,h2,h3⟩:=s.mem y iy.1 iy.2;rw[h3];exact p.ge y2 (by omega)<|by omega
  .rw[s.out y<|by omega];exact p.ge y hy hyb
theorem PQ.right(h:PQ f g a b a' b')(hm1:a'<=mid)(hm2:mid<b')(p:PartU g a' mid b')(s:II g a' mid):PQ f g a b (mid+1) b':=by
 refine⟨by have:=h.ha;omega,by omega,h.hb,h.sw,fun x y hx hxy hy hn=>?_,fun _ x hx hxb=>p.ge x (by omega) hxb⟩
 by_cases hin:a'<=x/\y<b'
 .rcases qao y mid with h1|h1
  .exact s x y hin.1 hxy h1
  .have hxm:x<=mid:=by omega
   have e1:g x<=g mid:=by
    rcases qao x mid with h2|h2
    .exact p.le x hin.1 h2
    .rw[show x=mid by omega];exact qa4 _
   rcases qao mid y with h2|h2
   .exact qbj e1 (p.ge y h2 hin.2)
   .rw[show y=mid by omega];exact e1
 .exact h.out x y hx hxy hy hin
theorem PQ.left(h:PQ f g a b a' b')(hm1:a'<=mid)(hm2:mid<b')(p:PartU g a' mid b')(s:II g (mid+1) b'):PQ f g a b a' mid:=by
 refine⟨h.ha,hm1,by have:=h.hb;omega,h.sw,fun x y hx hxy hy hn=>?_,fun h0 x hx hxb=>h.lb h0 x hx<|by omega⟩
 by_cases hin:a'<=x/\y<b'
 .rcases qao mid x with h1|h1
  .exact s x y h1 hxy hin.2
  .have hym:mid<=y:=by omega
   have e1:g x<=g mid:=by
    rcases qao x mid with h2|h2
    .exact p.le x hin.1 h2
    .rw[show x=mid by omega];exact qa4 _
   rcases qao mid y with h2|h2
   .exact qbj e1 (p.ge y h2 hin.2)
   .rw[show y=mid by omega];exact e1
 .exact h.out x y hx hxy hy hin
end
structure QSt where
 a:Nat
 b:Nat
 lim:Nat
 t8:Bool
 t9:Bool
 g:Nat->Int
theorem Ai2(hn:n<=m)(hm:n<=1000000000):∀(Z:Nat) {w:World} {f:Nat->Int} {a b lim:Nat},b - a<Z->w.heap[q]?=some (Bl 24 (CA f m))->a<=b->b<=n->lim<=1000->(0<a->∀x,a<=x->x<b->f (a - 1)<=f x) ->
  Ret prog 209 #[.slice (some ⟨q,0,none⟩) n c,.int .i64 (a:Int),.int .i64 (b:Int),.int .i64 (lim:Int)] w fun v w'=>v=.tuple #[]/\∃g,Sw a b f g/\II g a b/\Ctx w [q] w' [(q,Bl 24 (CA g m))]:=by
 intro Z
 induction Z with
 |zero=>intro w f a b lim h;omega
 |succ Z ih =>
 intro w f a b lim hZ hd hab hb hlim hLB;obtain⟨w0,rfl⟩:=qD w;have H:=Ctx.start1 hd;refine iG func209 U ?_;refine qG 9 ?_;refine AY 21778071482940061661655974875633165532942 (α:=QSt) (fun t=>[(1,.int .i64 (t.a:Int)),(2,.int .i64 (t.b:Int)),(3,.int .i64 (t.lim:Int)),(8,.bool t.t8),(9,.bool t.t9)]) (fun t w'=>t.lim<=1000/\PQ f t.g a b t.a t.b/\Ctx w0 [q] w' [(q,Bl 24 (CA t.g m))]) (fun t=>t.b - t.a) ⟨a,b,lim,true,true,f⟩ U ?_ ?_ ?_
 .exact⟨rfl,rfl,rfl,rfl,rfl,trivial⟩
 .exact⟨hlim,⟨qaq _,hab,qaq _,.refl _,fun x y h1 h2 h3 h4=>absurd ⟨h1,h3⟩ h4,hLB⟩,H⟩
 .rintro⟨a',b',lim,t8,t9,g⟩ j0 w ⟨hlim,P,H⟩;dsimp only at hlim P H;dsimp only;have hP1:=P.ha;have hP2:=P.hab;have hP3:=P.hb;refine qGp 14 ?_ ?_
  .intro h1;refine qG 4 ?_;refine Aj qB (PZ (a:=a') (b:=b') (H.get at0) hP2 hn hm) U ?_;rintro rv w ⟨rfl,g2,s2,o2,H2⟩;replace H:=Ctx.back (L1:=[_]) (L2:=[]) H H2;refine qG 8 ?_;exact⟨rfl,g2,(P.swap s2).sw,(P.swap s2).done o2,H⟩
  .intro h1;refine qGp 8 ?_ ?_
   .intro h2;refine qG 4 ?_;refine Aj qB (RJ (a:=a') (b:=b') (H.get at0) hn hm) U ?_;rintro rv w ⟨rfl,g2,s2,o2,H2⟩;replace H:=Ctx.back (L1:=[_]) (L2:=[]) H H2;refine qG 8 ?_;exact⟨rfl,g2,(P.swap s2).sw,(P.swap s2).done o2,H⟩
   .intro h2;refine qG 8 ?_;refine EH 4329327034376 (α:=Nat × (Nat->Int)) (fun t=>[(3,.int .i64 (t.1:Int))]) (fun t w'=>t.1<=1000/\PQ f t.2 a b a' b'/\Ctx w0 [q] w' [(q,Bl 24 (CA t.2 m))]) U ?_ ?_
    .skip
     refine iB U ?_ ?_
     .intro h3;refine qG 4 ?_;refine Aj qB (YU (a:=a') (b:=b') (H.get at0) hn hm) U ?_;rintro rv w ⟨rfl,g2,s2,H2⟩;replace H:=Ctx.back (L1:=[_]) (L2:=[]) H H2;refine qG 8 ?_;exact⟨(lim - 1,g2),rfl,⟨qaa (Value.int .i64) (by dsimp only;omega),trivial⟩,by dsimp only;omega,P.swap s2,H⟩
     .intro h3;refine A1<|Aa ?_;exact⟨(lim,g),rfl,⟨rfl,trivial⟩,hlim,P,H⟩
    .rintro⟨lim,g⟩ j1 w ⟨hlim,P,H⟩;dsimp only at hlim P H;dsimp only;refine qG 4 ?_;refine Aj qB (YS (a:=a') (b:=b') (H.get at0) hn hm) U ?_;rintro rv w ⟨p,hint,hp1,hp2,rfl,hx46⟩;replace H:=H.call hx46;refine qG 13 ?_;refine EH 2303591209400014848 (α:=Nat × Int × (Nat->Int)) (fun t=>[(11,.int .i64 (t.1:Int)),(12,.int .i64 t.2.1)]) (fun t w'=>a'<=t.1/\t.1<b'/\PQ f t.2.2 a b a' b'/\Ctx w0 [q] w' [(q,Bl 24 (CA t.2.2 m))]) U ?_ ?_
     .skip
      refine iB U ?_ ?_
      .intro h4;refine qG 4 ?_;refine Aj qB (TL (a:=a') (b:=b') (H.get at0) hn hm) U ?_;rintro rv w ⟨rfl,g2,s2,H2⟩;replace H:=Ctx.back (L1:=[_]) (L2:=[]) H H2;refine qG 16 ?_;exact⟨(b' - 1 - (p - a'),1,g2),rfl,⟨qaa (Value.int .i64) (by dsimp only;omega),rfl,trivial⟩,by dsimp only;omega,by dsimp only;omega,P.swap s2,H⟩
      .intro h4;refine A1<|Aa ?_;exact⟨(p,hint,g),rfl,⟨rfl,rfl,trivial⟩,hp1,hp2,P,H⟩
     .rintro⟨p,hint,g⟩ j2 w ⟨hp1,hp2,P,H⟩;dsimp only at hp1 hp2 P H;dsimp only;refine AB<|Dk 587989967349491957760 (α:=Bool) (fun t=>[(68,.bool t)]) (fun _ w'=>Ctx w0 [q] w' [(q,Bl 24 (CA g m))]) U ?_ ?_
      .skip
       refine qG 3 ?_;refine Az 62 U ?_ ?_
       .intro h1;refine qG 3 ?_;refine Az 65 U ?_ ?_
        .intro h2;refine qG 5 ?_;exact⟨_,rfl,⟨rfl,trivial⟩,H⟩
        .intro h3;refine qG 5 ?_;exact⟨_,rfl,⟨rfl,trivial⟩,H⟩
       .intro h4;refine qG 8 ?_;exact⟨_,rfl,⟨rfl,trivial⟩,H⟩
      .rintro t68 j3 w H;refine EH 8854437155380584775680 (α:=Nat->Int) (fun _=>[]) (fun g w'=>PQ f g a b a' b'/\Ctx w0 [q] w' [(q,Bl 24 (CA g m))]) U ?_ ?_
       .skip
        refine A3 _ U ?_ ?_
        .intro h5;refine qG 4 ?_;refine Aj qB (TM (a:=a') (b:=b') (H.get at0) hn hm P.lb) U ?_;rintro rv w ⟨t72,g2,rfl,s2,o2,H2⟩;replace H:=Ctx.back (L1:=[_]) (L2:=[]) H H2;refine qGc 2 ?_ ?_
         .intro h6;refine qG 6 ?_;exact⟨rfl,g2,(P.swap s2).sw,(P.swap s2).done<|o2 h6,H⟩
         .intro h6;refine A1<|Aa ?_;exact⟨g2,rfl,trivial,P.swap s2,H⟩
        .intro h5;refine A1<|Aa ?_;exact⟨g,rfl,trivial,P,H⟩
       .rintro g j4 w ⟨P,H⟩;have hP1:=P.ha;have hP3:=P.hb;have e1:((a':Int) - 1).toNat=a' - 1:=by omega
        refine AB<|Dk 309475565088379329434353664 (α:=Unit) (fun _=>[(87,.bool<|decide (0<a'/\¬g (a' - 1)<g p))]) (fun _ w'=>Ctx w0 [q] w' [(q,Bl 24 (CA g m))]) U ?_ ?_
        .skip
         refine DL 12 AW U U ?_;refine qG 3 ?_;refine iD 75 U ?_ ?_
         .intro h5;refine qG 4 ?_;refine BD qf U (by rintro _ rfl;exact((Cy<|H.drew.get at0))) ?_;refine qG 3 ?_;refine BD qf U (by rintro _ rfl;exact((Cy<|H.drew.get at0)))<|Cc ?_;replace H:=H.drew;refine Aj qB (EI _ _ _) U ?_;rintro v w ⟨rfl,rfl⟩;rw[e1,qa7];refine qG 4 ?_;exact⟨(),rfl,⟨qaa Value.bool (by clear P ih hLB;rw[qac];simp_all;try omega),trivial⟩,H⟩
         .intro h6;refine qG 10 ?_;replace H:=H.drew;refine qG 5 ?_;exact⟨(),rfl,⟨qaa Value.bool (by clear P ih hLB;rw[qac];simp_all;try omega),trivial⟩,H⟩
        .rintro - j5 w H;refine A3 _ U ?_ ?_
         .intro h7;have h7:=qbe h7;refine qG 5 ?_;refine Aj qB (Wj (a:=a') (b:=b') (p:=p) (H.get at0) hn hm ⟨hp1,hp2⟩) U ?_;rintro rv w ⟨i,g2,rfl,s2,hi1,hi2,hga,o1,o2,H2⟩;replace H:=Ctx.back (L1:=[_]) (L2:=[]) H H2;refine qG 12 ?_;have P2:=P.swap s2;have hout:=s2.out (a' - 1) (.inl<|by omega);exact⟨⟨i,b',lim,t8,t9,g2⟩,rfl,⟨rfl,rfl,rfl,rfl,rfl,trivial⟩,⟨hlim,P2.eq h7.1 (by rw[hga,hout];omega) hi1 hi2 o1 o2,H⟩,by dsimp only;omega⟩
         .intro h7;refine qG 7 ?_;refine Aj qB (Qa (a:=a') (b:=b') (p:=p) (H.get at0) hn hm ⟨hp1,hp2⟩) U ?_;rintro rv w ⟨mid,t,g2,rfl,s2,hm1,hm2,PP,H2⟩;replace H:=Ctx.back (L1:=[_]) (L2:=[]) H H2;refine qG 7 ?_;have P2:=P.swap s2;refine qG 18 ?_;refine Hn U U (show _<=(9223372036854775807:Int)by omega) ?_;refine qGp 9 ?_ ?_
          .intro h8;refine qG 12 ?_;refine Aj qB (ih (a:=a') (b:=mid) (lim:=lim) (f:=g2) (by omega) (H.get at0) hm1 (by omega) hlim fun h0 x hx hxb=>P2.lb h0 x hx<|by omega) U ?_;rintro rv w ⟨rfl,g3,s3,o3,H2⟩;replace H:=Ctx.back (L1:=[_]) (L2:=[]) H H2;refine qG 9 ?_;have P3:=P2.swap (s3.mono (qaq _)<|by omega);exact⟨⟨mid+1,b',lim,_,t,g3⟩,rfl,⟨rfl,rfl,rfl,rfl,rfl,trivial⟩,⟨hlim,P3.right hm1 hm2 (PartU.sw PP s3<|.inl ⟨qaq _,qaq _⟩) o3,H⟩,by dsimp only;omega⟩
          .intro h8;refine qG 11 ?_;rw[show(mid:Int)+1=((mid+1:Nat):Int)by omega];refine Ad U<|Ad U<|Aj qB (ih (a:=mid+1) (b:=b') (lim:=lim) (f:=g2) (by omega) (H.get at0) (by omega) (by omega) hlim fun _ x hx hxb=>PP.ge x (by omega) hxb) U ?_;rintro rv w ⟨rfl,g3,s3,o3,H2⟩;replace H:=Ctx.back (L1:=[_]) (L2:=[]) H H2;refine qG 8 ?_;have P3:=P2.swap<|s3.mono (by omega)<|qaq _;have P4:=P3.left hm1 hm2 (PartU.sw PP s3<|.inr ⟨by omega,qaq _⟩) o3;exact⟨⟨a',mid,lim,_,t,g3⟩,rfl,⟨rfl,rfl,rfl,rfl,rfl,trivial⟩,⟨hlim,P4,H⟩,by show mid - a'<b' - a';omega⟩
theorem YV{f:Nat->Int}(hd:w.heap[q]?=some (Bl 24 (CA f m)))(hn:n<=m)(hm:n<=1000000000) :
  Ret prog 164 #[.slice (some ⟨q,0,none⟩) n c] w fun v w'=>v=.tuple #[]/\∃g,(tab g n).Perm (tab f n)/\II g 0 n/\Ctx w [q] w' [(q,Bl 24 (CA g m))]:=by
 obtain⟨w0,rfl⟩:=qD w;refine iG func164 U ?_;refine qG 11 ?_;refine Aj qB (TN n _) U ?_;rintro v w ⟨r,rfl,h1,h2,h3,rfl⟩;refine Aj qB (Ai2 hn hm (n+1) (a:=0) (b:=n) (lim:=r) (by omega) hd (qai _) (qaq _) (by omega) fun h=>absurd h<|Nat.lt_irrefl _) U ?_;rintro rv w ⟨rfl,g,s,o,H⟩;refine Ab<|Ii U U ?_;exact⟨rfl,g,s.perm<|qaq _,o,H⟩
theorem TO(c:Nat)(w:World):Ret prog 164 #[.slice none 0 c] w fun v w'=>v=.tuple #[]/\w=w':=by
 have ins:∀w,Ret prog 237 #[.slice none 0 c,.int .i64 0,.int .i64 0] w fun v w'=>v=.tuple #[]/\w=w':=fun w=>by
  refine iG func237 U ?_;refine qG 7 ?_;refine AY 562949953420480 (α:=Unit) (fun _=>[(6,.int .i64 1)]) (fun _ w'=>w=w') (fun _=>0) () U ?_ ?_ ?_
  .exact⟨rfl,trivial⟩
  .rfl
  .rintro - j0 w rfl;refine qGp 7 ?_ ?_
   .intro h1;omega
   .intro h1;refine qG 5 ?_;exact⟨rfl,rfl⟩
 have pdq:∀(r:Nat) (w:World),Ret prog 209 #[.slice none 0 c,.int .i64 0,.int .i64 0,.int .i64 (r:Int)] w fun v w'=>v=.tuple #[]/\w=w':=fun r w=>by
  refine iG func209 U ?_;refine qG 9 ?_;refine AY 21778071482940061661655974875633165532942 (α:=Unit) (fun _=>[(1,.int .i64 0),(2,.int .i64 0),(3,.int .i64 (r:Int)),(8,.bool true),(9,.bool true)]) (fun _ w'=>w=w') (fun _=>0) () U ?_ ?_ ?_
  .exact⟨rfl,rfl,rfl,rfl,rfl,trivial⟩
  .rfl
  .rintro - j0 w rfl;refine qGp 14 ?_ ?_
   .intro h1;refine qG 4 ?_;refine Aj qB (ins _) U ?_;rintro v w ⟨rfl,rfl⟩;refine qG 8 ?_;exact⟨rfl,rfl⟩
   .intro h1;omega
 refine iG func164 U ?_;refine qG 11 ?_;refine Aj qB (TN 0 _) U ?_;rintro v w ⟨r,rfl,h1,h2,h3,rfl⟩;refine Aj qB (pdq r _) U ?_;rintro v w ⟨rfl,rfl⟩;refine Ab<|Ii U U ?_;exact⟨rfl,rfl⟩
def C0(x:Int):Bool:=decide (0<=x) && decide (x<=4503599627370496)
theorem Iy(x:Int)(w:World):Ret prog 79 #[.int .i64 x] w fun v w'=>v=.bool (C0 x)/\w=w':=by
 obtain⟨w0,rfl⟩:=qD w;refine iG func79 U ?_;refine qG 8 ?_;refine iC 5 U ?_ ?_
 .intro h1;refine qG 8 ?_;exact⟨qaa Value.bool (by unfold C0;rw[qac];simp_all;try omega),rfl⟩
 .intro h2;refine qG 8 ?_;exact⟨qaa Value.bool (by unfold C0;rw[qac];simp_all;try omega),rfl⟩
theorem OM(a:Option Addr)(n c:Nat)(xs:List Int)(w:World)(R:Rd w a 1 I1 xs)(hn:xs.length=n)(hn2:n<=1000000) :
  Ret prog 138 #[.slice a n c] w fun v w'=>v=.bool (xs.all C0)/\w=w':=by
 subst hn;obtain⟨w0,rfl⟩:=qD w;refine iG func138 U ?_;refine qG 12 ?_;refine AY 32660 (α:=Nat) (fun i=>[(7,.int .i64 (i:Int))]) (fun i w'=>i<=xs.length/\w0=w'/\∀(k:Nat) (x:Int),k<i->xs[k]?=some x->C0 x=true) (fun i=>xs.length - i) 0 U ?_ ?_ ?_
 .exact⟨rfl,trivial⟩
 .exact⟨qai _,rfl,fun k x h=>absurd h<|qay _⟩
 .rintro i j w ⟨hi,rfl,hb⟩;refine qGp 5 ?_ ?_
  .intro h1;obtain⟨x,hx⟩:=Au (l:=xs) (i:=i);refine qG 5 ?_;refine A2 R qf qf U U (by rfl)<|A9 qf U ((R.fld hx U (j:=0) U)) ?_;refine qG 5 ?_;refine Aj qB (Iy x _) U ?_;rintro v w ⟨rfl,rfl⟩;refine qGp 3 ?_ ?_
   .intro h2;refine qG 11 ?_;refine⟨qaa Value.bool ?_,rfl⟩;exact(C2 hx<|show C0 x=false by simpa using h2).symm
   .intro h2;refine A1<|Av<|Aa<|Aw<|Ap U U ?_;refine Ad U<|qA ?_;refine⟨i+1,rfl,⟨rfl,trivial⟩,⟨by omega,rfl,fun k y hk hy=>?_⟩,by omega⟩
    rcases qao k i with h7|h7
    .exact hb k y h7 hy
    .obtain rfl:k=i:=by omega
     rw[hx]at hy;cases hy
     simpa using h2
  .intro h1;refine Bi<|Am<|Am<|A8<|Aa<|Af<|A5 U<|qA<|Bf<|B6 (v:=(.bool _)) U U U ?_;exact⟨qaa Value.bool (CN fun k x hk hx=>hb k x (by omega) hx).symm,rfl⟩
def Cl(xs:List Int):Int:=xs.foldl (·+·) 0
theorem Wk(xs:List Int):∀a:Int,xs.foldl (·+·) a=a+Cl xs:=by
 induction xs with
 |nil=>intro a;show a=a+0;omega
 |cons x xs ih =>
  intro a;show xs.foldl (·+·) (a+x)=a+xs.foldl (·+·) (0+x);rw[ih,ih<|0+x];omega
theorem HY(h:xs[i]?=some x):Cl (xs.take<|i+1)=Cl (xs.take i)+x:=by
 rw[qbr,h];unfold Cl;rw[qdr];rfl
theorem Ce(x:Int)(xs:List Int):Cl (x::xs)=x+Cl xs:=by
 show xs.foldl (·+·) (0+x)=_;rw[Wk];omega
theorem Ep(xs ys:List Int):Cl (xs++ys)=Cl xs+Cl ys:=by
 induction xs with
 |nil=>show Cl ys=0+_;omega
 |cons x xs ih=>rw[qcu,Ce,Ce,ih];omega
theorem Wl(h:xs.Perm ys):Cl xs=Cl ys:=by
 induction h with
 |nil=>rfl
 |cons x _ ih=>rw[Ce,Ce,ih]
 |swap x y l=>rw[Ce,Ce,Ce,Ce];omega
 |trans _ _ h1 h2=>exact h1.trans h2
theorem EO(h:∀x∈xs,0<=x):0<=Cl xs:=by
 induction xs with
 |nil=>exact qa4 _
 |cons x xs ih =>
  rw[Ce];have:=h x<|qah ..;have:=ih fun y hy=>h y<|qae _ hy;omega
theorem YW(f:Nat->Int)(n:Nat):Cl (tab f n)=BU f n:=by
 induction n with
 |zero=>rfl
 |succ n ih =>
  unfold tab at ih |-;rw[qd3,qau,Ep,ih];show _+(0+f n)=BU f n+f n;omega
def Dp(xs:List Int):Int × Int:=if xs.all C0=false then(0,1)else if Cl xs<=4503599627370496 then(Cl xs,0)else(0,13)
theorem Cq:C0 x=true↔0<=x/\x<=4503599627370496:=by unfold C0;simp
theorem J0(a:Option Addr)(n c:Nat)(xs:List Int)(w:World)(R:Rd w a 1 I1 xs)(hn:xs.length=n)(hn2:n<=1000000:=by omega):
  Ret prog 80 #[.slice a n c] w fun v w'=>v=.tuple #[.int .i64 (Dp xs).1,.int .i64 (Dp xs).2]/\w=w':=by
 subst hn;obtain⟨w0,rfl⟩:=qD w;refine iG func80 U ?_;refine qG 8 ?_;refine Aj qB (OM a xs.length c xs _ R U hn2) U ?_;rintro v w ⟨rfl,rfl⟩;refine qGp 3 ?_ ?_
 .intro h1;refine qG 8 ?_;have h1':xs.all C0=false:=by simpa using h1
  exact⟨by unfold Dp;rw[if_pos h1'],rfl⟩
 .intro h1;have h1':xs.all C0=true:=by simpa using h1
  have hall:∀(k:Nat) (x:Int),xs[k]?=some x->0<=x/\x<=4503599627370496:=fun k x hx=>Cq.1<|qaw.1 h1' x<|qad hx;have hpos:∀x∈xs,0<=x:=fun x hx=>(Cq.1<|qaw.1 h1' x hx).1;refine qG 14 ?_;refine AY 8384604 (α:=Nat) (fun i=>[(4,.int .i64<|Cl<|xs.take i),(12,.int .i64 (i:Int))]) (fun i w'=>i<=xs.length/\w0=w'/\Cl (xs.take i)<=4503599627370496) (fun i=>xs.length - i) 0 U ?_ ?_ ?_
  .exact⟨rfl,rfl,trivial⟩
  .exact⟨qai _,rfl,by show(0:Int)<=_;omega⟩
  .rintro i j w ⟨hi,rfl,hb⟩;have hs0:0<=Cl (xs.take i):=EO fun y hy=>hpos y<|qdl hy;refine qGp 5 ?_ ?_
   .intro h2;obtain⟨x,hx⟩:=Au (l:=xs) (i:=i);obtain⟨hx0,hx1⟩:=hall i x hx;have hst:=HY hx;refine qG 5 ?_;refine A2 R qf qf U U (by rfl)<|A9 qf U ((R.fld hx U (j:=0) U)) ?_;refine qG 7 ?_;rw[<-hst];refine qG 5 ?_;refine Aj qB (Iy (Cl<|xs.take<|i+1) _) U ?_;rintro v w ⟨rfl,rfl⟩;refine qGp 3 ?_ ?_
    .intro h3;refine qG 12 ?_;have h4:C0 (Cl<|xs.take<|i+1)=false:=by simpa using h3
     have h5:¬Cl (xs.take<|i+1)<=4503599627370496:=fun h=>by
      rw[Cq.2 ⟨by omega,h⟩]at h4;cases h4
     have h6:Cl xs=Cl (xs.take<|i+1)+Cl (xs.drop<|i+1):=by rw[<-Ep,qbp]
     have h7:=EO (xs:=xs.drop<|i+1) fun y hy=>hpos y<|qco hy;exact⟨by unfold Dp;rw[if_neg (by rw[h1'];decide),if_neg<|by omega],rfl⟩
    .intro h3;refine A1<|Av<|Aa<|Aw<|Ap U U ?_;refine Ad U<|qA ?_;have h4:C0 (Cl<|xs.take<|i+1)=true:=by simpa using h3
     exact⟨i+1,rfl,⟨rfl,rfl,trivial⟩,⟨by omega,rfl,(Cq.1 h4).2⟩,by omega⟩
   .intro h2;refine Bi<|Am<|Am<|A8<|Aa<|Af<|Ad U<|Ag U<|Ag U<|qA<|Bf<|Cz (v1:=(.int _ _)) (v2:=(.int _ _)) U U U U ?_;obtain rfl:i=xs.length:=by omega
    rw[qba]at hb |-;exact⟨by unfold Dp;rw[if_neg (by rw[h1'];decide),if_pos hb],rfl⟩
section
variable {P:Program}{r:Option Nat}{ops rest:List Oper}{Q:Exit->Env->World->Prop}{e:Env}{w:World}{dst:Option Tmp}{ty:TypeId}{pos:String}{af:Array Edge}{g:Option (Nat × Bool)}
theorem Add{x y:Operand}{a b:Int}(hg:AJ ⟨dst,.binOp .quo t x y t2,ty,pos,af,g⟩ ops e=true)(hx:ev e x=.int .i64 a)(hy:ev e y=.int .i64 b)(h:A4 P r ops Q rest (put e dst<|.int .i64<|a.tdiv b) w)(hb:0<b:=by decide)(h1: -9223372036854775808<=a.tdiv b:=by omega)(h2:a.tdiv b<=9223372036854775807:=by omega):A4 P r ops Q (⟨dst,.binOp .quo t x y t2,ty,pos,af,g⟩::rest) e w :=
 B8 hg rfl (BW hx hy (v := .int .i64 (a.tdiv b))<|by simp[binOp,Op.intDiv,show ¬b=0 from by omega,CC (k := .i64) (n:=a.tdiv b) h1 h2]) h
end
theorem tdm(t:Int):∃q r,t.tdiv 4503599627370496=q/\t.tmod 4503599627370496=r/\t=4503599627370496*q+r /\ -4503599627370496<r/\r<4503599627370496/\(-9007199254740992<t->t<9007199254740992 -> -1<=q/\q<=1):=by
 refine⟨_,_,rfl,rfl,?_⟩
 rcases Ra t 0 with h|h
 .obtain⟨s,rfl⟩:∃s,t = -s:=⟨-t,by omega⟩;rw[Int.neg_tdiv,Int.neg_tmod,qed<|by omega,qee<|by omega];exact⟨by omega,by omega,by omega,fun h1 h2=>by omega⟩
 .rw[qed h,qee h];exact⟨by omega,by omega,by omega,fun h1 h2=>by omega⟩
def Ew(x:Int):Bool:=decide (-4503599627370496<=x) && decide (x<=4503599627370496)
def Fz(xs:List Int):Bool:=xs.all Ew && decide (Cl xs=0)
theorem YX(a:Option Addr)(n c:Nat)(xs:List Int)(w:World)(R:Rd w a 1 I1 xs)(hn:xs.length=n)(hn2:n<=1000000) :
  Ret prog 235 #[.slice a n c] w fun v w'=>v=.bool (Fz xs)/\w=w':=by
 subst hn;obtain⟨w0,rfl⟩:=qD w;refine iG func235 U ?_;refine qG 17 ?_;refine AY 536870492 (α:=Nat × Int × Int) (fun t=>[(3,.int .i64 t.2.1),(4,.int .i64 t.2.2),(9,.int .i64 (t.1:Int))]) (fun t w'=>t.1<=xs.length/\w0=w'/\Cl (xs.take t.1)=4503599627370496*t.2.1+t.2.2 /\ -4503599627370496<t.2.2/\t.2.2<4503599627370496 /\ -(t.1:Int)<=t.2.1/\t.2.1<=t.1/\∀(k:Nat) (x:Int),k<t.1->xs[k]?=some x->Ew x=true) (fun t=>xs.length - t.1) (0,0,0) U ?_ ?_ ?_
 .exact⟨rfl,rfl,rfl,trivial⟩
 .exact⟨qai _,rfl,rfl,by dsimp only;omega,by dsimp only;omega,by dsimp only;omega,by dsimp only;omega,fun k x h=>absurd h<|qay _⟩
 .rintro⟨i,hh,ll⟩ j w ⟨hi,rfl,hs,hl1,hl2,hh1,hh2,hb⟩;dsimp only at hi hs hl1 hl2 hh1 hh2 hb;dsimp only;refine qGp 5 ?_ ?_
  .intro h1;obtain⟨x,hx⟩:=Au (l:=xs) (i:=i);refine qG 5 ?_;refine A2 R qf qf U U (by rfl)<|A9 qf U ((R.fld hx U (j:=0) U)) ?_;refine qG 5 ?_;refine Bo (α:=Unit) 516096 (fun _=>[(18,.bool<|!Ew x)]) (fun _ w'=>w'=w0) U ?_ ?_
   .refine qG 3 ?_;refine iC 15 U ?_ ?_
    .intro h1;refine qG 4 ?_;exact⟨rfl,(),rfl,⟨qaa Value.bool (by unfold Ew;rw[qac];simp_all;try omega),trivial⟩,rfl⟩
    .intro h2;refine qG 4 ?_;exact⟨rfl,(),rfl,⟨qaa Value.bool (by unfold Ew;rw[qac];simp_all;try omega),trivial⟩,rfl⟩
   rintro - j18 w hw;subst hw;refine iB U ?_ ?_
   .intro h2;refine qG 12 ?_;refine⟨qaa Value.bool ?_,rfl⟩;unfold Fz;rw[C2 hx<|show Ew x=false by simpa using h2];rfl
   .intro h2;have h2':Ew x=true:=by simpa using h2
    have h3 : -4503599627370496<=x/\x<=4503599627370496:=by unfold Ew at h2';simpa using h2'
    have hst:=HY hx;obtain⟨q,r,hq,hr,he,hr1,hr2,hq2⟩:=tdm<|ll+x;have hq3:=hq2 (by omega) (by omega);refine qG 12 ?_;refine Add U U U ?_;rw[hq];refine qG 6 ?_;refine Ab4 U U U ?_;rw[hr];refine Ag U<|Ab<|Av<|Aa<|Aw<|Ap U U ?_;refine Ad U<|qA ?_;refine⟨(i+1,hh+q,r),rfl,⟨rfl,rfl,rfl,trivial⟩,⟨by dsimp only;omega,rfl,by dsimp only;omega,hr1,hr2,by dsimp only;omega,by dsimp only;omega,fun k y hk hy=>?_⟩,by dsimp only;omega⟩
    rcases qao k i with h7|h7
    .exact hb k y h7 hy
    .obtain rfl:k=i:=by dsimp only at hk;omega
     rw[hx]at hy;cases hy;exact h2'
  .intro h1;obtain rfl:i=xs.length:=by omega
   rw[qba]at hs;have hall:xs.all Ew=true:=CN fun k x hk hx=>hb k x hk hx;refine Bi<|Am<|Am<|A8<|Aa<|Af<|Ad U<|Ct U U<|Bj U<|iC 31 U ?_ ?_
   .intro h3;refine qG 8 ?_;exact⟨qaa Value.bool (by unfold Fz;rw[hall,qbs,qac];simp_all;try omega),rfl⟩
   .intro h4;refine qG 8 ?_;exact⟨qaa Value.bool (by unfold Fz;rw[hall,qbs,qac];simp_all;try omega),rfl⟩
def Cw(xs ys:List Int):List Int:=List.zipWith (·+·) xs ys
def C7(xs ys:List Int):Int :=
 if(decide (xs.length=ys.length) && (xs.all C0 && Fz ys))=false then 1 else if(Cw xs ys).all (fun x=>decide (0<=x))=false then 12 else if(Cw xs ys).all C0=false then 13 else 0
theorem GL(hx:xs[i]?=some x)(hy:ys[i]?=some y):(Cw xs ys)[i]?=some (x+y):=by
 unfold Cw;rw[qd1,hx,hy]
theorem Nl(hx:xs[i]?=some x)(hy:ys[i]?=some y):(Cw xs ys).take (i+1)=(Cw xs ys).take i++[x+y]:=by
 rw[qbr,GL hx hy];rfl
theorem Wm(a b:Option Addr)(n c m d:Nat)(xs ys:List Int)(w:World)(R:Rd w a 1 I1 xs)(hn:xs.length=n)(Ry:Rd w b 1 I1 ys)(hm:ys.length=m)(hm2:m<=1000000)(hn2:n<=1000000:=by omega):
  Ret prog 204 #[.slice a n c,.slice b m d] w fun v w'=>∃v',v=.tuple #[v',.int .i64<|C7 xs ys]/\(C7 xs ys≠0->v'=.slice none 0 0)/\(C7 xs ys=0->Fresh w w' 2 1 v' ((Cw xs ys).map Cu))/\Ext [] w w':=by
 subst hn hm;obtain⟨w0,rfl,H⟩:=qE w;refine iG func204 U ?_;refine qG 7 ?_;refine Bo (α:=Unit) 33553408 (fun _=>[(24,.bool<|!(decide (xs.length=ys.length) && (xs.all C0 && Fz ys)))]) (fun _ w'=>w'=w0) U ?_ ?_
 .refine qG 6 ?_;refine iC 15 U ?_ ?_
  .intro h1;refine qG 10 ?_;exact⟨rfl,(),rfl,⟨qaa Value.bool (by generalize xs.all C0=A at *;generalize Fz ys=B at *;rw[qac];simp_all;try omega),trivial⟩,rfl⟩
  .intro h2;refine AH U<|Aj qB (OM a xs.length c xs _ R U hn2) U ?_;rintro v w ⟨rfl,rfl⟩;refine qG 3 ?_;refine iC 20 U ?_ ?_
   .intro h3;refine qG 5 ?_;exact⟨rfl,(),rfl,⟨qaa Value.bool (by generalize xs.all C0=A at *;generalize Fz ys=B at *;rw[qac];simp_all;try omega),trivial⟩,rfl⟩
   .intro h4;refine AH U<|Aj qB (YX b ys.length d ys _ Ry U hm2) U ?_;rintro v w ⟨rfl,rfl⟩;refine qG 3 ?_;exact⟨rfl,(),rfl,⟨qaa Value.bool (by generalize xs.all C0=A at *;generalize Fz ys=B at *;rw[qac];simp_all;try omega),trivial⟩,rfl⟩
 rintro - j24 w hw;subst w;refine iB U ?_ ?_
 .intro h1;refine qG 8 ?_;have h1':C7 xs ys=1:=by unfold C7;rw[if_pos<|by simpa using h1]
  exact⟨_,by rw[h1'],fun _=>rfl,(fun h=>by omega),H.ext⟩
 .intro h1;have h1':(decide (xs.length=ys.length) && (xs.all C0 && Fz ys))=true:=by simpa using h1
  have h1c:¬(decide (xs.length=ys.length) && (xs.all C0 && Fz ys))=false:=by rw[h1'];decide
  have hE:=h1';simp only[qag,qav,qaw]at hE;obtain⟨hle,hma,hev⟩:=hE
  have hsm:∀y∈ys,-4503599627370496<=y/\y<=4503599627370496:=fun y hy=>by
   unfold Fz at hev;simp only[qag,qaw]at hev;have:=hev.1 y hy;unfold Ew at this
   simpa using this
  have hlen:(Cw xs ys).length=xs.length:=by unfold Cw;rw[qcl];omega
  refine qG 18 ?_;refine AY 1125899772625904 (α:=LSt × Int) (fun t=>[(6,.slice t.1.a t.1.i t.1.c),(7,.int .i64 t.2),(27,.int .i64 (t.1.i:Int))]) (fun t w'=>t.1.i<=xs.length/\OS t.1.a t.1.i t.1.c 1 t.1.full (((Cw xs ys).take t.1.i).map Cu)/\Ctx w0 [] w' (ent t.1.a 2 t.1.full)/\(∀(k:Nat) (x:Int),k<t.1.i->(Cw xs ys)[k]?=some x->0<=x)/\((t.2=0/\∀(k:Nat) (x:Int),k<t.1.i->(Cw xs ys)[k]?=some x->C0 x=true)\/(t.2=13/\(Cw xs ys).all C0=false))) (fun t=>xs.length - t.1.i) (⟨0,none,0,[]⟩,0) U ?_ ?_ ?_
  .exact⟨rfl,rfl,rfl,trivial⟩
  .exact⟨qai _,OS.nil,H,fun k x h=>absurd h<|qay _,.inl ⟨rfl,fun k x h=>absurd h<|qay _⟩⟩
  .rintro⟨⟨i,a2,c2,full⟩,ov⟩ j w ⟨hi,O,H,hp,hov⟩;dsimp only at hi O H hp hov;dsimp only;refine qGp 5 ?_ ?_
   .intro h2;obtain⟨x,hx⟩:=Au (l:=xs) (i:=i);obtain⟨y,hy⟩:=Au (l:=ys) (i:=i);have hx1:=Cq.1<|hma x<|qad hx;have hy1:=hsm y<|qad hy;have hat:=GL hx hy;have htk:=Nl hx hy;refine qG 6 ?_;refine A2 R qf qf U U (by rfl)<|A9 qf U (((R.ext0 H.ext).fld hx U (j:=0) U)) ?_;refine qG 8 ?_;refine A2 Ry qf qf U U (by rfl)<|A9 qf U (((Ry.ext0 H.ext).fld hy U (j:=0) U)) ?_;refine qGp 12 ?_ ?_
    .intro h3;refine qG 14 ?_
     have h4:C7 xs ys=12:=by
      unfold C7;rw[if_neg h1c,if_pos<|C2 hat<|by simpa using h3]
     exact⟨_,by rw[h4],fun _=>rfl,(fun h=>by omega),H.ext⟩
    .intro h3
     have hp':∀(k:Nat) (z:Int),k<i+1->(Cw xs ys)[k]?=some z->0<=z:=fun k z hk hz=>by
      rcases qao k i with h7|h7
      .exact hp k z h7 hz
      .obtain rfl:k=i:=by omega
       rw[hat]at hz;cases hz;omega
     have hO:((Cw xs ys).take<|i+1).map Cu=((Cw xs ys).take i).map Cu++[.int .i64<|x+y]:=by rw[htk,qau];rfl
     refine Af<|Ad U<|Aj qB (Iy (x+y) _) U ?_;rintro v w ⟨rfl,rfl⟩;refine qGp 4 ?_ ?_
     .intro h4;have h4':C0 (x+y)=false:=by simpa using h4
      refine Aw<|Ag U<|Ab<|Av<|Aa<|Aw<|AH U<|Ad U<|C5 _ (.int _ _) qf qf qf U U U U H ?_;rintro b47 w - H;refine BL (L:=[]) qf qf qf qf qf U U U H O U (by simp[AF]) ?_;rintro a' c' full' w H O;refine AP U<|Ab<|Av<|Aa<|Aw<|Ap U U ?_;refine Ad U<|qA ?_;exact⟨(⟨i+1,a',c',full'⟩,13),rfl,⟨rfl,rfl,rfl,trivial⟩,⟨by dsimp only;omega,by dsimp only;rw[hO];exact O,H,hp',.inr ⟨rfl,C2 hat h4'⟩⟩,by dsimp only;omega⟩
     .intro h4;have h4':C0 (x+y)=true:=by simpa using h4
      refine A1<|Av<|Aa<|Aw<|AH U<|Ad U<|C5 _ (.int _ _) qf qf qf U U U U H ?_;rintro b47 w - H;refine BL (L:=[]) qf qf qf qf qf U U U H O U (by simp[AF]) ?_;rintro a' c' full' w H O;refine AP U<|Ab<|Av<|Aa<|Aw<|Ap U U ?_;refine Ad U<|qA ?_;refine⟨(⟨i+1,a',c',full'⟩,ov),rfl,⟨rfl,rfl,rfl,trivial⟩,⟨by dsimp only;omega,by dsimp only;rw[hO];exact O,H,hp',?_⟩,by dsimp only;omega⟩
      rcases hov with⟨h5,h6⟩|h5
      .refine .inl ⟨h5,fun k z hk hz=>?_⟩
       rcases qao k i with h7|h7
       .exact h6 k z h7 hz
       .obtain rfl:k=i:=by dsimp only at hk;omega
        rw[hat]at hz;cases hz;exact h4'
      .exact .inr h5
   .intro h2;obtain rfl:i=xs.length:=by omega
    have hpa:¬(Cw xs ys).all (fun x=>decide (0<=x))=false:=by
     rw[CN fun k x hk hx=>qam<|hp k x (by omega) hx];decide
    rw[show(Cw xs ys).take xs.length=Cw xs ys by rw[<-hlen,qba]]at O;refine Bi<|Am<|Am<|A8<|Aa<|AB<|Af<|Ad U<|CV U U<|qA<|iB U ?_ ?_
    .intro h3
     rcases hov with⟨h5,-⟩|⟨rfl,h6⟩
     .exact absurd h5 h3
     .refine qG 9 ?_;have h4:C7 xs ys=13:=by unfold C7;rw[if_neg h1c,if_neg hpa,if_pos h6]
      exact⟨_,by rw[h4],fun _=>rfl,(fun h=>by omega),H.ext⟩
    .intro h3;refine qG 10 ?_
     have h4:C7 xs ys=0:=by
      unfold C7
      rcases hov with⟨-,h6⟩|⟨h5,-⟩
      .rw[if_neg h1c,if_neg hpa,if_neg (by rw[CN fun k x hk hx=>h6 k x (by omega) hx];decide)]
      .omega
     exact⟨_,by rw[h4],(fun h=>absurd h4 h),(fun _=>Ctx.fresh (L:=[]) H O),H.ext⟩
structure DueK(b2 b:Nat)(o:Obj)(w:World):Prop where
 h2:w.heap[b2]?=some (Bl 154 [.map (some b)])
 hb:w.heap[b]?=some o
def Ae8(m:List (Int × Value))(vis:List (Int × Value))(v:List Value)(vis':List (Int × Value)):Prop:=∃p,vis'=vis++[p]/\v=[.int .u64 p.1]/\p∈m/\vis.length<m.length
theorem YY{m:List (Int × Value)}(hM:CQ .u64 m o):U7 prog 165 #[ptr b2] [] (fun _ w=>DueK b2 b o w) ([]:List<|Int × Value) (Ae8 m) (fun vis=>vis.Perm m) (fun _=>True):=by
 intro l w _ J E hJ0 hJs hEs hK hY;obtain⟨M0,hJ0⟩:=hJ0;obtain⟨w0,rfl,H⟩:=qE w;refine iG func165 U ?_;have K0:=(hK _ _ _ hJ0).2;refine Af<|A9 qf U ((by rw[Ai K0.h2];rfl)) ?_;refine QP U qf U H K0.hb hM ?_;rintro bi it w hV H;refine qA<|AK ?_;have hbi:w0.heap.size<=bi:=(H.own (bi,it)<|qah ..).elim (fun h=>by cases h) id;have hJ1:=hJs _ _ _ _ [] hJ0 (fun x hx=>by cases hx) H.ext
 have hM0:¬M0 bi:=fun h=>by
  have:=(hK _ _ _ hJ0).1 bi h;omega
 refine AY 16328 (α:=List (Int × Value) × Obj) (fun _=>[]) (fun z w'=>VisO .u64 b m z.1 o z.2/\∃M,J z.1 M w'/\¬M bi/\w'.heap[bi]?=some z.2) (fun z=>m.length - z.1.length) (([]:List<|Int × Value),it) U ?_ ?_ ?_
 .exact trivial
 .exact⟨hV,M0,hJ1,hM0,H.get at0⟩
 .rintro⟨vis,it⟩ j w ⟨hV,M,hJ,hMb,hit⟩;dsimp only at hV hJ hit;dsimp only;have KK:=(hK _ _ _ hJ).2;obtain⟨w1,rfl⟩:=qD w;have H:=Ctx.start1 hit;have hT:∀x∈[bi],¬M x/\w0.heap.size<=x:=fun x hx=>by rw[qab]at hx;subst hx;exact⟨hMb,hbi⟩
  refine Af<|U9 U (fun _=>rfl) U H KK.hb at0 hV ?_;rintro vs more it' w hc H
  skip
  refine qGc 3 ?_ ?_
  .intro h1;obtain⟨p,hV'⟩:∃p,VisO .u64 b m (vis++[p]) o it':=hc.elim (fun h=>by rw[h.1]at h1;cases h1) fun h=>h.2;have hJw:=hJs _ _ _ _ [bi] hJ hT H.ext;have KR:=(hK _ _ _ hJw).2;have hle:=hV'.le;rw[qat]at hle;have hst:Ae8 m vis [.int .u64 p.1]<|vis++[p]:=⟨p,rfl,rfl,hV'.mem p<|by simp,by simp at hle;omega⟩;refine A1<|Aa<|AK<|Af<|QQ U U H KR.hb at0 hV' ?_;refine qG 4 ?_;have hY1:=hY vis [.int .u64 p.1] (vis++[p]) M w hst hJw;refine qG 3 ?_;refine Gb (vs:=[.int .u64 p.1]) U hY1 U ?_;rintro u w hu;obtain⟨bb,rfl,hu1,hu0⟩:∃bb,u=.bool bb/\(bb=true->∃M,J (vis++[p]) M w/\¬M bi/\w.heap[bi]?=some it')/\(bb=false->E w):=hu.elim (fun h=>⟨true,h.1,fun _=>let ⟨M',h1,g⟩:=h.2;⟨M',h1,fun hx=>(g.new _ hx).elim hMb (fun h=>by have:=H.lt at0;omega),g.to (H.get at0) hMb⟩,fun h=>by cases h⟩) fun h=>⟨false,h.1,(fun h=>by cases h),fun _=>h.2⟩;refine qGp 3 ?_ ?_
   .intro h2;refine qG 5 ?_;exact .inr<|hu0<|by simpa using h2
   .intro h2;refine A1<|Av<|Aa ?_;exact⟨(vis++[p],it'),rfl,trivial,⟨hV',hu1<|by simpa using h2⟩,by dsimp only;rw[qat];simp;simp at hle;omega⟩
  .intro h1;obtain⟨hp,rfl⟩:vis.Perm m/\it'=it:=hc.elim (fun h=>h.2) fun h=>by rw[h.1]at h1;cases h1
   refine qG 5 ?_;exact .inl ⟨vis,M,hp,hJs _ _ _ _ [bi] hJ hT H.ext⟩
def F2(x:Int):Value := .int .u64 x
structure FreshU(w w':World)(v:Value)(l:List Int):Prop where
 ex:∃a n c full,v=.slice a n c/\OS a n c 1 full (l.map F2)/\(∀x∈full,∃z,x=F2 z)/\∀x∈ent a 24 full,w'.heap[x.1]?=some x.2/\w.heap.size<=x.1
 ext:Ext [] w w'
def UY(bk:Nat):Value := .func (.func 165) #[] #[ptr bk]
theorem Ade(w:World):Ret prog 112 #[.map<|some b] w fun v w'=>∃bk,v=UY bk/\w'.heap[bk]?=some (Bl 154 [.map<|some b])/\w.heap.size<=bk/\Ext [] w w':=by
 obtain⟨w0,rfl,H⟩:=qE w;refine iG func112 U<|Af<|Be _ (.map _) U U H ?_;rintro b1 w - H;refine Dr U .nilFunc U<|qA<|Af<|Ci [.pointer _] U ?_;refine qG 5 ?_;exact⟨_,rfl,H.get at0,(H.own _<|qah ..).elim (fun h=>by cases h) id,H.ext⟩
def appJ(w0:World)(bk b bb k:Nat)(o:Obj)(vis:List (Int × Value))(M:Mt)(w:World):Prop :=
 ∃a c full,(M=fun y=>y∈((bb,Bl 50 [.slice a vis.length c])::ent a 24 full).map (·.1))/\Ctx w0 [] w ((bb,Bl 50 [.slice a vis.length c])::ent a 24 full) /\
  OS a vis.length c 1 full (vis.map fun p=>F2 p.1)/\(∀x∈full,∃z,x=F2 z)/\DueK bk b o w/\∀y∈((bb,Bl 50 [.slice a vis.length c])::ent a 24 full).map (·.1),y≠k/\y≠k+1
theorem Wn{m:List (Int × Value)}(hM:CQ .u64 m o)(hm:m.length<=1000000)(w:World)(K:DueK bk b o w) :
  Ret prog 208 #[.slice none 0 0,UY bk] w fun v w'=>∃vis:List<|Int × Value,vis.Perm m/\FreshU w w' v (vis.map (·.1)):=by
 obtain⟨w0,rfl,H⟩:=qE w;have lk:=AX K.h2;have lb:=AX K.hb;refine Gx (fn:=f208) func208 U [.slice none 0 0,.func (.func 165) #[] #[.pointer<|some ⟨bk,0,none⟩]] U ?_;refine qG 2 ?_;rintro b2 w - H;refine qG 9 ?_;obtain⟨ws,rfl⟩:=qD w;have hb2:=(H.own _<|qah ..).elim (fun h=>by cases h) id;have l2:=H.lt at0;have hsz:=H.size;dsimp only at hb2;have K2:DueK bk b o ws:=⟨H.ext.to K.h2<|by simp,H.ext.to K.hb<|by simp⟩
 refine XJ (gf:=165) U qB (YY (b2:=bk) (b:=b) hM) (by kernel_rfl) (by kernel_rfl) (fun vis v vis' h=>by obtain⟨p,-,rfl,-⟩:=h;rfl)
  (appJ w0 bk b b2 ws.heap.size o) (fun _=>False) (by simp) (fun _ _=>True.intro)
  (fun w2 hx2 _=>⟨_,none,0,[],rfl,H.call hx2,OS.nil,by simp,⟨hx2.to K2.h2<|by simp,hx2.to K2.hb<|by simp⟩,by simp[ent];omega⟩)
  (fun vis M w' w'' T hJ hT hx=>?_) (fun _ _ h _=>h) (fun vis M w' hJ=>?_) ?_ ?_ (fun _ h _=>h.elim)
 .obtain⟨a,c,full,hMM,HJ,O,Z,KJ,hne⟩:=hJ;refine⟨a,c,full,hMM,HJ.step hx (fun y hy hy2=>(hT _ hy2).1 (by rw[hMM];exact qa6 (f:=(·.1)) hy)) fun x hx => .inr (by have:=(hT x hx).2;omega),O,Z,⟨hx.to KJ.h2 (fun h=>by have:=(hT _ h).2;omega),hx.to KJ.hb (fun h=>by have:=(hT _ h).2;omega)⟩,hne⟩
 .obtain⟨a,c,full,hMM,HJ,O,Z,KJ,hne⟩:=hJ;refine⟨fun x hx=>?_,KJ⟩;rw[hMM]at hx;obtain⟨y,hy,rfl⟩:=qak.1 hx;exact⟨AX<|HJ.blk y hy,hne _ hx⟩
 .rintro vis v vis' M w ⟨p,rfl,rfl,hpm,hvl⟩ ⟨a,c,full,rfl,HJ,O,Z,KJ,hne⟩ hsz2;obtain⟨w1,rfl⟩:=qD w;refine qG 3 ?_;refine⟨Ext.refl _ _,fun wB hxB=>?_⟩;have HB:=HJ.step hxB (fun y hy h=>(hne _<|qa6 (f:=(·.1)) hy).2<|qab.1 h) fun z hz => .inr (by rw[qab.1 hz];omega);have KB:DueK bk b o wB:=⟨hxB.to KJ.h2 (by rw[qab];omega),hxB.to KJ.hb (by rw[qab];omega)⟩
  have hown:∀y∈((b2,Bl 50 [.slice a vis.length c])::ent a 24 full).map (·.1),w0.heap.size<=y:=fun y hy=>by
   obtain⟨z,hz,rfl⟩:=qak.1 hy;exact(HJ.own z hz).elim (fun h=>by cases h) id
  have hsB:=hxB.size;obtain⟨w2,rfl⟩:=qD wB;rw[<-qar ((b2,Bl 50 [.slice a vis.length c])::ent a 24 full)]at HB;have H:=Ctx.lend (L1:=(b2,Bl 50 [.slice a vis.length c])::ent a 24 full) (L2:=[]) HB;obtain⟨SS,hSS⟩:=qD<|((b2,Bl 50 [.slice a vis.length c])::ent a 24 full).map (·.1);rw[<-hSS]at H;refine qG 5 ?_;rintro b10 w - H;refine QS (L:=[_]) U qf qf qf qf qf U U U H O U (by simp[AF]) ?_;rintro a' c' full' w H O Z2;refine qG 1 ?_;rintro w H;refine Ab<|Av ?_;have hl:(vis++[p]).length=vis.length+1:=by rw[qat];rfl
  rw[hSS]at H;have HE:=H.ext;refine⟨_,⟨a',c',full',rfl,by rw[hl,<-qar (_::ent a' _ full')];exact Ctx.back HB H,by rw[hl,qau];exact O,fun x hx=>?_,⟨HE.to KB.h2 fun h=>by have:=hown _ h;omega,HE.to KB.hb fun h=>by have:=hown _ h;omega⟩,fun y hy=>?_⟩,fun y hy=>?_,_,HE,fun y hy => .inl hy⟩
  .rcases Z2 x hx with h|h|h
   .exact Z x h
   .exact⟨_,qab.1 h⟩
   .exact⟨_,qab.1 h⟩
  .rw[hl]at hy;obtain⟨z,hz,rfl⟩:=qak.1 hy
   rcases H.own z hz with h|h
   .exact hne _ h
   .omega
  .rw[hl]at hy;obtain⟨z,hz,rfl⟩:=qak.1 hy;exact(H.own z hz).imp id fun h=>by omega
 .rintro vis M w hp ⟨a,c,full,rfl,HJ,O,Z,KJ,hne⟩ hD;have H:=HJ;refine Av<|Aa<|Af<|Bh qf U H at0 U<|AP U<|qA<|Bf<|Kt (v:=(.slice _ _ _)) U U<|Gy hD U fun wF hxF=>?_;have HF:=H.step hxF (fun y hy h=>(hne _<|qa6 (f:=(·.1)) hy).1<|qab.1 h) fun z hz => .inr (by rw[qab.1 hz];omega);refine⟨vis,hp,⟨a,vis.length,c,full,rfl,by rw[qcb];exact O,Z,fun x hx=>⟨HF.blk x<|qae _ hx,(HF.own x<|qae _ hx).elim (fun h=>by cases h) id⟩⟩,HF.ext⟩
theorem TP{m:List (Int × Value)}(hM:CQ .u64 m o)(hm:m.length<=1000000)(w:World)(K:DueK bk b o w) :
  Ret prog 163 #[UY bk] w fun v w'=>∃vis:List<|Int × Value,vis.Perm m/\FreshU w w' v (vis.map (·.1)):=by
 obtain⟨w0,rfl⟩:=qD w;refine iG func163 U ?_;refine qG 6 ?_;refine Aj qB (Wn hM hm _ K) U ?_;rintro v w ⟨vis,hp,F⟩;obtain⟨a,n,c,full,rfl,O,Z,hb⟩:=F.ex;refine qG 5 ?_;exact⟨vis,hp,F⟩
theorem YZ(h:F2 x=F2 y):x=y:=by unfold F2 at h;injection h
theorem UZ:∀(l:List Value),(∀x∈l,∃z,x=F2 z)->∃zs:List Int,l=zs.map F2
 | [],_=>⟨[],rfl⟩
 |x::l,h=>by
  obtain⟨z,rfl⟩:=h x<|qah ..;obtain⟨zs,rfl⟩:=UZ l fun y hy=>h y<|qae _ hy;exact⟨z::zs,rfl⟩
theorem ON:∀{l m:List Int},l.map F2=m.map F2->l=m
 | [],[],_=>rfl
 | [],_::_,h=>by cases h
 |_::_,[],h=>by cases h
 |x::l,y::m,h=>by
  simp only[qas,qci]at h;rw[YZ h.1,ON h.2]
theorem Nm(f:Nat->Int)(n:Nat):CA f n=(tab f n).map F2:=by unfold tab;rw[qcb];rfl
theorem RK(f:Nat->Int)(h:n<=m):(tab f m).take n=tab f n:=by
 unfold tab;rw[<-List.map_take,List.take_range,qch h]
theorem Ai3{g:Nat->Int}(h:II g 0 n):(tab g n).Pairwise (·<=·):=by
 rw[qeb];intro i j hi hj hij;rw[CP]at hi hj;have h1:=BP (f:=g) hi;have h2:=BP (f:=g) hj;rw[qb4 (by rw[CP];exact hi)]at h1;rw[qb4 (by rw[CP];exact hj)]at h2
 injection h1 with h1
 injection h2 with h2
 rw[h1,h2];exact h i j (qai _) hij hj
theorem sortF{a:Option Addr}(w:World)(O:OS a n c 1 full (l.map F2))(Z:∀x∈full,∃z,x=F2 z)(hb:∀x∈ent a 24 full,w.heap[x.1]?=some x.2)(hn:n<=1000000000) :
  Ret prog 164 #[.slice a n c] w fun v w'=>v=.tuple #[]/\∃(full':List Value) (l':List Int),l'.Perm l/\l'.Pairwise (·<=·)/\OS a n c 1 full' (l'.map F2)/\(∀x∈full',∃z,x=F2 z)/\(∀x∈ent a 24 full',w'.heap[x.1]?=some x.2)/\Ext ((ent a 24 full).map (·.1)) w w':=by
 cases a with
 |none =>
  obtain rfl:n=0:=by have:=O.none' rfl;have:=O.le;omega
  have hl:l=[]:=by have:=O.llen;rw[qaj]at this;exact qck<|by omega
  subst hl;refine Ret.mono (TO c w) ?_;rintro v w' ⟨rfl,rfl⟩;exact⟨rfl,full,[],List.Perm.refl _,.nil,O,Z,hb,Ext.refl _ _⟩
 |some p =>
  have hp:=O.zero p rfl;obtain⟨q,o,sp⟩:=p;simp only[Addr.mk.injEq,true_and]at hp;obtain⟨rfl,rfl⟩:=hp;obtain⟨zs,rfl⟩:=UZ full Z;have hlen:=O.len;rw[qaj,qdd]at hlen;have hpre:=O.pre;rw[qdd,<-List.map_take]at hpre;have hpre:=ON hpre;have hzs:tab (fun i=>zs.getD i 0) c=zs:=by rw[<-hlen];exact Aiw zs
  have hb0:w.heap[q]?=some (Bl 24 (CA (fun i=>zs.getD i 0) c)):=by
   rw[Nm,hzs];exact hb (q,Bl 24 (zs.map F2))<|qab.2 U
  refine Ret.mono (YV (c:=c) hb0 O.le hn) ?_;rintro v w' ⟨rfl,g,hP,hS,H⟩;have hS0:((ent (some ⟨q,0,none⟩) 24 (zs.map F2)).map (·.1))=[q]:=by simp[ent]
  refine⟨rfl,CA g c,tab g n,?_,Ai3 hS,⟨O.zero,O.none',by simp,O.le,?_⟩,fun x hx=>?_,fun x hx=>?_,by rw[hS0];exact H.ext⟩
  .rw[<-RK (fun i=>zs.getD i 0) O.le,hzs,hpre]at hP;exact hP
  .rw[qdd,Nm,<-List.map_take,RK g O.le]
  .rw[Nm,qak]at hx;obtain⟨z,_,rfl⟩:=hx;exact⟨z,rfl⟩
  .simp only[ent,qab]at hx;subst hx;exact H.get at0
theorem Wo{m:List (Int × Value)}(hM:CQ .u64 m o)(w:World)(K:DueK bk b o w)(hm:m.length<=1000000:=by omega):
  Ret prog 111 #[UY bk] w fun v w'=>∃l:List Int,l.Perm (m.map (·.1))/\l.Pairwise (·<=·)/\FreshU w w' v l:=by
 obtain⟨w0,rfl⟩:=qD w;refine iG func111 U ?_;refine qG 6 ?_;refine Aj qB (TP hM hm _ K) U ?_;rintro v w ⟨vis,hp,F⟩;obtain⟨a,n,c,full,rfl,O,Z,hb⟩:=F.ex;have hx5:=F.ext;have hvn:=O.llen;have hvm:=hp.length_eq;rw[qaj,qaj]at hvn;refine qG 5 ?_;refine Aj qB (sortF _ O Z (fun x hx=>(hb x hx).1)<|by omega) U ?_;rintro v w ⟨rfl,full',l',hP,hS,O',Z',hb',hx7⟩;refine qG 9 ?_;refine⟨l',hP.trans<|hp.map _,hS,⟨_,_,_,_,rfl,O',Z',fun x hx=>⟨hb' x hx,?_⟩⟩,hx5.then hx7 fun x hx=>?_⟩
 .cases a with
  |none=>simp[ent]at hx
  |some p =>
   simp only[ent,qab]at hx;subst hx;exact(hb (p.block,Bl 24 full)<|by simp[ent]).2
 .obtain⟨y,hy,rfl⟩:=qak.1 hx;exact .inr (hb y hy).2
structure Du where
 id:Int
 fr:Int
 to:Int
 am:Int
 we:Int
 un:Int
 held:Bool
instance:DecidableEq Du:=fun x y=>if h:x.id=y.id/\x.fr=y.fr/\x.to=y.to/\x.am=y.am/\x.we=y.we/\x.un=y.un/\x.held=y.held then isTrue (by cases x;cases y;simp_all)else isFalse fun e=>h (by subst e;exact⟨rfl,rfl,rfl,rfl,rfl,rfl,rfl⟩)
abbrev BK(d:Du):List Value:=[.int .u64 d.id,.int .i64 d.fr,.int .i64 d.to,.int .i64 d.am,.int .i64 d.we,.int .i64 d.un,.bool d.held]
abbrev Fj(d:Du):Value := .agg #[.int .u64 d.id,.int .i64 d.fr,.int .i64 d.to,.int .i64 d.am,.int .i64 d.we,.int .i64 d.un,.bool d.held]
theorem Cx(d:Du):∀v∈BK d,AF v=true:=by simp[BK,AF]
def dm(ds:List Du):List (Int × Value):=ds.map fun d=>(d.id,Fj d)
theorem Ai4{ds:List Du}{p:Int × Value}(h:p∈dm ds):∃d∈ds,p=(d.id,Fj d):=by
 obtain⟨d,hd,rfl⟩:=qak.1 h;exact⟨d,hd,rfl⟩
def amV(p:Int × Value):Int:=match p.2 with
 | .agg vs=>match vs.toList with | [_,_,_,.int _ x,_,_,_]=>x|_=>0
 |_=>0
theorem Ai5(ds:List Du):(dm ds).map amV=ds.map (·.am):=by unfold dm;rw[qcb];rfl
abbrev DU(b:Nat)(nx:Int):List Value:=[.map (some b),.int .u64 nx]
structure VSt where
 vis:List (Int × Value)
 it:Obj
 a:Option Addr
 c:Nat
 full:List Value
theorem Nn{ds:List Du}(w:World)(hd:w.heap[bd]?=some (Bl 156 (DU b nx)))(hb:w.heap[b]?=some o)(hM:CQ .u64 (dm ds) o)(hn:ds.length<=1000000:=by omega):
  Ret prog 83 #[ptr bd] w fun v w'=>∃l:List Int,l.Perm (ds.map (·.am))/\Fresh w w' 2 1 v (l.map Cu):=by
 obtain⟨w0,rfl,H⟩:=qE w;have hdl:(dm ds).length=ds.length:=by unfold dm;rw[qaj]
 refine iG func83 U ?_;refine qG 13 ?_;refine A9 qf U ((by rw[Ai hd];rfl))<|QP U qf U H hb hM ?_;rintro bi it w hV H;refine qA<|AK<|AY 1046568 (α:=VSt) (fun t=>[(3,.slice t.a t.vis.length t.c)]) (fun t w'=>VisO .u64 b (dm ds) t.vis o t.it/\OS t.a t.vis.length t.c 1 t.full ((t.vis.map amV).map Cu)/\Ctx w0 [] w' ((bi,t.it)::ent t.a 2 t.full)) (fun t=>(dm ds).length - t.vis.length) ⟨[],it,none,0,[]⟩ U ?_ ?_ ?_
 .exact⟨rfl,trivial⟩
 .exact⟨hV,OS.nil,H⟩
 .rintro⟨vis,it,a,c,full⟩ j w ⟨hV,O,H⟩;dsimp only at hV O H;dsimp only;refine Af<|U9 U (fun _=>rfl) U H (H.ext.to hb<|by simp) at0 hV ?_;rintro vs more it' w hc H1;clear H;have H:Ctx w0 [] w ((bi,it')::ent a 2 full):=H1;clear H1
  skip
  refine qGc 3 ?_ ?_
  .intro h1;obtain⟨p,hV'⟩:∃p,VisO .u64 b (dm ds) (vis++[p]) o it':=hc.elim (fun h=>by rw[h.1]at h1;cases h1) fun h=>h.2;obtain⟨d,hd2,rfl⟩:=Ai4 (hV'.mem p<|by simp);have hle:=hV'.le;rw[hdl]at hle;have hl1:(vis++[(d.id,Fj d)]).length=vis.length+1:=by rw[qat];rfl
   rw[hl1]at hle;refine A1<|Aa<|AK<|Af<|VM U U H (H.ext.to hb<|by simp) at0 hV' ?_;refine BV U U<|AN qf H ?_;rintro b5 w - H;refine AM qf U U U (by exact Cx _) H at0 U ?_;rintro w H;refine qG 7 ?_;rintro b18 w - H;refine BL (L:=[_,_]) qf qf qf qf qf U U U H O U (by simp[AF]) ?_;rintro a' c' full' w H O;refine qG 4 ?_;exact⟨⟨vis++[(d.id,Fj d)],it',a',c',full'⟩,rfl,⟨by dsimp only;rw[hl1];rfl,trivial⟩,⟨hV',by dsimp only;rw[hl1,qau,qau];exact O,H.tail⟩,by dsimp only;rw[hl1,hdl];omega⟩
  .intro h1;obtain⟨hp,rfl⟩:vis.Perm (dm ds)/\it'=it:=hc.elim (fun h=>h.2) fun h=>by rw[h.1]at h1;cases h1
   refine Bi<|Am<|Am<|A8<|Aa<|Af<|AH U<|AP U<|qA<|Bf<|B6 (v:=(.slice _ _ _)) U U U ?_;refine⟨vis.map amV,?_,Ctx.fresh (L:=[_]) H O⟩;rw[<-Ai5];exact hp.map _
def d00:Du:=⟨0,0,0,0,0,0,false⟩
def ID(ds:List Du)(k:Int):Du:=(ds.find? fun d=>d.id == k).getD d00
theorem Lv{d:Du}:∀{ds:List Du},(ds.map (·.id)).Nodup->d∈ds->ID ds d.id=d
 |x::ds,hn,h=>by
  simp only[qas,qc3]at hn;unfold ID
  by_cases e:x.id=d.id
  .rcases qaf.1 h with rfl|h
   .simp
   .exact absurd (qa6 (f:=(·.id)) h) (by rw[<-e];exact hn.1)
  .rcases qaf.1 h with rfl|h
   .exact absurd U e
   .have:=Lv hn.2 h;unfold ID at this;rw[qcd,show(x.id == d.id)=false by simpa using e];exact this
theorem Za{ds:List Du}(hn:(ds.map (·.id)).Nodup):(ds.map (·.id)).map (ID ds)=ds:=by
 rw[qcb]
 have:ds.map (ID ds ∘ (·.id))=ds.map id:=qbk fun d hd=>Lv hn hd
 rw[this,List.map_id]
theorem Va{d:Du}:∀{ds:List Du},(ds.map (·.id)).Nodup->d∈ds->DR (dm ds) d.id=some (Fj d)
 |x::ds,hn,h=>by
  simp only[qas,qc3]at hn;unfold dm DR;rw[qas,qcd]
  by_cases e:x.id=d.id
  .rcases qaf.1 h with rfl|h
   .simp
   .exact absurd (qa6 (f:=(·.id)) h) (by rw[<-e];exact hn.1)
  .rcases qaf.1 h with rfl|h
   .exact absurd U e
   .have:=Va hn.2 h;unfold dm DR at this;rw[show(x.id == d.id)=false by simpa using e];exact this
def Zb(ds' ds:List Du):Prop:=ds'.Perm ds/\(ds'.map (·.id)).Pairwise (·<·)
theorem Wp{ds:List Du}(hn:(ds.map (·.id)).Nodup)(hp:l.Perm<|(dm ds).map (·.1))(hs:l.Pairwise (·<=·)):Zb (l.map<|ID ds) ds/\(l.map<|ID ds).map (·.id)=l:=by
 have h1:(dm ds).map (·.1)=ds.map (·.id):=by unfold dm;rw[qcb];rfl
 rw[h1]at hp
 have h2:(l.map<|ID ds).map (·.id)=l:=by
  rw[qcb]
  have:l.map ((·.id) ∘ ID ds)=l.map id:=qbk fun k hk=>by
   obtain⟨d,hd,rfl⟩:=qak.1<|hp.mem_iff.1 hk;show(ID ds d.id).id=d.id;rw[Lv hn hd]
  rw[this,List.map_id]
 refine⟨⟨?_,?_⟩,h2⟩
 .have:=hp.map (ID ds)
  rwa [Za hn]at this
 .rw[h2];have hnd:=hp.nodup_iff.2 hn;exact(hs.and<|List.nodup_iff_pairwise_ne.1 hnd).imp fun h=>by omega
theorem Wr{ds:List Du}{d:Du}(h:ds[i]?=some d):(ds.take<|i+1).flatMap BK=(ds.take i).flatMap BK++BK d:=by
 rw[qbr,h,qbn];simp
theorem KC{ds:List Du}(w:World)(hd:w.heap[bd]?=some (Bl 156 (DU b nx)))(hb:w.heap[b]?=some o)(hM:CQ .u64 (dm ds) o)(hnd:(ds.map (·.id)).Nodup)(hn:ds.length<=1000000:=by omega):
  Ret prog 57 #[ptr bd] w fun v w'=>∃ds':List Du,Zb ds' ds/\Fresh w w' 111 7 v (ds'.flatMap BK):=by
 obtain⟨w0,rfl,H⟩:=qE w;have hdl:(dm ds).length=ds.length:=by unfold dm;rw[qaj]
 refine iG func57 U ?_;refine qGc 10 ?_ ?_
 .intro h0;cases h0
 .intro h0;refine qG 11 ?_;refine A9 qf U ((by rw[Ai hd];rfl))<|Aj qB (Ade (b:=b) _) U ?_;rintro v w ⟨bk,rfl,hbk,-,hx12⟩;replace H:=H.call hx12;refine Aj qB (Wo hM _ ⟨hbk,H.ext.to hb<|by simp⟩) U ?_;rintro v w ⟨l,hlp,hls,F⟩;obtain⟨ak,nk,ck,fk,rfl,OK,ZK,hbl⟩:=F.ex;replace H:=H.call F.ext;refine qG 5 ?_;obtain⟨w1,rfl⟩:=qD w;have H0:=H.ext;replace H:=Ctx.start w1 [];have R:Rd w1 ak 1 (fun x=>[F2 x]) l:=OK.rd1 fun x hx=>(hbl x hx).1;have hd1:=H0.to hd (by simp);have hb1:=H0.to hb (by simp);obtain⟨hSD,hid⟩:=Wp hnd hlp hls;obtain⟨ds',hds'⟩:∃ds',ds'=l.map (ID ds):=⟨_,rfl⟩;rw[<-hds']at hSD hid;have hlen:ds'.length=l.length:=by rw[hds',qaj]
  have hll:l.length=nk:=by have:=OK.llen;rw[qaj]at this;omega
  have hle:l.length=ds.length:=by have:=hlp.length_eq;rw[qaj]at this;omega
  subst hll;refine AY 536838184 (α:=LSt) (fun t=>[(3,.slice t.a t.i t.c),(15,.int .i64 (t.i:Int))]) (fun t w'=>t.i<=l.length/\OS t.a t.i t.c 7 t.full ((ds'.take t.i).flatMap BK)/\Ctx w1 [] w' (ent t.a 111 t.full)) (fun t=>l.length - t.i) ⟨0,none,0,[]⟩ U ?_ ?_ ?_
  .exact⟨rfl,rfl,trivial⟩
  .exact⟨qai _,OS.nil,H⟩
  .rintro⟨i,a,c,full⟩ j w ⟨hi,O,H⟩;dsimp only at hi O H;dsimp only;refine qGp 5 ?_ ?_
   .intro h1;obtain⟨k,hk⟩:=Au (l:=l) (i:=i);obtain⟨d,hdi⟩:=Au (l:=ds') (i:=i)
    have hkd:k=d.id:=by
     have h7:(ds'.map (·.id))[i]?=some d.id:=by rw[qa9,hdi];rfl
     rw[hid,hk]at h7;injection h7
    subst hkd;have hmg:=Va hnd<|hSD.1.mem_iff.1<|qad hdi;refine qG 5 ?_;refine A2 R qf qf U U (by rfl)<|A9 qf U (((R.ext0 H.ext).fld hk U (j:=0) U)) ?_;refine qG 8 ?_;refine A9 qf U ((H.old0 (by rw[Ai hd1];rfl)))<|Ad U<|Tc U qf qf qf U U (H.ext.to hb1<|by simp) hM ?_;rw[hmg];rw[Option.getD_some];refine qG 1 ?_;rintro b26 w - H;refine BL (L:=[]) qf qf qf qf qf U U U H O U (by simp[AF]) ?_;rintro a' c' full' w H O;refine AP U<|Ab<|Av<|Aa<|Aw<|Ap U U ?_;refine Ad U<|qA ?_;exact⟨⟨i+1,a',c',full'⟩,rfl,⟨rfl,rfl,trivial⟩,⟨by dsimp only;omega,by dsimp only;rw[Wr hdi];exact O,H⟩,by dsimp only;omega⟩
   .intro h1;refine Bi<|Am<|Am<|A8<|Aa<|Af<|AH U<|AP U<|qA<|Bf<|B6 (v:=(.slice _ _ _)) U U U ?_;obtain rfl:i=l.length:=by omega
    have FF:=Ctx.fresh (L:=[]) H O;rw[show ds'.take l.length=ds' by rw[<-hlen,qba]]at FF;obtain⟨⟨a2,n2,c2,f2,e1,e2,e3⟩,e4⟩:=FF;exact⟨ds',hSD,⟨a2,n2,c2,f2,e1,e2,fun x hx=>⟨(e3 x hx).1,qa3 H0.size (e3 x hx).2⟩⟩,H0.trans e4⟩
def E8(x:Int):Bool:=decide (0<=x) && decide (x<16)
theorem RL(x:Int)(w:World):Ret prog 139 #[.int .i64 x] w fun v w'=>v=.bool (E8 x)/\w=w':=by
 obtain⟨w0,rfl⟩:=qD w;refine iG func139 U ?_;refine qG 8 ?_;refine iC 5 U ?_ ?_
 .intro h1;refine qG 8 ?_;exact⟨qaa Value.bool (by unfold E8;rw[qac];simp_all;try omega),rfl⟩
 .intro h2;refine qG 8 ?_;exact⟨qaa Value.bool (by unfold E8;rw[qac];simp_all;try omega),rfl⟩
def CZ(d:Du):Bool:=(E8 d.fr && (E8 d.to && !decide (d.fr=d.to))) && (decide (1<=d.am) && (C0 d.am && (decide (1<=d.we) && (decide (d.we<=1000) && decide (0<=d.un)))))
theorem Vb(d:Du)(w:World):Ret prog 82 #[Fj d] w fun v w'=>v=.bool (CZ d)/\Ext [] w w':=by
 obtain⟨w0,rfl,H⟩:=qE w;refine iG func82 U<|Af<|Be (BK d) (.agg _) U U H ?_;rintro b1 w - H;refine qG 9 ?_;refine Aj qB (RL d.fr _) U ?_;rintro v w ⟨rfl,rfl⟩;refine qG 4 ?_;refine iE 3 U ?_ ?_
 .intro h1;refine qG 11 ?_;exact⟨qaa Value.bool (by unfold CZ;rw[qac];simp_all;try omega),H.ext⟩
 .intro h2;refine qG 3 ?_;refine Aj qB (RL d.to _) U ?_;rintro v w ⟨rfl,rfl⟩;refine qG 4 ?_;refine iE 3 U ?_ ?_
  .intro h3;refine qG 11 ?_;exact⟨qaa Value.bool (by unfold CZ;rw[qac];simp_all;try omega),H.ext⟩
  .intro h4;refine qG 9 ?_;refine iE 3 U ?_ ?_
   .intro h5;refine qG 8 ?_;exact⟨qaa Value.bool (by unfold CZ;rw[qac];simp_all;try omega),H.ext⟩
   .intro h6;refine qG 8 ?_;refine iE 17 U ?_ ?_
    .intro h7;refine qG 11 ?_;exact⟨qaa Value.bool (by unfold CZ;rw[qac];simp_all;try omega),H.ext⟩
    .intro h8;refine qG 3 ?_;refine Aj qB (Iy d.am _) U ?_;rintro v w ⟨rfl,rfl⟩;refine qG 4 ?_;refine iE 17 U ?_ ?_
     .intro h9;refine qG 11 ?_;exact⟨qaa Value.bool (by unfold CZ;rw[qac];simp_all;try omega),H.ext⟩
     .intro h10;refine qG 7 ?_;refine iE 17 U ?_ ?_
      .intro h11;refine qG 11 ?_;exact⟨qaa Value.bool (by unfold CZ;rw[qac];simp_all;try omega),H.ext⟩
      .intro h12;refine qG 7 ?_;refine iE 17 U ?_ ?_
       .intro h13;refine qG 11 ?_;exact⟨qaa Value.bool (by unfold CZ;rw[qac];simp_all;try omega),H.ext⟩
       .intro h14;refine qG 7 ?_;refine iE 17 U ?_ ?_
        .intro h15;refine qG 8 ?_;exact⟨qaa Value.bool (by unfold CZ;rw[qac];simp_all;try omega),H.ext⟩
        .intro h16;refine A1<|Av<|Aa<|Af<|A5 U<|qA<|Bf<|B6 (v:=(.bool _)) U U U ?_;exact⟨qaa Value.bool (by unfold CZ;rw[qac];simp_all;try omega),H.ext⟩
def ED(nx:Int):Int->List Du->Bool
 |_,[]=>true
 |ah,d::ds=>(CZ d && (decide (ah<d.id) && decide (d.id<nx))) && ED nx d.id ds
def Hv(ah:Int):List Du->Int
 | []=>ah
 |d::ds=>Hv d.id ds
theorem Gf(nx:Int):∀(ah:Int) (ds es:List Du),ED nx ah (ds++es)=(ED nx ah ds && ED nx (Hv ah ds) es)
 |_,[],_=>rfl
 |ah,d::ds,es=>by simp only[qcu,ED,Hv,Gf nx d.id ds es,qc4]
theorem JJ(ah:Int)(ds:List Du)(d:Du):Hv ah (ds++[d])=d.id:=by
 induction ds generalizing ah with
 |nil=>rfl
 |cons x ds ih=>exact ih x.id
theorem Hw{nx:Int}:∀{ah:Int} {ds:List Du},ED nx ah ds=true->(∀d∈ds,ah<d.id/\d.id<=Hv ah ds/\d.id<nx/\CZ d=true)/\(ds.map (·.id)).Pairwise (·<·)/\ah<=Hv ah ds
 |_,[],_=>⟨fun _ h=>(by cases h),List.Pairwise.nil,qa4 _⟩
 |ah,x::ds,h=>by
  simp only[ED,qag,qav]at h;obtain⟨⟨hm,h1,h2⟩,h3⟩:=h;obtain⟨i1,i2,i3⟩:=Hw h3;refine⟨fun d hd=>?_,?_,?_⟩
  .rcases qaf.1 hd with rfl|hd
   .exact⟨h1,i3,h2,hm⟩
   .obtain⟨a,b,c,e⟩:=i1 d hd;exact⟨by omega,b,c,e⟩
  .rw[qas,qbf];refine⟨fun k hk=>?_,i2⟩;obtain⟨d,hd,rfl⟩:=qak.1 hk;exact(i1 d hd).1
  .show ah<=Hv x.id ds;omega
def ofC(ds:List Du)(nx:Int):Int :=
 if 64<ds.length then 6 else if(decide (1<=nx) && decide (nx<=4611686018427387904))=false then 1 else if ED nx 0 ds=false then 1 else(Dp (ds.map (·.am))).2
theorem OP(h:xs.Perm ys):Dp xs=Dp ys:=by
 have h1:xs.all C0=ys.all C0:=by
  rw[qac,qaw,qaw];exact⟨fun g x hx=>g x<|h.mem_iff.2 hx,fun g x hx=>g x<|h.mem_iff.1 hx⟩
 unfold Dp;rw[h1,Wl h]
theorem OQ{ds:List Du}(h:∀d∈ds,d.id≠k):DR (dm ds) k=none:=by
 induction ds with
 |nil=>rfl
 |cons x ds ih =>
  unfold dm DR at ih |-;rw[qas,qcd,show(x.id == k)=false by simpa using h x (qah ..)];exact ih fun d hd=>h d<|qae _ hd
theorem Zc(ds:List Du)(d:Du):dm ds++[(d.id,Fj d)]=dm (ds++[d]):=by unfold dm;rw[qau];rfl
theorem Zd{l:List Value}(h:w.heap[b]?=some (Bl t l)):∀j v,l[j]?=some v->w.cell? ⟨b,0+j,none⟩=some v:=fun j v hv=>by rw[Ai h,qa0];exact hv
structure OSt where
 i:Nat
 ah:Int
 o:Obj
theorem Ze(a:Option Addr)(n c:Nat)(ds:List Du)(nx:Int)(w:World)(R:Rd w a 7 BK ds)(hn:ds.length=n)(_:0<=nx/\nx<18446744073709551616)(hid:∀d∈ds,0<=d.id/\d.id<18446744073709551616)(hn2:n<=1000000000:=by omega):
  Ret prog 36 #[.slice a n c,.int .u64 nx] w fun v w'=>∃p,v=.tuple #[p,.int .i64<|ofC ds nx]/\(ofC ds nx≠0->p=.pointer none)/\(ofC ds nx=0->∃bd b o,p=ptr bd/\w'.heap[bd]?=some (Bl 156 (DU b nx))/\w'.heap[b]?=some o/\CQ .u64 (dm ds) o/\w.heap.size<=bd/\w.heap.size<=b/\bd≠b)/\Ext [] w w':=by
 subst hn;obtain⟨w0,rfl,H⟩:=qE w;refine iG func36 U ?_;refine qGp 12 ?_ ?_
 .intro h1;refine qG 8 ?_;have h1':ofC ds nx=6:=by unfold ofC;rw[if_pos<|by omega]
  exact⟨_,by rw[h1'],fun _=>rfl,(fun h=>by omega),H.ext⟩
 .intro h1;have h1':¬64<ds.length:=by omega
  refine qG 4 ?_;refine Bo (α:=Unit) 2064384 (fun _=>[(20,.bool<|!(decide (1<=nx) && decide (nx<=4611686018427387904)))]) (fun _ w'=>w'=w0) U ?_ ?_
  .refine qG 3 ?_;refine iC 17 U ?_ ?_
   .intro h1;refine qG 4 ?_;exact⟨rfl,(),rfl,⟨qaa Value.bool (by rw[qac];simp_all;try omega),trivial⟩,rfl⟩
   .intro h2;refine qG 4 ?_;exact⟨rfl,(),rfl,⟨qaa Value.bool (by rw[qac];simp_all;try omega),trivial⟩,rfl⟩
  rintro - j20 w hw;subst w;refine iB U ?_ ?_
  .intro h2;refine qG 8 ?_;have h2':ofC ds nx=1:=by unfold ofC;rw[if_neg h1',if_pos<|by simpa using h2]
   exact⟨_,by rw[h2'],fun _=>rfl,(fun h=>by omega),H.ext⟩
  .intro h2;have h2':(decide (1<=nx) && decide (nx<=4611686018427387904))=true:=by simpa using h2
   have h2n:¬(decide (1<=nx) && decide (nx<=4611686018427387904))=false:=by rw[h2'];decide
   refine A1<|Aa<|Af<|MH .u64 U H ?_;rintro b o w hM H;refine Ad U<|Bd (DU b nx) qf qf ?_;refine Be (DU b nx) (.agg _) U U H ?_;rintro b24 w - H;refine qG 15 ?_;refine AY 288230376017494704 (α:=OSt) (fun t=>[(7,.int .u64 t.ah),(27,.int .i64 (t.i:Int))]) (fun t w'=>t.i<=ds.length/\t.ah=Hv 0 (ds.take t.i)/\ED nx 0 (ds.take t.i)=true/\CQ .u64 (dm<|ds.take t.i) t.o/\Ctx w0 [] w' [(b24,Bl 156 (DU b nx)),(b,t.o)]) (fun t=>ds.length - t.i) ⟨0,0,o⟩ U ?_ ?_ ?_
   .exact⟨rfl,rfl,trivial⟩
   .exact⟨qai _,rfl,rfl,hM,H⟩
   .rintro⟨i,ah,o⟩ j w ⟨hi,hah,has,hM,H⟩;dsimp only at hi hah has hM H;dsimp only;refine qGp 5 ?_ ?_
    .intro h3;obtain⟨d,hd⟩:=Au (l:=ds) (i:=i);have hdi:=hid d<|qad hd;have htk:ds.take (i+1)=ds.take i++[d]:=by rw[qbr,hd];rfl
     have hasc:ED nx 0 (ds.take<|i+1)=(CZ d && (decide (ah<d.id) && decide (d.id<nx))):=by
      rw[htk,Gf,has,qbs,<-hah];show(_ && ED nx d.id [])=_;show(_ && true)=_;rw[qcx]
     refine qG 5 ?_;refine A2 R qf qf U U (by rfl)<|BC _ qf qf U U ((R.ext0 H.ext).row hd U)<|AN qf H ?_;rintro b9 w - H;refine AM qf U U U (by exact Cx _) H at0 U ?_;rintro w H;refine qG 4 ?_;refine Bo (α:=Unit) 70366596694016 (fun _=>[(45,.bool<|!(CZ d && (decide (ah<d.id) && decide (d.id<nx))))]) (fun _ w'=>Ctx w0 [] w' [(b9,Bl 111 (BK d)),(b24,Bl 156 (DU b nx)),(b,o)]) U ?_ ?_
     .refine Dh qf qf U H at0 U (Aj qB (Vb d _) U ?_);rintro v w ⟨rfl,hx32⟩;replace H:=H.call hx32;refine qG 2 ?_;refine iC 34 U ?_ ?_
      .intro h3;refine qG 12 ?_;exact⟨rfl,(),rfl,⟨qaa Value.bool (by clear hasc;rw[qac];simp_all;try omega),trivial⟩,H⟩
      .intro h4;refine qG 6 ?_;refine iC 40 U ?_ ?_
       .intro h5;refine qG 6 ?_;exact⟨rfl,(),rfl,⟨qaa Value.bool (by clear hasc;rw[qac];simp_all;try omega),trivial⟩,H⟩
       .intro h6;refine qG 6 ?_;exact⟨rfl,(),rfl,⟨qaa Value.bool (by clear hasc;rw[qac];simp_all;try omega),trivial⟩,H⟩
     rintro - j45 w H;refine iB U ?_ ?_
     .intro h4;refine qG 13 ?_
      have h4':ofC ds nx=1:=by
       unfold ofC;rw[if_neg h1',if_neg h2n,if_pos];have h5:ED nx 0 ds=ED nx 0 (ds.take (i+1)++ds.drop (i+1)):=by rw[qbp]
       rw[h5,Gf,hasc,show(CZ d && (decide (ah<d.id) && decide (d.id<nx)))=false by simpa using h4];rfl
      exact⟨_,by rw[h4'],fun _=>rfl,(fun h=>by omega),H.ext⟩
     .intro h4;have h4':(CZ d && (decide (ah<d.id) && decide (d.id<nx)))=true:=by simpa using h4
      have hgt:ah<d.id:=by simp only[qag,qav]at h4';exact h4'.2.1
      have hno:DR (dm<|ds.take i) d.id=none:=OQ fun x hx=>by
       have:=((Hw has).1 x hx).2.1;omega
      refine A1<|Aa<|Eb [([0,1,2,3,4,5,6,7,8],9),([10],11),([],12)] (fun z=>z.heap[b9]?=some (Bl 111 (BK d))/\z.heap[b24]?=some (Bl 156 (DU b nx))) [] AW (⟨H.drew.get at0,H.drew.get at1⟩) ?_;refine A0 U U<|Bm U<|A7 U<|Ah qf U<|AU qf U (fun _ hx=>(by rw[Ai hx.2];rfl)) ?_;refine Ah qf U<|AU qf U (fun _ hx=>(by rw[Ai hx.1];rfl)) ?_;refine EZ _ qf qf U U (fun _ hx=>(Zd hx.1))<|Ah qf U<|AU qf U (fun _ hx=>(by rw[Ai hx.1];rfl)) ?_;refine A6 ?_;replace H:=H.drew;refine QR U qf qf qf U U H at2 hM hno ?_;rintro st o1 w hE H;refine Ab<|Bv (⟨H.get at0,H.get at1⟩)<|A0 U U ?_;refine AZ U U<|A6<|NI (Fj d) U U U U H at2 hE ?_;rintro o2 w hM2 H;refine Ab<|Bv (⟨H.get at0,H.get at1⟩)<|A0 U U ?_;refine A6<|Ag U<|Ab<|Bv (⟨H.get at0,H.get at1⟩)<|Bu<|Av<|Aa<|Aw<|Ap U U ?_;refine Ad U<|qA ?_
      exact⟨⟨i+1,d.id,o2⟩,rfl,⟨rfl,rfl,trivial⟩,⟨by dsimp only;omega,by dsimp only;rw[htk,JJ],by dsimp only;rw[hasc];exact h4',by dsimp only;rw[htk,<-Zc];exact hM2,H.tail⟩,by dsimp only;omega⟩
    .intro h3;obtain rfl:i=ds.length:=by omega
     rw[qba]at hM has
     have hC:ofC ds nx=(Dp<|ds.map (·.am)).2:=by
      unfold ofC;rw[if_neg h1',if_neg h2n,if_neg (by rw[has];decide)]
     rw[hC];obtain⟨tt,htt⟩:=qD<|Dp<|ds.map (·.am);rw[<-htt];refine Bi<|Am<|Am<|A8<|Aa<|AB<|Af<|AV U<|Aj qB (Nn _ (H.get at0) (H.get at1) hM) U ?_;rintro v w ⟨l,hlp,F⟩;obtain⟨a3,n3,c3,f3,rfl,O3,hb3⟩:=F.ex;replace H:=H.call F.ext;have hl3:=O3.llen;rw[qaj]at hl3;have hlq:=hlp.length_eq;rw[qaj]at hlq;refine Aj qB (J0 a3 n3 c3 l _ (O3.rd1 fun x hx=>(hb3 x hx).1)<|by omega) U ?_;rintro v w ⟨rfl,rfl⟩;rw[OP hlp];rw[<-htt];refine qGp 12 ?_ ?_
     .intro h5;refine qG 9 ?_;exact⟨_,rfl,fun _=>rfl,(fun h=>absurd h h5),H.ext⟩
     .intro h5;refine qG 10 ?_;have h5':tt.2=0:=by omega
      refine⟨_,by rw[h5'],(fun h=>absurd h5' h),(fun _=>⟨b24,b,o,rfl,H.get at0,H.get at1,hM,?_,?_,H.ne at0 at1<|by decide⟩),H.ext⟩
      .exact(H.own (b24,_)<|qad (i:=0) U).elim (fun h=>by cases h) id
      .exact(H.own (b,_)<|qad (i:=1) U).elim (fun h=>by cases h) id
structure Ac where
 ba:Int
 re:Int
instance:DecidableEq Ac:=fun x y=>if h:x.ba=y.ba/\x.re=y.re then isTrue (by cases x;cases y;simp_all)else isFalse fun e=>h (by subst e;exact⟨rfl,rfl⟩)
abbrev Cg(a:Ac):List Value:=[.int .i64 a.ba,.int .i64 a.re]
theorem GM(a:Ac):∀v∈Cg a,AF v=true:=by simp[Cg,AF]
theorem OT(acs:List Ac):∀v∈acs.flatMap Cg,AF v=true:=fun v hv=>by
 obtain⟨a,_,h⟩:=qei.1 hv;exact GM a v h
theorem Jg(acs:List Ac):(acs.flatMap Cg).length=acs.length*2:=by
 induction acs with
 |nil=>rfl
 |cons a acs ih =>
  rw[qbw,qat,ih];show 2+acs.length*2=(acs.length+1)*2;omega
theorem OU(a:Option Addr)(n c:Nat)(acs:List Ac)(w:World)(R:Rd w a 2 Cg acs)(hn:acs.length=n)(hm:n<=1000000000) :
  Ret prog 78 #[.slice a n c] w fun v w'=>Fresh w w' 162 2 v (acs.flatMap Cg):=by
 subst hn;obtain⟨w0,rfl,H⟩:=qE w;refine iG func78 U ?_;refine qGc 10 ?_ ?_
 .intro h1;have ha:a=none:=by simpa using h1
  subst ha
  have hxs:acs=[]:=by
   cases acs with
   |nil=>rfl
   |cons x xs=>obtain⟨b,o,h⟩:=R.some' (by simp);cases h
  subst hxs;refine qG 7 ?_;exact Fresh.nil H _ _
 .intro h1;refine qG 4 ?_;rintro b5 w H O;refine AH U<|Ee qf qf qf qf qf U (acs.flatMap Cg) U U H O (Jg acs) (OT acs) ((R.ext0 H.ext).app (fun _ _=>rfl)<|by omega) ?_;rintro a7 c7 full7 w H O;refine qG 5 ?_;exact H.fresh O
theorem Np(a:Option Addr)(n c:Nat)(acs:List Ac)(w:World)(hd:w.heap[bd]?=some (Bl 153 [.slice a n c]))(R:Rd w a 2 Cg acs)(hn:acs.length=n)(hm:n<=1000000000:=by omega):
  Ret prog 56 #[ptr bd] w fun v w'=>Fresh w w' 162 2 v (acs.flatMap Cg):=by
 obtain⟨w0,rfl,H⟩:=qE w;refine iG func56 U ?_;refine qGc 10 ?_ ?_
 .intro h0;cases h0
 .intro h0;refine qG 6 ?_;refine A9 qf U ((by rw[Ai hd];rfl))<|Aj qB (OU a n c acs _ R hn hm) U ?_;rintro v w F;obtain⟨a9,n9,c9,full9,rfl,O9,hb9⟩:=F.ex;refine qG 5 ?_;exact F
theorem Fk{f:α->β}{l:List α}{x:α}(h:l[i]?=some x):(l.take<|i+1).map f=(l.take i).map f++[f x]:=by
 rw[qbr,h,qau];rfl
theorem Hh(a:Option Addr)(n c:Nat)(acs:List Ac)(w:World)(hd:w.heap[bd]?=some (Bl 153 [.slice a n c]))(R:Rd w a 2 Cg acs)(hn:acs.length=n)(hm:n<=1000000:=by omega):
  Ret prog 81 #[ptr bd] w fun v w'=>Fresh w w' 2 1 v ((acs.map (·.ba)).map Cu):=by
 subst hn;obtain⟨w0,rfl,H⟩:=qE w;refine iG func81 U ?_;refine qG 13 ?_;refine A9 qf U ((by rw[Ai hd];rfl)) ?_;refine qG 5 ?_;refine AY 2095144 (α:=LSt) (fun t=>[(3,.slice t.a t.i t.c),(11,.int .i64 (t.i:Int))]) (fun t w'=>t.i<=acs.length/\OS t.a t.i t.c 1 t.full (((acs.take t.i).map (·.ba)).map Cu)/\Ctx w0 [] w' (ent t.a 2 t.full)) (fun t=>acs.length - t.i) ⟨0,none,0,[]⟩ U ?_ ?_ ?_
 .exact⟨rfl,rfl,trivial⟩
 .exact⟨qai _,OS.nil,H⟩
 .rintro⟨i,a2,c2,full⟩ j w ⟨hi,O,H⟩;dsimp only at hi O H;dsimp only;refine qGp 5 ?_ ?_
  .intro h1;obtain⟨x,hx⟩:=Au (l:=acs) (i:=i);refine qG 5 ?_;refine A2 R qf qf U U (by rfl)<|BC _ qf qf U U ((R.ext0 H.ext).row hx U)<|AN qf H ?_;rintro b5 w - H;refine AM qf U U U (by exact GM _) H at0 U ?_;rintro w H;refine qG 7 ?_;rintro b18 w - H;refine BL (L:=[_]) qf qf qf qf qf U U U H O U (by simp[AF]) ?_;rintro a' c' full' w H O;refine AP U<|Ab<|Av<|Aa<|Aw<|Ap U U ?_;refine Ad U<|qA ?_;exact⟨⟨i+1,a',c',full'⟩,rfl,⟨rfl,rfl,trivial⟩,⟨by dsimp only;omega,by dsimp only;rw[Fk hx,qau];exact O,H.tail⟩,by dsimp only;omega⟩
  .intro h1;refine Bi<|Am<|Am<|A8<|Aa<|Af<|AH U<|AP U<|qA<|Bf<|B6 (v:=(.slice _ _ _)) U U U ?_;obtain rfl:i=acs.length:=by omega
   rw[qba]at O;exact Ctx.fresh (L:=[]) H O
def CF(a:Ac):Int:=max 0 (a.ba - a.re)
def Fl(a:Ac):Bool:=C0 a.ba && C0 a.re
theorem Zf(a:Option Addr)(n c:Nat)(acs:List Ac)(w:World)(hd:w.heap[bd]?=some (Bl 153 [.slice a n c]))(R:Rd w a 2 Cg acs)(hn:acs.length=n)(hmay:∀x∈acs,Fl x=true)(hm:n<=1000000:=by omega):
  Ret prog 155 #[ptr bd] w fun v w'=>Fresh w w' 2 1 v ((acs.map CF).map Cu):=by
 obtain⟨w0,rfl⟩:=qD w;refine iG func155 U ?_;refine qG 11 ?_;refine Aj qB (Np a n c acs _ hd R hn) U ?_;rintro v w F;obtain⟨a7,n7,c7,full7,rfl,O7,hb7⟩:=F.ex;have hl7:=O7.llen;rw[Jg]at hl7;obtain rfl:acs.length=n7:=by omega
 refine qG 5 ?_;obtain⟨w1,rfl,H⟩:=qE w;have R7:Rd w1 a7 2 Cg acs:=OS.rd O7 (fun x hx=>(hb7 x hx).1) (fun _ _=>rfl) (by omega);refine AY 8388136 (α:=LSt) (fun t=>[(3,.slice t.a t.i t.c),(9,.int .i64 (t.i:Int))]) (fun t w'=>t.i<=acs.length/\OS t.a t.i t.c 1 t.full (((acs.take t.i).map CF).map Cu)/\Ctx w1 [] w' (ent t.a 2 t.full)) (fun t=>acs.length - t.i) ⟨0,none,0,[]⟩ U ?_ ?_ ?_
 .exact⟨rfl,rfl,trivial⟩
 .exact⟨qai _,OS.nil,H⟩
 .rintro⟨i,a2,c2,full⟩ j w ⟨hi,O,H⟩;dsimp only at hi O H;dsimp only;refine qGp 5 ?_ ?_
  .intro h1;obtain⟨x,hx⟩:=Au (l:=acs) (i:=i);have hxm:=hmay x (qad hx)
   have hx2:(0<=x.ba/\x.ba<=4503599627370496)/\0<=x.re/\x.re<=4503599627370496:=by
    unfold Fl at hxm;rw[qag,Cq,Cq]at hxm;exact hxm
   refine qG 5 ?_;refine A2 R7 qf qf U U (by rfl)<|BC _ qf qf U U ((R7.ext0 H.ext).row hx U)<|AN qf H ?_;rintro b5 w - H;refine AM qf U U U (by exact GM _) H at0 U ?_;rintro w H;refine qG 11 ?_;rintro b20 w - H;refine BL (L:=[_]) qf qf qf qf qf U U U H O U (by simp[AF]) ?_;rintro a' c' full' w H O;refine AP U<|Ab<|Av<|Aa<|Aw<|Ap U U ?_;refine Ad U<|qA ?_;exact⟨⟨i+1,a',c',full'⟩,rfl,⟨rfl,rfl,trivial⟩,⟨by dsimp only;omega,by dsimp only;rw[Fk hx,qau];exact O,H.tail⟩,by dsimp only;omega⟩
  .intro h1;refine Bi<|Am<|Am<|A8<|Aa<|Af<|AH U<|AP U<|qA<|Bf<|B6 (v:=(.slice _ _ _)) U U U ?_;obtain rfl:i=acs.length:=by omega
   rw[qba]at O;obtain⟨⟨a3,n3,c3,f3,e1,e2,e3⟩,e4⟩:=Ctx.fresh (L:=[]) H O;exact⟨⟨a3,n3,c3,f3,e1,e2,fun x hx=>⟨(e3 x hx).1,qa3 F.ext.size (e3 x hx).2⟩⟩,F.ext.trans e4⟩
def CO(acs:List Ac):Int:=if 16<acs.length then 6 else if acs.all Fl=false then 1 else(Dp (acs.map Ac.ba)).2
theorem Ai6(a:Option Addr)(n c:Nat)(acs:List Ac)(w:World)(R:Rd w a 2 Cg acs)(hn:acs.length=n)(hm:n<=1000000000:=by omega):
  Ret prog 35 #[.slice a n c] w fun v w'=>∃p,v=.tuple #[p,.int .i64<|CO acs]/\(CO acs≠0->p=.pointer none)/\(CO acs=0->∃bd a' c' full,p=ptr bd/\w'.heap[bd]?=some (Bl 153 [.slice a' acs.length c'])/\OS a' acs.length c' 2 full (acs.flatMap Cg) /\
   (∀x∈ent a' 162 full,w'.heap[x.1]?=some x.2/\w.heap.size<=x.1/\x.1≠bd)/\w.heap.size<=bd)/\Ext [] w w':=by
 subst hn;obtain⟨w0,rfl,H⟩:=qE w;refine iG func35 U ?_;refine qGp 12 ?_ ?_
 .intro h1;refine qG 8 ?_;have h1':CO acs=6:=by unfold CO;rw[if_pos<|by omega]
  exact⟨_,by rw[h1'],fun _=>rfl,(fun h=>by omega),H.ext⟩
 .intro h1;have h1':¬16<acs.length:=by omega
  refine qG 4 ?_;refine Aj qB (OU a acs.length c acs _ R U hm) U ?_;rintro v w F;obtain⟨a3,n3,c3,full3,rfl,O3,hb3⟩:=F.ex;have hx13:=F.ext;replace H:=H.call hx13;have hl3:=O3.llen;rw[Jg]at hl3;obtain rfl:acs.length=n3:=by omega
  obtain⟨w13,rfl⟩:=qD w;replace H:=Ctx.start w13 [];refine Bd [.slice a3 acs.length c3] qf qf<|Be [.slice a3 acs.length c3] (.agg _) U U H ?_;rintro b15 w - H;refine qG 11 ?_;refine AY 8589672524 (α:=Nat) (fun i=>[(18,.int .i64 (i:Int))]) (fun i w'=>i<=acs.length/\Ctx w13 [] w' [(b15,Bl 153 [.slice a3 acs.length c3])]/\(∀(k:Nat) (x:Ac),k<i->acs[k]?=some x->Fl x=true)) (fun i=>acs.length - i) 0 U ?_ ?_ ?_
  .exact⟨rfl,trivial⟩
  .exact⟨qai _,H,(fun k x h=>absurd h<|qay _)⟩
  .rintro i j w ⟨hi,H,hall⟩;obtain⟨w1,rfl⟩:=qD w;have R1:=R.ext0<|hx13.trans H.ext;have hd1:=H.get at0;have H1:=H;clear H;have H:=Ctx.start w1 [];refine qGp 5 ?_ ?_
   .intro h2;obtain⟨x,hx⟩:=Au (l:=acs) (i:=i);refine qG 5 ?_;refine A2 R1 qf qf U U (by rfl)<|BC _ qf qf U U ((R1.ext0 H.ext).row hx U)<|AN qf H ?_;rintro b6 w - H;refine AM qf U U U (by exact GM _) H at0 U ?_;rintro w H;refine qA<|Af<|Bo (α:=Unit) 4290772992 (fun _=>[(31,.bool<|!Fl x)]) (fun _ w'=>Ctx w1 [] w' [(b6,Bl 162 (Cg x))]) U ?_ ?_
    .refine qG 2 ?_;refine Aj qB (Iy x.ba _) U ?_;rintro v w ⟨rfl,rfl⟩;refine qG 2 ?_;refine iC 26 U ?_ ?_
     .intro h1;refine qG 6 ?_;exact⟨rfl,(),rfl,⟨qaa Value.bool (by unfold Fl;rw[qac];simp_all;try omega),trivial⟩,H⟩
     .intro h2;refine qG 2 ?_;refine Aj qB (Iy x.re _) U ?_;rintro v w ⟨rfl,rfl⟩;refine qG 3 ?_;exact⟨rfl,(),rfl,⟨qaa Value.bool (by unfold Fl;rw[qac];simp_all;try omega),trivial⟩,H⟩
    rintro - j31 w H;refine iB U ?_ ?_
    .intro h3;refine qG 12 ?_;have h3':CO acs=1:=by unfold CO;rw[if_neg h1',if_pos<|C2 hx<|by simpa using h3]
     exact⟨_,by rw[h3'],fun _=>rfl,(fun h=>by omega),(hx13.trans H1.ext).trans H.ext⟩
    .intro h3;refine A1<|Av<|Aa<|Aw<|Ap U U ?_;refine Ad U<|qA ?_;refine⟨i+1,rfl,⟨rfl,trivial⟩,⟨by omega,H1.call H.ext,(fun k y hk hy=>?_)⟩,by omega⟩
     rcases qao k i with h7|h7
     .exact hall k y h7 hy
     .obtain rfl:k=i:=by omega
      rw[hx]at hy;cases hy
      simpa using h3
   .intro h2;obtain rfl:i=acs.length:=by omega
    have hal:acs.all Fl=true:=CN fun k x hk hx=>hall k x hk hx
    have hb3':∀x∈ent a3 162 full3,w1.heap[x.1]?=some x.2/\w0.heap.size<=x.1/\x.1≠b15:=fun x hx=>by
     have h9:=hb3 x hx;have h8:=AX h9.1;have h7:=(H1.own (b15,_)<|qad (i:=0) rfl).elim (fun h=>by cases h) id;dsimp only at h7;exact⟨H1.ext.to h9.1<|by simp,h9.2,by omega⟩
    have R3:Rd w1 a3 2 Cg acs:=OS.rd O3 (fun x hx=>(hb3' x hx).1) (fun _ _=>rfl) (by omega);obtain⟨tt,htt⟩:=qD<|Dp<|acs.map Ac.ba;have hC:CO acs=tt.2:=by unfold CO;rw[if_neg h1',if_neg (by rw[hal];decide),htt]
    rw[hC];refine Bi<|Am<|Am<|A8<|Aa<|AB<|Af<|AV U<|Aj qB (Hh a3 acs.length c3 acs _ hd1 R3 U) U ?_;rintro v w F4;obtain⟨a4,n4,c4,f4,rfl,O4,hb4⟩:=F4.ex;replace H:=H.call F4.ext;have hl4:=O4.llen;rw[qaj,qaj]at hl4;refine Aj qB (J0 a4 n4 c4 (acs.map Ac.ba) _ (O4.rd1 fun x hx=>(hb4 x hx).1) (by rw[qaj];omega)) U ?_;rintro v w ⟨rfl,rfl⟩;rw[<-htt];refine qGp 12 ?_ ?_
    .intro h5;refine qG 9 ?_;exact⟨_,rfl,fun _=>rfl,(fun h=>absurd h h5),(hx13.trans H1.ext).trans H.ext⟩
    .intro h5;refine qG 10 ?_;have h5':tt.2=0:=by omega
     refine⟨_,by rw[h5'],(fun h=>absurd h5' h),(fun _=>⟨b15,a3,c3,full3,rfl,H.ext.to hd1<|by simp,O3,fun x hx=>⟨H.ext.to (hb3' x hx).1<|by simp,(hb3' x hx).2⟩,?_⟩),(hx13.trans H1.ext).trans H.ext⟩;exact qa3 hx13.size<|(H1.own (b15,_)<|qad (i:=0) U).elim (fun h=>by cases h) id
def a00:Ac:=⟨0,0⟩
def acZ(acs:List Ac)(z:Nat->Int)(k i:Nat):Ac:=if i<k then⟨z i,(acs.getD i a00).re⟩else acs.getD i a00
def NK(acs:List Ac)(z:Nat->Int)(k:Nat):List Ac:=(List.range acs.length).map (acZ acs z k)
theorem RM(acs:List Ac)(z:Nat->Int)(k:Nat):(NK acs z k).length=acs.length:=by unfold NK;simp
theorem KD{acs:List Ac}{k:Nat}(h:i<acs.length):(NK acs z k)[i]?=some (acZ acs z k i):=Ds h
theorem Lw(acs:List Ac)(z:Nat->Int):NK acs z 0=acs:=by
 refine qca fun i=>?_
 rcases qao i acs.length with h|h
 .obtain⟨e,he⟩:=Au (h:=h);rw[KD h,he];unfold acZ;rw[if_neg<|by omega,Bp he]
 .rw[qbg (by rw[RM];exact h),qbg h]
theorem RN{acs:List Ac}:(NK acs z i).set i (acZ acs z (i+1) i)=NK acs z (i+1):=by
 unfold NK;refine HK U fun j hj hn=>?_;unfold acZ
 by_cases h:j<i
 .rw[if_pos h,if_pos<|by omega]
 .rw[if_neg h,if_neg<|by omega]
def shA(acs:List Ac)(ys:List Int):List Ac:=if C7 (acs.map Ac.ba) ys=0 then List.zipWith (fun a y=>⟨a.ba+y,a.re⟩) acs ys else acs
def shZ(acs:List Ac)(ys:List Int):List Int:=if C7 (acs.map Ac.ba) ys=0 then Cw (acs.map Ac.ba) ys else[]
theorem TQ(h:C7 xs ys=0):xs.length=ys.length:=by
 unfold C7 at h
 split at h
 .omega
 .rename_i h1
  have h2:(decide (xs.length=ys.length) && (xs.all C0 && Fz ys))=true:=by simpa using h1
  simp only[qag,qav]at h2;exact h2.1
theorem Zg(acs:List Ac)(ys:List Int):(shZ acs ys).length<=acs.length:=by
 unfold shZ
 split
 .unfold Cw;rw[qcl,qaj];omega
 .simp
theorem Zh(acs:List Ac)(ys:List Int):NK acs (fun i=>(shZ acs ys).getD i 0) (shZ acs ys).length=shA acs ys:=by
 unfold shA shZ
 by_cases h:C7 (acs.map Ac.ba) ys=0
 .rw[if_pos h,if_pos h];have hl:=TQ h;rw[qaj]at hl;have hsl:(Cw (acs.map Ac.ba) ys).length=acs.length:=by unfold Cw;rw[qcl,qaj];omega
  refine qca fun i=>?_
  rcases qao i acs.length with h7|h7
  .obtain⟨e,he⟩:=Au (h:=h7);obtain⟨y,hy⟩:=Au (l:=ys) (i:=i);rw[KD h7,qd1,he,hy];unfold acZ;dsimp only;rw[if_pos<|by omega,Bp he,Bp<|GL (xs:=acs.map Ac.ba) (x:=e.ba) (by rw[qa9,he];rfl) hy]
  .rw[qbg (by rw[RM];exact h7),qbg (by rw[qcl];omega)]
 .rw[if_neg h,if_neg h];exact Lw _ _
theorem Zi{acs:List Ac}(hz:zs=shZ acs ys)(hx:Ext [] w0 w1)(h1:C7 (acs.map Ac.ba) ys≠0->v'=.slice none 0 0)(h2:C7 (acs.map Ac.ba) ys=0->Fresh w1 w 2 1 v' ((Cw (acs.map Ac.ba) ys).map Cu)) :
  ∃a4 n4 c4,v'=.slice a4 n4 c4/\zs.length=n4/\Rd w a4 1 I1 zs/\(zs≠[]->w0.heap.size<=(adr a4).block):=by
 subst hz;unfold shZ
 by_cases h:C7 (acs.map Ac.ba) ys=0
 .rw[if_pos h];obtain⟨a,n,c,full,rfl,O,hb⟩:=(h2 h).ex;have hl:=O.llen;rw[qaj]at hl;refine⟨a,n,c,rfl,by omega,O.rd1 fun x hx=>(hb x hx).1,fun hne=>?_⟩
  have hpos:0<n:=by
   have:=qbu.2 hne;omega
  obtain⟨q,rfl⟩:=O.form hpos;exact qa3 hx.size (hb (q,Bl 2 full)<|qab.2 U).2
 .rw[if_neg h];exact⟨none,0,0,h1 h,rfl,Rd.nil,fun h=>absurd rfl h⟩
structure HSt where
 i:Nat
 full:List Value
theorem Ws(a b:Option Addr)(c m d:Nat)(full:List Value)(acs:List Ac)(ys:List Int)(w:World)(hd:w.heap[bd]?=some (Bl 153 [.slice a acs.length c]))(O:OS a acs.length c 2 full (acs.flatMap Cg))(hb:∀x∈ent a 162 full,w.heap[x.1]?=some x.2/\x.1≠bd)(Ry:Rd w b 1 I1 ys)(hm:ys.length=m)(hn:acs.length<=1000000:=by omega)(hm2:m<=1000000:=by omega):
  Ret prog 160 #[ptr bd,.slice b m d] w fun v w'=>v=.int .i64 (C7 (acs.map Ac.ba) ys)/\∃full',OS a acs.length c 2 full' ((shA acs ys).flatMap Cg)/\(∀x∈ent a 162 full',w'.heap[x.1]?=some x.2)/\Ext ((ent a 162 full).map (·.1)) w w':=by
 obtain⟨w0,rfl⟩:=qD w;have R:Rd w0 a 2 Cg acs:=OS.rd O (fun x hx=>(hb x hx).1) (fun _ _=>rfl) (by omega);obtain⟨code,hcode⟩:=qD<|C7 (acs.map Ac.ba) ys;obtain⟨zs,hzs⟩:=qD<|shZ acs ys;have hzl:zs.length<=acs.length:=by rw[hzs];exact Zg acs ys
 rw[<-Zh,<-hzs,<-hcode];refine iG func160 U ?_;refine qGc 10 ?_ ?_
 .intro h0;cases h0
 .intro h0;refine qG 4 ?_;refine Aj qB (Hh a acs.length c acs _ hd R U (hm:=hn)) U ?_;rintro v w F;obtain⟨a3,n3,c3,f3,rfl,O3,hb3⟩:=F.ex;have hl3:=O3.llen;rw[qaj,qaj]at hl3;refine AH U<|Aj qB (Wm a3 b n3 c3 m d (acs.map Ac.ba) ys _ (O3.rd1 fun x hx=>(hb3 x hx).1) (by rw[qaj];omega) (Ry.ext0 F.ext) hm hm2) U ?_;rintro v w ⟨v',rfl,hv1,hv2,hx15⟩;rw[<-hcode];obtain⟨a4,n4,c4,rfl,hn4,R4,hbz⟩:∃a4 n4 c4,v'=.slice a4 n4 c4/\zs.length=n4/\Rd w a4 1 I1 zs/\(zs≠[]->w0.heap.size<=(adr a4).block):=Zi hzs F.ext hv1 hv2;refine qG 15 ?_;subst hn4;obtain⟨w1,rfl⟩:=qD w;have hx1:=F.ext.trans hx15;have hb1:∀x∈ent a 162 full,w1.heap[x.1]?=some x.2:=fun x hx=>hx1.to (hb x hx).1 (by simp);obtain⟨ids,hids⟩:=qD ((ent a 162 full).map (·.1))
  have hidl:∀y∈ids,y<w0.heap.size/\y≠bd:=fun y hy=>by
   rw[hids]at hy;obtain⟨x,hx,rfl⟩:=qak.1 hy;exact⟨AX (hb x hx).1,(hb x hx).2⟩
  have H:Ctx w1 ids w1<|ent a 162 full:=⟨Ext.refl _ _,hb1,DX,fun x hx => .inl (by rw[hids];exact qa6 (f:=(·.1)) hx)⟩;have hd1:=hx1.to hd (by simp);rw[<-hids];refine AY 17178820992 (α:=HSt) (fun t=>[(20,.int .i64 (t.i:Int))]) (fun t w'=>t.i<=zs.length/\OS a acs.length c 2 t.full ((NK acs (fun i=>zs.getD i 0) t.i).flatMap Cg)/\Ctx w1 ids w' (ent a 162 t.full)) (fun t=>zs.length - t.i) ⟨0,full⟩ U ?_ ?_ ?_
  .exact⟨rfl,trivial⟩
  .exact⟨qai _,by dsimp only;rw[Lw];exact O,H⟩
  .rintro⟨i,fu⟩ j w ⟨hi,O,H⟩;dsimp only at hi O H;dsimp only;refine qGp 5 ?_ ?_
   .intro h1;obtain⟨z,hz⟩:=Au (l:=zs) (i:=i);have hzne:zs≠[]:=fun h=>by rw[h]at hz;cases hz
    have hz0:zs.getD i 0=z:=Bp hz;obtain⟨q,rfl⟩:=O.form (by omega);have hil:i<acs.length:=by omega
    obtain⟨ac,hac⟩:=Au (h:=hil);have hOl:=O.len;have hqn:=O.le;have hzb:(adr a4).block∉ids:=fun h=>by have:=hidl _ h;have:=hbz hzne;omega
    refine A1<|Aa<|AB<|AK<|Af<|Ad U<|A2 R4 qf qf U U (by rfl) ?_;refine A9 qf U (((R4.ext H.ext hzb).fld hz U (j:=0) U))<|Ag U<|Ag U<|qA<|Aw<|AV U<|AR U<|Ae qf U<|A9 qf U ((H.old (Ai hd1 _) fun h=>(hidl _ h).2 rfl)) ?_;refine Ad U<|Ad U<|BA qf qf U U ?_;refine Ae qf U<|Ch (.int _ _) qf U U U H at0 (by omega) ?_;rintro w H;refine Ab<|Av<|Aa<|Aw<|Ap U U ?_;refine Ad U<|qA ?_;rw[show 0+((i:Int)).toNat*2+0=i*2+0 by omega]at H;have O1:=OS.setf O (y:=acZ acs (fun i=>zs.getD i 0) (i+1) i) (j:=0) (v := .int .i64 z) (fun _=>rfl) (KD hil) (by decide) (by unfold acZ Cg;dsimp only;rw[if_pos<|by omega,if_neg<|by omega,hz0];rfl);rw[RN]at O1;exact⟨⟨i+1,_⟩,rfl,⟨rfl,trivial⟩,⟨by dsimp only;omega,O1,H⟩,by dsimp only;omega⟩
   .intro h1;refine Bi<|Am<|Am<|A8<|Aa<|Af<|Ad U<|Ag U<|qA<|Bf<|B6 (v:=(.int _ _)) U U U ?_;obtain rfl:i=zs.length:=by omega
    exact⟨rfl,fu,O,fun x hx=>H.blk x hx,(hx1.mono<|by simp).trans H.ext⟩
theorem EV(x:Int)(w:World):Ret prog 87 #[.int .i64 x] w fun v w'=>v=.bool (C0 x)/\w=w':=by
 obtain⟨w0,rfl⟩:=qD w;refine iG func87 U ?_;refine qG 8 ?_;refine iC 5 U ?_ ?_
 .intro h1;refine qG 8 ?_;exact⟨qaa Value.bool (by unfold C0;rw[qac];simp_all;try omega),rfl⟩
 .intro h2;refine qG 8 ?_;exact⟨qaa Value.bool (by unfold C0;rw[qac];simp_all;try omega),rfl⟩
theorem GN{f:Int->Bool}(hx:xs[i]?=some x)(h:∀(k:Nat) (y:Int),k<i->xs[k]?=some y->f y=true)(hf:f x=true):∀(k:Nat) (y:Int),k<i+1->xs[k]?=some y->f y=true:=fun k y hk hy=>by
 rcases qao k i with h7|h7
 .exact h k y h7 hy
 .obtain rfl:k=i:=by omega
  rw[hx]at hy;cases hy;exact hf
theorem JX(i:Nat)(h:∀x∈xs,0<=x):0<=Cl (xs.take i)/\Cl (xs.take i)<=Cl xs:=by
 have h6:Cl xs=Cl (xs.take i)+Cl (xs.drop i):=by rw[<-Ep,qbp]
 have h7:=EO (xs:=xs.drop i) fun y hy=>h y<|qco hy;have h8:=EO (xs:=xs.take i) fun y hy=>h y<|qdl hy;exact⟨h8,by omega⟩
theorem HZ(a:Option Addr)(n c:Nat)(xs:List Int)(w:World)(R:Rd w a 1 I1 xs)(hn:xs.length=n)(hn2:n<=1000000:=by omega):
  Ret prog 88 #[.slice a n c] w fun v w'=>v=.tuple #[.int .i64 (Dp xs).1,.int .i64 (Dp xs).2]/\w=w':=by
 subst hn;obtain⟨w0,rfl⟩:=qD w;refine iG func88 U ?_;refine qG 11 ?_;refine AY 524188 (α:=Nat) (fun i=>[(4,.int .i64 (i:Int))]) (fun i w'=>i<=xs.length/\w0=w'/\∀(k:Nat) (x:Int),k<i->xs[k]?=some x->C0 x=true) (fun i=>xs.length - i) 0 U ?_ ?_ ?_
 .exact⟨rfl,trivial⟩
 .exact⟨qai _,rfl,fun k x h=>absurd h<|qay _⟩
 .rintro i j w ⟨hi,rfl,hb⟩;refine qGp 8 ?_ ?_
  .intro h1;obtain⟨x,hx⟩:=Au (l:=xs) (i:=i);refine qG 7 ?_;refine A2 R qf qf U U (by rfl)<|A9 qf U ((R.fld hx U (j:=0) U))<|Aj qB (EV x _) U ?_;rintro v w ⟨rfl,rfl⟩;refine qGp 3 ?_ ?_
   .intro h2;refine qG 12 ?_;exact⟨by unfold Dp;rw[if_pos<|C2 hx<|by simpa using h2],rfl⟩
   .intro h2;refine A1<|Av<|Aa<|Aw<|Ad U<|Ap U U ?_;refine Ag U<|qA ?_;exact⟨i+1,rfl,⟨rfl,trivial⟩,⟨by omega,rfl,GN hx hb<|by simpa using h2⟩,by omega⟩
  .intro h1;obtain rfl:i=xs.length:=by omega
   have hal:xs.all C0=true:=CN fun k x hk hx=>hb k x hk hx;have hpos:∀x∈xs,0<=x:=fun x hx=>(Cq.1<|qaw.1 hal x hx).1;refine Bi<|Am<|Am<|A8<|Aa<|Af<|Ag U<|qA<|AB<|Af<|Ag U<|qA<|AK<|AY 8589410412 (α:=Nat) (fun i=>[(5,.int .i64<|Cl<|xs.take i),(6,.int .i64 (i:Int))]) (fun i w'=>i<=xs.length/\w0=w'/\Cl (xs.take i)<=4503599627370496) (fun i=>xs.length - i) 0 U ?_ ?_ ?_
   .exact⟨rfl,rfl,trivial⟩
   .exact⟨qai _,rfl,by show(0:Int)<=_;omega⟩
   .rintro i j2 w ⟨hi,rfl,hs⟩;have hs0:=JX (xs:=xs) i hpos;refine qGp 8 ?_ ?_
    .intro h2;obtain⟨x,hx⟩:=Au (l:=xs) (i:=i);have hx1:=Cq.1<|qaw.1 hal x<|qad hx;have hst:=HY hx;have hs1:=JX (xs:=xs) (i+1) hpos;refine qG 8 ?_;refine A2 R qf qf U U (by rfl)<|A9 qf U ((R.fld hx U (j:=0) U))<|Ap U U ?_;rw[<-hst];refine qGp 8 ?_ ?_
     .intro h3;refine qG 12 ?_;exact⟨by unfold Dp;rw[if_neg (by rw[hal];decide),if_neg<|by omega],rfl⟩
     .intro h3;refine A1<|Av<|Aa<|Aw<|Ad U<|Ap U U ?_;refine Ag U<|qA ?_;exact⟨i+1,rfl,⟨rfl,rfl,trivial⟩,⟨by omega,rfl,by omega⟩,by omega⟩
    .intro h2;refine Bi<|Am<|Am<|A8<|Aa<|Af<|Ad U<|Ag U<|Ag U<|qA<|Bf<|Cz (v1:=(.int _ _)) (v2:=(.int _ _)) U U U U ?_;obtain rfl:i=xs.length:=by omega
     rw[qba]at hs |-;exact⟨by unfold Dp;rw[if_neg (by rw[hal];decide),if_pos hs],rfl⟩
theorem Zj(a:Option Addr)(n c:Nat)(xs:List Int)(w:World)(R:Rd w a 1 I1 xs)(hn:xs.length=n)(hn2:n<=1000)(hsm:∀x∈xs,-4503599627370496<=x/\x<=4503599627370496) :
  Ret prog 248 #[.slice a n c] w fun v w'=>v=.bool (decide (Cl xs=0))/\w=w':=by
 subst hn;obtain⟨w0,rfl⟩:=qD w;refine iG func248 U ?_;refine qG 18 ?_;refine AY 4294967288 (α:=Nat × Int × Int) (fun t=>[(3,.int .u64 t.2.1),(4,.int .u64 t.2.2),(5,.int .i64 (t.1:Int))]) (fun t w'=>t.1<=xs.length/\w0=w'/\t.2.1 - t.2.2=Cl (xs.take t.1)/\0<=t.2.1/\t.2.1<=t.1*4503599627370496/\0<=t.2.2/\t.2.2<=t.1*4503599627370496) (fun t=>xs.length - t.1) (0,0,0) U ?_ ?_ ?_
 .exact⟨rfl,rfl,rfl,trivial⟩
 .exact⟨qai _,rfl,rfl,by dsimp only;omega,by dsimp only;omega,by dsimp only;omega,by dsimp only;omega⟩
 .rintro⟨i,p,q⟩ j w ⟨hi,rfl,hs,hp0,hp1,hq0,hq1⟩;dsimp only at hi hs hp0 hp1 hq0 hq1;dsimp only;refine qGp 8 ?_ ?_
  .intro h1;obtain⟨x,hx⟩:=Au (l:=xs) (i:=i);have hx1:=hsm x<|qad hx;have hst:=HY hx;refine qG 7 ?_;refine A2 R qf qf U U (by rfl)<|A9 qf U ((R.fld hx U (j:=0) U)) ?_;refine qGp 3 ?_ ?_
   .intro h2;refine Aw<|Ad U<|AH U<|Ad U<|A2 R qf qf U U (by rfl) ?_;refine A9 qf U ((R.fld hx U (j:=0) U))<|FZ U U qf qf ?_;refine Et U U<|Ag U<|Ab<|Av<|Aa<|Aw<|Ad U<|Ap U U ?_;refine Ag U<|qA ?_;exact⟨(i+1,p+x,q),rfl,⟨rfl,rfl,rfl,trivial⟩,⟨by dsimp only;omega,rfl,by dsimp only;omega,by dsimp only;omega,by dsimp only;omega,by dsimp only;omega,by dsimp only;omega⟩,by dsimp only;omega⟩
   .intro h2;refine Aw<|Ad U<|AH U<|Ad U<|A2 R qf qf U U (by rfl) ?_;refine A9 qf U ((R.fld hx U (j:=0) U))<|JP U U ?_;refine FZ U U qf qf<|Et U U ?_;refine Ag U<|Ab<|Av<|Aa<|Aw<|Ad U<|Ap U U ?_;refine Ag U<|qA ?_;exact⟨(i+1,p,q + -x),rfl,⟨rfl,rfl,rfl,trivial⟩,⟨by dsimp only;omega,rfl,by dsimp only;omega,by dsimp only;omega,by dsimp only;omega,by dsimp only;omega,by dsimp only;omega⟩,by dsimp only;omega⟩
  .intro h1;refine Bi<|Am<|Am<|A8<|Aa<|Af<|Ad U<|Ad U<|Ct U U<|A5 U<|qA<|Bf<|B6 (v:=(.bool _)) U U U ?_;obtain rfl:i=xs.length:=by omega
   rw[qba]at hs;exact⟨qaa Value.bool (by rw[qac,qav,qav];omega),rfl⟩
theorem JY(h:¬(xs.length=ys.length/\xs.all C0=true/\Fz ys=true)):C7 xs ys=1:=by
 unfold C7;rw[if_pos];rw[Bool.eq_false_iff];intro h2;simp only[qag,qav]at h2;exact h h2
theorem TR(h:xs.length=ys.length/\xs.all C0=true/\Fz ys=true):C7 xs ys=if(Cw xs ys).all (fun x=>decide (0<=x))=false then 12 else if(Cw xs ys).all C0=false then 13 else 0:=by
 unfold C7;rw[if_neg];rw[h.2.1,h.2.2,qam h.1];decide
theorem Vc{f:Int->Bool}(hx:xs[i]?=some x)(h:f x=false):¬xs.all f=true:=by rw[C2 hx h];decide
def inM(x y:Int):Bool:=C0 x && Ew y
theorem RQ(a b:Option Addr)(n c m d:Nat)(xs ys:List Int)(w:World)(R:Rd w a 1 I1 xs)(hn:xs.length=n)(Ry:Rd w b 1 I1 ys)(hm:ys.length=m)(hm2:m<=1000)(hn2:n<=1000:=by omega):
  Ret prog 213 #[.slice a n c,.slice b m d] w fun v w'=>∃v',v=.tuple #[v',.int .i64<|C7 xs ys]/\(C7 xs ys≠0->v'=.slice none 0 0)/\(C7 xs ys=0->Fresh w w' 2 1 v' ((Cw xs ys).map Cu))/\Ext [] w w':=by
 subst hn hm;obtain⟨w0,rfl⟩:=qD w;refine iG func213 U ?_;refine qGp 14 ?_ ?_
 .intro h1;refine qG 8 ?_;have h4:C7 xs ys=1:=JY fun h=>by omega
  exact⟨_,by rw[h4],fun _=>rfl,(fun h=>by omega),Ext.refl _ _⟩
 .intro h1;have hle:xs.length=ys.length:=by omega
  refine qG 8 ?_;refine AY 2199023222896 (α:=Nat) (fun i=>[(6,.int .i64 (i:Int))]) (fun i w'=>i<=xs.length/\w0=w'/\(∀(k:Nat) (x:Int),k<i->xs[k]?=some x->C0 x=true)/\∀(k:Nat) (y:Int),k<i->ys[k]?=some y->Ew y=true) (fun i=>xs.length - i) 0 U ?_ ?_ ?_
  .exact⟨rfl,trivial⟩
  .exact⟨qai _,rfl,(fun k x h=>absurd h<|qay _),fun k x h=>absurd h<|qay _⟩
  .rintro i j w ⟨hi,rfl,hb,hby⟩;refine qGp 8 ?_ ?_
   .intro h2;obtain⟨x,hx⟩:=Au (l:=xs) (i:=i);obtain⟨y,hy⟩:=Au (l:=ys) (i:=i);refine qG 5 ?_;refine Bo (α:=Unit) 2199021158400 (fun _=>[(40,.bool<|!inM x y)]) (fun _ w'=>w'=w0) U ?_ ?_
    .refine AH U (Ad U<|A2 R qf qf U U (by rfl) ?_);refine A9 qf U ((R.fld hx U (j:=0) U))<|Aj qB (EV x _) U ?_;rintro v w ⟨rfl,rfl⟩;refine qG 2 ?_;refine iC 27 U ?_ ?_
     .intro h1;refine qG 14 ?_;exact⟨rfl,(),rfl,⟨qaa Value.bool (by unfold inM Ew;rw[qac];simp_all;try omega),trivial⟩,rfl⟩
     .intro h2;refine AH U<|Ad U<|A2 Ry qf qf U U (by rfl)<|A9 qf U ((Ry.fld hy U (j:=0) U)) ?_;refine qG 3 ?_;refine iC 34 U ?_ ?_
      .intro h3;refine qG 7 ?_;exact⟨rfl,(),rfl,⟨qaa Value.bool (by unfold inM Ew;rw[qac];simp_all;try omega),trivial⟩,rfl⟩
      .intro h4;refine AH U<|Ad U<|A2 Ry qf qf U U (by rfl)<|A9 qf U ((Ry.fld hy U (j:=0) U)) ?_;refine qG 3 ?_;exact⟨rfl,(),rfl,⟨qaa Value.bool (by unfold inM Ew;rw[qac];simp_all;try omega),trivial⟩,rfl⟩
    rintro - j40 w hw;subst w;refine iB U ?_ ?_
    .intro h3;refine qG 12 ?_
     have h4:C7 xs ys=1:=JY fun h=>by
      have h5:inM x y=false:=by simpa using h3
      unfold inM at h5;unfold Fz at h;simp only[qag]at h
      rcases Bool.and_eq_false_iff.1 h5 with h5|h5
      .exact Vc hx h5 h.2.1
      .exact Vc hy h5 h.2.2.1
     exact⟨_,by rw[h4],fun _=>rfl,(fun h=>by omega),Ext.refl _ _⟩
    .intro h3;refine A1<|Av<|Aa<|Aw<|Ad U<|Ap U U ?_;refine Ag U<|qA ?_;have h5:inM x y=true:=by simpa using h3
     unfold inM at h5;rw[qag]at h5;exact⟨i+1,rfl,⟨rfl,trivial⟩,⟨by omega,rfl,GN hx hb h5.1,GN hy hby h5.2⟩,by omega⟩
   .intro h2;obtain rfl:i=xs.length:=by omega
    have hax:xs.all C0=true:=CN fun k x hk hx=>hb k x hk hx;have hay:ys.all Ew=true:=CN fun k x hk hx=>hby k x (by omega) hx
    have hsm:∀y∈ys,-4503599627370496<=y/\y<=4503599627370496:=fun y hy=>by
     have:=qaw.1 hay y hy;unfold Ew at this
     simpa using this
    have hmy:∀x∈xs,0<=x/\x<=4503599627370496:=fun x hx=>Cq.1<|qaw.1 hax x hx;have hev:Fz ys=decide (Cl ys=0):=by unfold Fz;rw[hay,qbs]
    refine Bi<|Am<|Am<|A8<|Aa<|AB<|Af<|AH U<|Aj qB (Zj b ys.length d ys _ Ry U hm2 hsm) U ?_;rintro v w ⟨rfl,rfl⟩;rw[<-hev];refine qGp 3 ?_ ?_
    .intro h3;refine qG 8 ?_;have h4:C7 xs ys=1:=JY fun h=>by rw[h.2.2]at h3;cases h3
     exact⟨_,by rw[h4],fun _=>rfl,(fun h=>by omega),Ext.refl _ _⟩
    .intro h3;have hC:=TR ⟨hle,hax,(show Fz ys=true by simpa using h3)⟩;have hlen:(Cw xs ys).length=xs.length:=by unfold Cw;rw[qcl];omega
     refine qG 12 ?_;have H:=Ctx.start w0 [];refine AY 1152903912420802864 (α:=Nat) (fun i=>[(8,.int .i64 (i:Int))]) (fun i w'=>i<=xs.length/\Ctx w0 [] w' []/\∀(k:Nat) (x:Int),k<i->(Cw xs ys)[k]?=some x->decide (0<=x)=true) (fun i=>xs.length - i) 0 U ?_ ?_ ?_
     .exact⟨rfl,trivial⟩
     .exact⟨qai _,H,fun k x h=>absurd h<|qay _⟩
     .clear H;rintro i j2 w ⟨hi,H,hb2⟩;refine qGp 8 ?_ ?_
      .intro h5;obtain⟨x,hx⟩:=Au (l:=xs) (i:=i);obtain⟨y,hy⟩:=Au (l:=ys) (i:=i);have hx1:=hmy x<|qad hx;have hy1:=hsm y<|qad hy;have hat:=GL hx hy;refine A1<|Aa<|AB<|AK<|CG (fun x=>x=_) AW U<|BT U<|AS U<|Br R qf qf U U (by rfl)<|BD qf U (by rintro _ rfl;exact(((R.ext0 H.drew.ext).fld hx rfl (j:=0) rfl)))<|BT U<|AS U<|Br Ry qf qf U U (by rfl)<|BD qf U (by rintro _ rfl;exact(((Ry.ext0 H.drew.ext).fld hy rfl (j:=0) rfl))) ?_;refine qG 3 ?_;rintro _ rfl;replace H:=H.drew;refine iB U ?_ ?_
       .intro h6;refine qG 12 ?_;have h4:C7 xs ys=12:=by rw[hC,if_pos<|C2 hat<|qa1<|by omega]
        exact⟨_,by rw[h4],fun _=>rfl,(fun h=>by omega),H.ext⟩
       .intro h6;refine A1<|Av<|Aa<|Aw<|Ad U<|Ap U U ?_;refine Ag U<|qA ?_;exact⟨i+1,rfl,⟨rfl,trivial⟩,⟨by omega,H,GN hat hb2<|qam<|by omega⟩,by omega⟩
      .intro h5;obtain rfl:i=xs.length:=by omega
       have hp0:¬(Cw xs ys).all (fun x=>decide (0<=x))=false:=by
        rw[CN fun k x hk hx=>hb2 k x (by omega) hx];decide
       rw[if_neg hp0]at hC;refine Bi<|Am<|Am<|A8<|Aa<|AB<|Af<|Ag U<|qA<|AK<|AY 309485008668423564117934768 (α:=LSt) (fun t=>[(7,.slice t.a t.i t.c),(9,.int .i64 (t.i:Int))]) (fun t w'=>t.i<=xs.length/\OS t.a t.i t.c 1 t.full (((Cw xs ys).take t.i).map Cu)/\Ctx w0 [] w' (ent t.a 2 t.full)/\∀(k:Nat) (x:Int),k<t.i->(Cw xs ys)[k]?=some x->C0 x=true) (fun t=>xs.length - t.i) ⟨0,none,0,[]⟩ U ?_ ?_ ?_
       .exact⟨rfl,rfl,trivial⟩
       .exact⟨qai _,OS.nil,H,fun k x h=>absurd h<|qay _⟩
       .clear H;rintro⟨i,a2,c2,full⟩ j3 w ⟨hi,O,H,hb3⟩;dsimp only at hi O H hb3;dsimp only;refine qGp 8 ?_ ?_
        .intro h6;obtain⟨x,hx⟩:=Au (l:=xs) (i:=i);obtain⟨y,hy⟩:=Au (l:=ys) (i:=i);have hx1:=hmy x<|qad hx;have hy1:=hsm y<|qad hy;have hat:=GL hx hy;have htk:=Nl hx hy;have hxy:0<=x+y:=qbe<|hb2 i _ (by omega) hat;refine qG 5 ?_;refine CG (fun x=>x=_) AW U<|BT U<|AS U<|Br R qf qf U U (by rfl)<|BD qf U (by rintro _ rfl;exact(((R.ext0 H.drew.ext).fld hx rfl (j:=0) rfl)))<|BT U<|AS U<|Br Ry qf qf U U (by rfl)<|BD qf U (by rintro _ rfl;exact(((Ry.ext0 H.drew.ext).fld hy rfl (j:=0) rfl))) ?_;refine qG 3 ?_;rintro _ rfl;replace H:=H.drew;refine iB U ?_ ?_
         .intro h7;refine qG 13 ?_
          have h4:C7 xs ys=13:=by
           rw[hC,if_pos<|C2 hat (by unfold C0;simp only[Bool.and_eq_false_iff,qd5];omega)]
          exact⟨_,by rw[h4],fun _=>rfl,(fun h=>by omega),H.ext⟩
         .intro h7;have hgx:=hx;refine A1<|Aa<|Eb [([0,1,2,3,4,5,6,7,8,9],10),([],11),([],12)] (fun z=>Ext [] w0 z) [] AW (H.drew.ext) ?_;refine A0 U U<|Bq U<|Bq U<|AG U<|B4 R qf qf U U (by rfl) ?_;refine AU qf U (fun _ hx=>((R.ext0 hx).fld hgx rfl (j:=0) rfl))<|Bq U<|AG U<|B4 Ry qf qf U U (by rfl) ?_;refine AU qf U (fun _ hx=>((Ry.ext0 hx).fld hy rfl (j:=0) rfl))<|Dt U U ?_;refine A6 ?_;replace H:=H.drew;refine qG 1 ?_;rintro b86 w - H;refine Ab<|Bv (H.ext)<|A0 U U ?_;refine A6<|BL (L:=[]) qf qf qf qf qf U U U H O U (by simp[AF]) ?_;rintro a' c' full' w H O;refine Ab<|Bv (H.ext)<|A0 U U ?_;refine A6 (AP U<|Ab<|Bv (H.ext)<|Bu<|Av<|Aa<|Aw<|Ad U<|Ap U U ?_)
          refine Ag U<|qA ?_;have hO:((Cw xs ys).take<|i+1).map Cu=((Cw xs ys).take i).map Cu++[.int .i64<|x+y]:=by rw[htk,qau];rfl
          exact⟨⟨i+1,a',c',full'⟩,rfl,⟨rfl,rfl,trivial⟩,⟨by dsimp only;omega,by dsimp only;rw[hO];exact O,H,GN hat hb3<|Cq.2 ⟨hxy,by omega⟩⟩,by dsimp only;omega⟩
        .intro h6;refine Bi<|Am<|Am<|A8<|Aa<|Af<|AH U<|AP U<|Ag U<|qA<|Bf<|Cz (v1:=(.slice _ _ _)) (v2:=(.int _ _)) U U U U ?_;obtain rfl:i=xs.length:=by omega
         have h4:C7 xs ys=0:=by
          rw[hC,if_neg (by rw[CN fun k x hk hx=>hb3 k x (by omega) hx];decide)]
         rw[show(Cw xs ys).take xs.length=Cw xs ys by rw[<-hlen,qba]]at O;exact⟨_,by rw[h4],(fun h=>absurd h4 h),(fun _=>Ctx.fresh (L:=[]) H O),H.ext⟩
theorem Lx(a:Option Addr)(n c:Nat)(acs:List Ac)(w:World)(R:Rd w a 2 Cg acs)(hn:acs.length=n)(hm:n<=1000000:=by omega):
  Ret prog 89 #[.slice a n c] w fun v w'=>Fresh w w' 2 1 v ((acs.map Ac.ba).map Cu):=by
 subst hn;obtain⟨w0,rfl,H⟩:=qE w;refine iG func89 U ?_;refine qG 14 ?_;refine AY 524280 (α:=LSt) (fun t=>[(3,.slice t.a t.i t.c),(4,.int .i64 (t.i:Int))]) (fun t w'=>t.i<=acs.length/\OS t.a t.i t.c 1 t.full (((acs.take t.i).map Ac.ba).map Cu)/\Ctx w0 [] w' (ent t.a 2 t.full)) (fun t=>acs.length - t.i) ⟨0,none,0,[]⟩ U ?_ ?_ ?_
 .exact⟨rfl,rfl,trivial⟩
 .exact⟨qai _,OS.nil,H⟩
 .rintro⟨i,a2,c2,full⟩ j w ⟨hi,O,H⟩;dsimp only at hi O H;dsimp only;refine qGp 8 ?_ ?_
  .intro h1;obtain⟨x,hx⟩:=Au (l:=acs) (i:=i);refine qG 8 ?_;refine A2 R qf qf U U (by rfl)<|Ae qf U<|A9 qf U (((R.ext0 H.ext).fld hx U (j:=0) U)) ?_;refine qG 1 ?_;rintro b17 w - H;refine BL (L:=[]) qf qf qf qf qf U U U H O U (by simp[AF]) ?_;rintro a' c' full' w H O;refine AP U<|Ab<|Av<|Aa<|Aw<|Ad U<|Ap U U ?_;refine Ag U<|qA ?_;exact⟨⟨i+1,a',c',full'⟩,rfl,⟨rfl,rfl,trivial⟩,⟨by dsimp only;omega,by dsimp only;rw[Fk hx,qau];exact O,H⟩,by dsimp only;omega⟩
  .intro h1;refine Bi<|Am<|Am<|A8<|Aa<|Af<|AH U<|AP U<|qA<|Bf<|B6 (v:=(.slice _ _ _)) U U U ?_;obtain rfl:i=acs.length:=by omega
   rw[qba]at O;exact Ctx.fresh (L:=[]) H O
theorem RS(a:Option Addr)(n c:Nat)(acs:List Ac)(w:World)(hd:w.heap[bd]?=some (Bl 96 [.slice a n c]))(R:Rd w a 2 Cg acs)(hn:acs.length=n)(hmay:∀x∈acs,Fl x=true)(hm:n<=1000000:=by omega):
  Ret prog 212 #[ptr bd] w fun v w'=>Fresh w w' 2 1 v ((acs.map CF).map Cu):=by
 subst hn;obtain⟨w0,rfl,H⟩:=qE w;refine iG func212 U ?_;refine qG 14 ?_;refine AY 34359738360 (α:=LSt) (fun t=>[(3,.slice t.a t.i t.c),(4,.int .i64 (t.i:Int))]) (fun t w'=>t.i<=acs.length/\OS t.a t.i t.c 1 t.full (((acs.take t.i).map CF).map Cu)/\Ctx w0 [] w' (ent t.a 2 t.full)) (fun t=>acs.length - t.i) ⟨0,none,0,[]⟩ U ?_ ?_ ?_
 .exact⟨rfl,rfl,trivial⟩
 .exact⟨qai _,OS.nil,H⟩
 .clear H;rintro⟨i,a2,c2,full⟩ j w ⟨hi,O,H⟩;dsimp only at hi O H;dsimp only;refine qG 6 ?_;refine A9 qf U ((H.old0 (by rw[Ai hd];rfl))) ?_;refine qGp 4 ?_ ?_
  .intro h1;obtain⟨x,hgx⟩:=Au (l:=acs) (i:=i);have hxm:=hmay x (qad hgx)
   have hx2:(0<=x.ba/\x.ba<=4503599627370496)/\0<=x.re/\x.re<=4503599627370496:=by
    unfold Fl at hxm;rw[qag,Cq,Cq]at hxm;exact hxm
   have hrv:CF x=max (x.ba - x.re) 0:=Int.max_comm ..;refine A1<|Aa<|AB<|AK<|Eb [([0,1,2,3,4,5,6,7,8,9,10,11,12,13,14,15,16,17,18],19),([],20),([],21)] (fun z=>Ext [] w0 z) [] AW (H.drew.ext) ?_;refine A0 U U ?_;refine Bq U<|Bm U<|A7 U<|Ah qf U<|AU qf U (fun _ hx=>(by rw[Ai<|hx.to hd<|by simp];rfl)) ?_;refine AG U<|B4 R qf qf U U (by rfl) ?_;refine Ah qf U<|AU qf U (fun _ hx=>((R.ext0 hx).fld hgx rfl (j:=0) rfl)) ?_;refine Bm U<|A7 U<|Ah qf U<|AU qf U (fun _ hx=>(by rw[Ai<|hx.to hd<|by simp];rfl)) ?_;refine AG U<|B4 R qf qf U U (by rfl) ?_;refine Ah qf U<|AU qf U (fun _ hx=>((R.ext0 hx).fld hgx rfl (j:=1) rfl)) ?_;refine D9 U U<|Afo U U U ?_;refine A6 ?_;replace H:=H.drew;refine qG 1 ?_;rintro b33 w - H;refine Ab<|Bv (H.ext)<|A0 U U ?_
   refine A6<|BL (L:=[]) qf qf qf qf qf U U U H O U (by simp[AF]) ?_;rintro a' c' full' w H O;refine Ab<|Bv (H.ext)<|A0 U U ?_;refine A6<|AP U<|Ab<|Bv (H.ext)<|Bu<|Av<|Aa<|Aw<|Ad U<|Ap U U ?_;refine Ag U<|qA ?_;exact⟨⟨i+1,a',c',full'⟩,rfl,⟨rfl,rfl,trivial⟩,⟨by dsimp only;omega,by dsimp only;rw[Fk hgx,qau,hrv];exact O,H⟩,by dsimp only;omega⟩
  .intro h1;refine Bi<|Am<|Am<|A8<|Aa<|Af<|AH U<|AP U<|qA<|Bf<|B6 (v:=(.slice _ _ _)) U U U ?_;obtain rfl:i=acs.length:=by omega
   rw[qba]at O;exact Ctx.fresh (L:=[]) H O
theorem RU(a b:Option Addr)(c m d:Nat)(full:List Value)(acs:List Ac)(ys:List Int)(w:World)(hd:w.heap[bd]?=some (Bl 96 [.slice a acs.length c]))(O:OS a acs.length c 2 full (acs.flatMap Cg))(hb:∀x∈ent a 162 full,w.heap[x.1]?=some x.2/\x.1≠bd)(Ry:Rd w b 1 I1 ys)(hm:ys.length=m)(hn:acs.length<=1000:=by omega)(hm2:m<=1000:=by omega):
  Ret prog 170 #[ptr bd,.slice b m d] w fun v w'=>v=.int .i64 (C7 (acs.map Ac.ba) ys)/\∃full',OS a acs.length c 2 full' ((shA acs ys).flatMap Cg)/\(∀x∈ent a 162 full',w'.heap[x.1]?=some x.2)/\Ext ((ent a 162 full).map (·.1)) w w':=by
 obtain⟨w0,rfl⟩:=qD w;have R:Rd w0 a 2 Cg acs:=OS.rd O (fun x hx=>(hb x hx).1) (fun _ _=>rfl) (by omega);obtain⟨code,hcode⟩:=qD<|C7 (acs.map Ac.ba) ys;obtain⟨zs,hzs⟩:=qD<|shZ acs ys;have hzl:zs.length<=acs.length:=by rw[hzs];exact Zg acs ys
 rw[<-Zh,<-hzs,<-hcode];refine iG func170 U ?_;refine qG 8 ?_;refine A9 qf U ((by rw[Ai hd];rfl))<|Aj qB (Lx a acs.length c acs _ R U) U ?_;rintro v w F;obtain⟨a3,n3,c3,f3,rfl,O3,hb3⟩:=F.ex;have hl3:=O3.llen;rw[qaj,qaj]at hl3;refine AH U<|Aj qB (RQ a3 b n3 c3 m d (acs.map Ac.ba) ys _ (O3.rd1 fun x hx=>(hb3 x hx).1) (by rw[qaj];omega) (Ry.ext0 F.ext) hm hm2) U ?_;rintro v w ⟨v',rfl,hv1,hv2,hx15⟩;rw[<-hcode];obtain⟨a4,n4,c4,rfl,hn4,R4,hbz⟩:∃a4 n4 c4,v'=.slice a4 n4 c4/\zs.length=n4/\Rd w a4 1 I1 zs/\(zs≠[]->w0.heap.size<=(adr a4).block):=Zi hzs F.ext hv1 hv2;refine qG 13 ?_;subst hn4;obtain⟨w1,rfl⟩:=qD w;have hx1:=F.ext.trans hx15;have hb1:∀x∈ent a 162 full,w1.heap[x.1]?=some x.2:=fun x hx=>hx1.to (hb x hx).1<|by simp
 obtain⟨ids,hids⟩:=qD<|(ent a 162 full).map (·.1)
 have hidl:∀y∈ids,y<w0.heap.size/\y≠bd:=fun y hy=>by
  rw[hids]at hy;obtain⟨x,hx,rfl⟩:=qak.1 hy;exact⟨AX (hb x hx).1,(hb x hx).2⟩
 have H:Ctx w1 ids w1<|ent a 162 full:=⟨Ext.refl _ _,hb1,DX,fun x hx => .inl (by rw[hids];exact qa6 (f:=(·.1)) hx)⟩;have hd1:=hx1.to hd (by simp);rw[<-hids];refine AY 34359476352 (α:=HSt) (fun t=>[(7,.int .i64 (t.i:Int))]) (fun t w'=>t.i<=zs.length/\OS a acs.length c 2 t.full ((NK acs (fun i=>zs.getD i 0) t.i).flatMap Cg)/\Ctx w1 ids w' (ent a 162 t.full)) (fun t=>zs.length - t.i) ⟨0,full⟩ U ?_ ?_ ?_
 .exact⟨rfl,trivial⟩
 .exact⟨qai _,by dsimp only;rw[Lw];exact O,H⟩
 .clear H;rintro⟨i,fu⟩ j w ⟨hi,O,H⟩;dsimp only at hi O H;dsimp only;refine qGp 8 ?_ ?_
  .intro h1;obtain⟨z,hz⟩:=Au (l:=zs) (i:=i);have hzne:zs≠[]:=fun h=>by rw[h]at hz;cases hz
   have hz0:zs.getD i 0=z:=Bp hz;obtain⟨q,rfl⟩:=O.form (by omega);have hil:i<acs.length:=by omega
   obtain⟨ac,hac⟩:=Au (h:=hil);have hOl:=O.len;have hqn:=O.le;have hzb:(adr a4).block∉ids:=fun h=>by have:=hidl _ h;have:=hbz hzne;omega
   refine A1<|Aa<|AB<|AK<|DL 11 AW U U (BE U<|Bc U<|Aq qf U<|BD qf U (by rintro _ rfl;exact((H.drew.old (Ai hd1 _) fun h=>(hidl _ h).2 rfl)))<|AS U<|BT U<|AS U<|Br R4 qf qf U U (by rfl)<|BD qf U (by rintro _ rfl;exact(((R4.ext H.drew.ext hzb).fld hz rfl (j:=0) rfl))) ?_);refine qG 3 ?_;replace H:=H.drew;refine Ch (.int _ _) qf U U U H at0 (by omega) ?_;rintro w H;refine Ab<|Av<|Aa<|Aw<|Ad U<|Ap U U ?_;refine Ag U<|qA ?_;rw[show 0+((i:Int)).toNat*2+0=i*2+0 by omega]at H;have O1:=OS.setf O (y:=acZ acs (fun i=>zs.getD i 0) (i+1) i) (j:=0) (v := .int .i64 z) (fun _=>rfl) (KD hil) (by decide) (by unfold acZ Cg;dsimp only;rw[if_pos<|by omega,if_neg<|by omega,hz0];rfl);rw[RN]at O1;exact⟨⟨i+1,_⟩,rfl,⟨rfl,trivial⟩,⟨by dsimp only;omega,O1,H⟩,by dsimp only;omega⟩
  .intro h1;refine Bi<|Am<|Am<|A8<|Aa<|Af<|Ad U<|Ag U<|qA<|Bf<|B6 (v:=(.int _ _)) U U U ?_;obtain rfl:i=zs.length:=by omega
   exact⟨rfl,fu,O,fun x hx=>H.blk x hx,(hx1.mono<|by simp).trans H.ext⟩
theorem Zk(x y:Ac):decide (x=y)=true↔Cg x=Cg y:=by
 obtain⟨a,b⟩:=x;obtain⟨c,d⟩:=y;simp[Cg]
theorem Zl(x y:Du):decide (x=y)=true↔BK x=BK y:=by
 obtain⟨a,b,c,d,e,f,g⟩:=x;obtain⟨a',b',c',d',e',f',g'⟩:=y;simp[BK]
theorem J2{xs ys:List α}(hl:xs.length=ys.length)(h:∀(k:Nat) (x y:α),k<xs.length->xs[k]?=some x->ys[k]?=some y->x=y):xs=ys:=by
 refine qca fun i=>?_
 rcases qao i xs.length with h7|h7
 .obtain⟨x,hx⟩:=Au (l:=xs) (i:=i) (h:=h7);obtain⟨y,hy⟩:=Au (l:=ys) (i:=i);rw[hx,hy,h i x y h7 hx hy]
 .rw[qbg<|by omega,qbg<|by omega]
theorem Wu(a b:Option Addr)(n c m d:Nat)(xs ys:List Ac)(w:World)(R:Rd w a 2 Cg xs)(hn:xs.length=n)(hn2:n<=1000000)(Ry:Rd w b 2 Cg ys)(hm:ys.length=m)(hm2:m<=1000000) :
  Ret prog 63 #[.slice a n c,.slice b m d] w fun v w'=>v=.bool (decide (xs=ys))/\Ext [] w w':=by
 subst hn hm;obtain⟨w0,rfl,H⟩:=qE w;refine iG func63 U ?_;refine qGp 13 ?_ ?_
 .intro h1;refine qG 7 ?_;exact⟨qaa Value.bool (qa1 fun h=>by rw[h]at h1;simp at h1).symm,H.ext⟩
 .intro h1;have hle:xs.length=ys.length:=by omega
  refine qG 8 ?_;refine AY 67106864 (α:=Nat) (fun i=>[(5,.int .i64 (i:Int))]) (fun i w'=>i<=xs.length/\Ctx w0 [] w' []/\∀(k:Nat) (x y:Ac),k<i->xs[k]?=some x->ys[k]?=some y->x=y) (fun i=>xs.length - i) 0 U ?_ ?_ ?_
  .exact⟨rfl,trivial⟩
  .exact⟨qai _,H,fun k x y h=>absurd h<|qay _⟩
  .clear H;rintro i j w ⟨hi,H,hb⟩;refine qGp 8 ?_ ?_
   .intro h2;obtain⟨x,hx⟩:=Au (l:=xs) (i:=i);obtain⟨y,hy⟩:=Au (l:=ys) (i:=i);refine A1<|Aa<|AB<|AK<|CG (fun x=>x=_) AW U ?_;refine BT U<|AS U<|Br R qf qf U U (by rfl) ?_;refine FI _ qf qf U U (by rintro _ rfl;exact((R.ext0 H.drew.ext).row hx rfl)) ?_;refine BT U<|AS U<|Br Ry qf qf U U (by rfl) ?_;refine FI _ qf qf U U (by rintro _ rfl;exact((Ry.ext0 H.drew.ext).row hy rfl)) ?_;refine UA (ks:=[true,true]) (xs:=Cg x) (ys:=Cg y) (decide (x=y)) U U U ⟨rfl,rfl,trivial⟩ (Zk x y) ?_;refine Cc ?_;rintro _ rfl;replace H:=H.drew;refine A3 _ U ?_ ?_
    .intro h3;refine qG 11 ?_;have hne:¬x=y:=by simpa using h3
     exact⟨qaa Value.bool (qa1 fun h=>by subst h;rw[hx]at hy;injection hy with hy;exact hne hy).symm,H.ext⟩
    .intro h3;refine A1<|Av<|Aa<|Aw<|Ad U<|Ap U U ?_;refine Ag U<|qA ?_;have heq:x=y:=by simpa using h3
     refine⟨i+1,rfl,⟨rfl,trivial⟩,⟨by omega,H,fun k x' y' hk hx' hy'=>?_⟩,by omega⟩
     rcases qao k i with h7|h7
     .exact hb k x' y' h7 hx' hy'
     .obtain rfl:k=i:=by omega
      rw[hx]at hx';rw[hy]at hy';cases hx';cases hy';exact heq
   .intro h2;refine Bi<|Am<|Am<|A8<|Aa<|Af<|A5 U<|qA<|Bf<|B6 (v:=(.bool _)) U U U ?_;obtain rfl:i=xs.length:=by omega
    exact⟨qaa Value.bool (qam<|J2 hle hb).symm,H.ext⟩
end Go.Proofs.YtfnfnmgilmejmaaGreat
