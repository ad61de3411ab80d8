/- Part 15 of the proof. The last text: DeskOnce: for every input the law answers true, and turns nothing. -/
import Derived.Test.YtffclglpjlcojaaGreatPart14
import Derived.Test.YtffclglpjlcojaaGreatRows
set_option maxRecDepth 20000
set_option maxHeartbeats 8000000
namespace Go.Proofs.YtffclglpjlcojaaGreat
open Go.GV Go.Proofs.Tryz
attribute [local irreducible] A7 W Wq Wt
structure DkQ where
 bm:Nat
 o:Obj
 a:Option Addr
 oo:Nat
 c:Nat
 full:List Value
 bs:List (Nat × Obj)
 m:Lm
abbrev Rr(k l:Nat)(q:DkQ)(s:Ld)(ls:List As):List (Nat × Obj):=FD k l q.bm q.o q.a ls.length q.c q.full++(q.bs++LL q.m s)
structure DkS(k l:Nat)(w:World)(q:DkQ)(s:Ld)(T:Nat->Prop)(ls:List As):Prop where
 I:LdIn w q.m s T
 e:q.m.bl=l
 M:NH DP (K3 ls) q.o
 O:OSo q.a q.oo ls.length q.c 2 q.full (Oj ls)
 lie:∀x∈ls,(BIn q.bs x.aA x.cA x.ask/\BIn q.bs x.aR x.cR x.rep)/\(x.ask.length<=1000/\x.rep.length<=1000)
 tur:∀x∈FD k l q.bm q.o q.a ls.length q.c q.full,T x.1
 few:ls.length<=32
theorem DkS.grow{k l:Nat}{w w':World}{q:DkQ}{s:Ld}{T T':Nat->Prop}{ls:List As}{S:List Nat}(f:DkS k l w q s T ls)(he:Ext S w w')(hS:∀x∈S,T x\/w.heap.size<=x)(g:Grows T T' w)(hl:∀x,T' x->x<w'.heap.size):DkS k l w' q s T' ls :=
 ⟨f.I.grow he hS g hl,f.e,f.M,f.O,f.lie,fun x hx=>g.1 _ (f.tur x hx),f.few⟩
structure Dk2(k1 l1 k2 l2:Nat)(w0 w:World)(E:List (Nat × Obj))(s1 s2:Ld)(T:Nat->Prop)(ls1 ls2:List As)(q1 q2:DkQ):Prop where
 H:Ctx w0 [] w (Rr k1 l1 q1 s1 ls1++(Rr k2 l2 q2 s2 ls2++E))
 f1:DkS k1 l1 w q1 s1 T ls1
 f2:DkS k2 l2 w q2 s2 T ls2
section
variable {k1 l1 k2 l2:Nat}{w0 w w':World}{E F B B':List (Nat × Obj)}{s1 s2:Ld}{T T':Nat->Prop}{ls1 ls2:List As}{q1 q2:DkQ}
theorem Dk2.swap(K:Dk2 k1 l1 k2 l2 w0 w E s1 s2 T ls1 ls2 q1 q2):Dk2 k2 l2 k1 l1 w0 w E s2 s1 T ls2 ls1 q2 q1 :=
 ⟨K.H.perm (qbp _ _ _),K.f2,K.f1⟩
theorem Dk2.one(K:Dk2 k1 l1 k2 l2 w0 w E s1 s2 T ls1 ls2 q1 q2):DkL k1 l1 w0 w (Rr k2 l2 q2 s2 ls2++E) q1.m s1 T ls1 q1.bm q1.o q1.a q1.oo q1.c q1.full q1.bs:=by
 refine⟨⟨K.H.perm ?_,K.f1.I,K.f1.e⟩,K.f1.M,K.f1.O,K.f1.lie,K.f1.tur,K.f1.few⟩;simp only[Rr,qas];exact qbs _ (qbs _ (qcv.trans (by simp only[qas];exact List.Perm.refl _)))
theorem Dk2.own(K:Dk2 k1 l1 k2 l2 w0 w E s1 s2 T ls1 ls2 q1 q2):∀x∈E,w.heap[x.1]?=some x.2:=fun x hx=>K.H.blk x (qaf _ (qaf _ hx))
theorem Dk2.ext(K:Dk2 k1 l1 k2 l2 w0 w E s1 s2 T ls1 ls2 q1 q2):Ext [] w0 w:=K.H.ext
theorem Dk2.permE(K:Dk2 k1 l1 k2 l2 w0 w E s1 s2 T ls1 ls2 q1 q2)(h:E.Perm F):Dk2 k1 l1 k2 l2 w0 w F s1 s2 T ls1 ls2 q1 q2 :=
 ⟨K.H.perm (qbs _ (qbs _ h)),K.f1,K.f2⟩
theorem Dk2.next(K:Dk2 k1 l1 k2 l2 w0 w E s1 s2 T ls1 ls2 q1 q2)(H:Ctx w [] w' F):Dk2 k1 l1 k2 l2 w0 w' (F++E) s1 s2 T ls1 ls2 q1 q2:=by
 have hl:∀x,T x->x<w'.heap.size:=fun x h=>qa7 (K.f1.I.low x h) H.size;refine⟨(Ctx.back (L1:=[]) (L2:=Rr k1 l1 q1 s1 ls1++(Rr k2 l2 q2 s2 ls2++E)) K.H H).perm ?_,K.f1.grow H.ext (fun x hx=>by cases hx) (Grows.refl _ _) hl,K.f2.grow H.ext (fun x hx=>by cases hx) (Grows.refl _ _) hl⟩;exact(qbp _ _ _).trans (qbs _ (qbp _ _ _))
theorem Dk2.call(K:Dk2 k1 l1 k2 l2 w0 w E s1 s2 T ls1 ls2 q1 q2)(h:Ext [] w w'):Dk2 k1 l1 k2 l2 w0 w' E s1 s2 T ls1 ls2 q1 q2:=K.next ((Ctx.start w []).call h)
theorem Dk2.drop(K:Dk2 k1 l1 k2 l2 w0 w (F++E) s1 s2 T ls1 ls2 q1 q2):Dk2 k1 l1 k2 l2 w0 w E s1 s2 T ls1 ls2 q1 q2 :=
 ⟨Ctx.right (L:=F) (K.H.perm ((qbs _ (qbp _ _ _)).trans (qbp _ _ _))),K.f1,K.f2⟩
theorem Dk2.lend(K:Dk2 k1 l1 k2 l2 w0 w (B++E) s1 s2 T ls1 ls2 q1 q2):Ctx w (B.map (·.1)) w B :=
 Ctx.lend (L2:=Rr k1 l1 q1 s1 ls1++(Rr k2 l2 q2 s2 ls2++E)) (K.H.perm ((qbs _ (qbp _ _ _)).trans (qbp _ _ _)))
theorem Dk2.turnE(K:Dk2 k1 l1 k2 l2 w0 w (B++E) s1 s2 T ls1 ls2 q1 q2)(hT:∀x∈B,T x.1)(H:Ctx w (B.map (·.1)) w' B'):Dk2 k1 l1 k2 l2 w0 w' (B'++E) s1 s2 (fun x=>T x\/x∈B'.map (·.1)) ls1 ls2 q1 q2:=by
 have hS:∀x∈B.map (·.1),T x\/w.heap.size<=x:=fun x hx=>by
  obtain⟨z,hz,rfl⟩:=qah.1 hx;exact .inl (hT z hz)
 have g:Grows T (fun x=>T x\/x∈B'.map (·.1)) w:=⟨fun x hx => .inl hx,fun x hx=>hx.elim .inl fun hx=>by
  obtain⟨y,hy,rfl⟩:=qah.1 hx
  exact(H.own y hy).elim (hS _) .inr⟩
 have hl:∀x,(T x\/x∈B'.map (·.1))->x<w'.heap.size:=fun x hx=>hx.elim (fun h=>qa7 (K.f1.I.low x h) H.size) fun hx=>by
  obtain⟨y,hy,rfl⟩:=qah.1 hx;exact Bd (H.blk y hy)
 refine⟨(Ctx.back (L1:=B) (L2:=Rr k1 l1 q1 s1 ls1++(Rr k2 l2 q2 s2 ls2++E)) (K.H.perm ((qbs _ (qbp _ _ _)).trans (qbp _ _ _))) H).perm ?_,K.f1.grow H.ext hS g hl,K.f2.grow H.ext hS g hl⟩;exact(qbp _ _ _).trans (qbs _ (qbp _ _ _))
theorem Yb{ab:Option Addr}{cb:Nat}{l:List UInt8}(K:Dk2 k1 l1 k2 l2 w0 w E s1 s2 T ls1 ls2 q1 q2)(hB:BIn E ab cb l)(hl:l.length<=1000) :
  Ret prog 17 #[ptr k1,.slice ab l.length cb] w fun v w'=>∃r a c full s' T' ls' q',v=.slice a r.length c/\OS a r.length c 1 full (r.map bv)/\HV s1 ls1 l s' ls' r/\Dk2 k1 l1 k2 l2 w0 w' (ent a 5 full++E) s' s2 T' ls' ls2 q' q2/\Grows T T' w:=by
 refine Ret.mono (Aif K.one (hB.mono fun x hx=>qaf _ hx) hl) ?_;rintro v w' ⟨r,a,c,full,m',s',T',ls',rfl,O,S,⟨bm',o',a',oo',c',full',bs',D⟩,g,⟨S',he,hS⟩⟩;refine⟨r,a,c,full,s',T',ls',⟨bm',o',a',oo',c',full',bs',m'⟩,rfl,O,S,⟨D.L.H.perm ?_,⟨D.L.I,D.L.e,D.M,D.O,D.lie,D.tur,D.few⟩,K.f2.grow he hS g D.L.I.low⟩,g⟩;simp only[Rr,qas];refine qbs _ (qbs _ ?_);refine List.Perm.trans ?_ (qcv (l₁:=FD k2 l2 q2.bm q2.o q2.a ls2.length q2.c q2.full++(q2.bs++(LL q2.m s2++(ent a 5 full++E)))) (l₂:=LL m' s'));simp only[qas];refine(qbp _ _ _).trans (qbs _ ((qbp _ _ _).trans (qbs _ (qbp _ _ _))))
theorem Ts(K:Dk2 k1 l1 k2 l2 w0 w E s1 s2 T ls1 ls2 q1 q2) :
  Ret prog 19 #[ptr k1] w fun v w'=>Ext [] w w'/\∃z a n c,v=.agg (stA s1 z a n c).toArray/\StAt w' s1 z/\∃ys:List As,n=ys.length/\ys.map DQ=ls1.map (fun x=>DQ (U7 ls1 x))/\Rd w' a 4 asC ys/\∀y∈ys,AsR w' y :=
 To ⟨_,_,_,_,_,_,_,K.one⟩
end
theorem Alh{k1 l1:Nat}{w0 w:World}{m1:Lm}{T1:Nat->Prop}(K1:Dk k1 l1 w0 w [] m1 s00 T1 []) :
  Ret prog 14 #[] w fun v w'=>∃k2 l2 T q1 q2,v=ptr k2/\Dk2 k1 l1 k2 l2 w0 w' [] s00 s00 T [] [] q1 q2:=by
 refine Ret.mono (Rl w) ?_;rintro v w' ⟨k2,l2,m2,T2,rfl,⟨bm2,o2,a2,oo2,c2,full2,bs2,D2⟩⟩;obtain⟨bm,o,a,oo,c,full,bs,D⟩:=K1
 have hn:∀{bk bl:Nat} {w0 w:World} {m:Lm} {T:Nat->Prop} {bm:Nat} {o:Obj} {a:Option Addr} {oo c:Nat} {full:List Value} {bs:List (Nat × Obj)},DkL bk bl w0 w [] m s00 T [] bm o a oo c full bs->Ctx w0 [] w (FD bk bl bm o a 0 c full++(bs++LL m s00)):=fun D=>by
  have h:=D.L.H;simp only[qa0,qas]at h;exact h
 have h1:=hn D;have h2:=hn D2
 have hH:Ctx w0 [] w' ((FD k1 l1 bm o a 0 c full++(bs++LL m1 s00))++((FD k2 l2 bm2 o2 a2 0 c2 full2++(bs2++LL m2 s00))++[])):=by
  rw[qa0];exact(Ctx.back (L1:=[]) (L2:=FD k1 l1 bm o a 0 c full++(bs++LL m1 s00)) h1 h2).comm
 have hlow:∀x,x∈((FD k1 l1 bm o a 0 c full++(bs++LL m1 s00))++((FD k2 l2 bm2 o2 a2 0 c2 full2++(bs2++LL m2 s00))++[])).map (fun x:Nat × Obj=>x.1)->x<w'.heap.size:=fun x hx=>by
  obtain⟨y,hy,rfl⟩:=qah.1 hx;exact Bd (hH.blk y hy)
 have hI:∀{w:World} {m:Lm} {T T':Nat->Prop} (_:LdIn w m s00 T) (w':World) (_:∀x∈Dy m s00,T' x) (_:∀x,T' x->x<w'.heap.size),LdIn w' m s00 T':=fun I w' ho hl=>⟨I.O,I.M,I.ok,I.len,I.n,I.no,(fun r hr=>by cases hr),ho,hl⟩
 refine⟨k2,l2,fun x=>x∈((FD k1 l1 bm o a 0 c full++(bs++LL m1 s00))++((FD k2 l2 bm2 o2 a2 0 c2 full2++(bs2++LL m2 s00))++[])).map (fun x:Nat × Obj=>x.1),⟨bm,o,a,oo,c,full,bs,m1⟩,⟨bm2,o2,a2,oo2,c2,full2,bs2,m2⟩,rfl,hH,
  ⟨hI D.L.I w' (fun x hx=>?_) hlow,D.L.e,D.M,D.O,(fun x hx=>by cases hx),fun x hx=>?_,D.few⟩,⟨hI D2.L.I w' (fun x hx=>?_) hlow,D2.L.e,D2.M,D2.O,(fun x hx=>by cases hx),fun x hx=>?_,D2.few⟩⟩
 .obtain⟨y,hy,rfl⟩:=qah.1 hx;exact qah.2 ⟨y,qao _ (qaf _ (qaf _ hy)),rfl⟩
 .exact qah.2 ⟨x,qao _ (qao _ hx),rfl⟩
 .obtain⟨y,hy,rfl⟩:=qah.1 hx;exact qah.2 ⟨y,qaf _ (qao _ (qaf _ (qaf _ hy))),rfl⟩
 .exact qah.2 ⟨x,qaf _ (qao _ (qao _ hx)),rfl⟩
def NoB(k:Ak):Prop:=((((k.a<0\/k.a>255)\/k.b < -32768)\/k.b>32767)\/k.w<0)\/k.w>65535
instance (k:Ak):Decidable (NoB k):=by unfold NoB;infer_instance
theorem Yc(c n:Nat)(k:Ak)(w:World)(h:NoB k) :
  Ret prog 15 #[.int .u32 (c:Int),.int .u64 (n:Int),.agg (BQ k).toArray] w fun v w'=>v=.tuple #[.slice none 0 0,.int .i64 1]/\Ext [] w w':=by
 obtain⟨w0,rfl,H⟩:=qE w;refine Au (fn:=Tryz.f15) func15 U [.int .u32 (c:Int),.int .u64 (n:Int),.agg (BQ k).toArray] U (Ae (Bu (BQ k) (.agg _) U U H ?_));rintro b5 w - H;refine Am U (Ad U (qA (Ax (Ae (Ci (α:=Unit) 137438952960 (fun _=>[(36,.bool ((((((decide (k.a<0) || decide (k.a>255)) || decide (k.b < -32768)) || decide (k.b>32767)) || decide (k.w<0)) || decide (k.w>65535))))]) (fun _ w'=>Ctx w0 [] w' [(b5,Bl 25 (BQ k))]) U ?_ ?_)))))
 .refine Ah EF U (AG Cc U H at0 U (Bm U U (A2 U (AR 12 U ?_ ?_))))
  .intro h1;replace h1:=AM h1;refine Ag U (Ag U (Ag U (AA U (.bool _) U (A2 U (Ag U (Ag U (Ag U (AA U (.bool _) U (A2 U ?_)))))))));refine Ag U (Ag U (Ag U (AA U (.bool _) U (A2 U (Ag U (Ag U (Ag U (AA U (.bool _) U (A2 U ?_)))))))));refine Ag U (Ag U (Ag U (AA U (.bool _) U (Ab ?_))));exact⟨rfl,(),rfl,⟨qaa Value.bool (by(rw[qad];simp only[qbf,qar,true_iff];omega)),trivial⟩,H⟩
  .intro h2;replace h2:=AN h2;refine Ah EF U (AG Cc U H at0 U (C8 U U (AJ U (.bool _) U (A2 U (AR 17 U ?_ ?_)))))
   .intro h3;replace h3:=AM h3;refine Ag U (Ag U (Ag U (AA U (.bool _) U (A2 U (Ag U (Ag U (Ag U (AA U (.bool _) U (A2 U ?_)))))))));refine Ag U (Ag U (Ag U (AA U (.bool _) U (A2 U (Ag U (Ag U (Ag U (AA U (.bool _) U (Ab ?_)))))))));exact⟨rfl,(),rfl,⟨qaa Value.bool (by(rw[qad];simp only[qbf,qar,true_iff];omega)),trivial⟩,H⟩
   .intro h4;replace h4:=AN h4;refine Ah HZ U (AG Cc U H at0 U (Bm U U (AJ U (.bool _) U (A2 U (AR 22 U ?_ ?_)))))
    .intro h5;replace h5:=AM h5;refine Ag U (Ag U (Ag U (AA U (.bool _) U (A2 U (Ag U (Ag U (Ag U (AA U (.bool _) U (A2 U ?_)))))))));refine Ag U (Ag U (Ag U (AA U (.bool _) U (Ab ?_))));exact⟨rfl,(),rfl,⟨qaa Value.bool (by(rw[qad];simp only[qbf,qar,true_iff];omega)),trivial⟩,H⟩
    .intro h6;replace h6:=AN h6;refine Ah HZ U (AG Cc U H at0 U (C8 U U (AJ U (.bool _) U (A2 U (AR 27 U ?_ ?_)))))
     .intro h7;replace h7:=AM h7;refine Ag U (Ag U (Ag U (AA U (.bool _) U (A2 U (Ag U (Ag U (Ag U (AA U (.bool _) U (Ab ?_)))))))));exact⟨rfl,(),rfl,⟨qaa Value.bool (by(rw[qad];simp only[qbf,qar,true_iff];omega)),trivial⟩,H⟩
     .intro h8;replace h8:=AN h8;refine Ah JQ U (AG B4 U H at0 U (Bm U U (AJ U (.bool _) U (A2 U (AR 32 U ?_ ?_)))))
      .intro h9;replace h9:=AM h9;refine Ag U (Ag U (Ag U (AA U (.bool _) U (Ab ?_))));exact⟨rfl,(),rfl,⟨qaa Value.bool (by(rw[qad];simp only[qbf,qar,true_iff];omega)),trivial⟩,H⟩
      .intro h10;replace h10:=AN h10;refine Ah JQ U (AG B4 U H at0 U (C8 U U (AJ U (.bool _) U (Ab ?_))));exact⟨rfl,(),rfl,⟨qaa Value.bool (by(rw[qad];simp only[qbf,qar];omega)),trivial⟩,H⟩
 rintro - j36 w H;refine Aw _ U ?_ ?_
 .intro g1;refine Ae (Am U (Ad U (qA (A5 (Av (Cf (v1:=(.slice _ _ _)) (v2:=(.int _ _)) U U U U ?_))))));exact⟨rfl,H.ext⟩
 .intro g1;exfalso;simp at g1;unfold NoB at h;omega
theorem Ali{k:Ak}(hin:AkIn k)(h:¬NoB k):MayP k:=by
 unfold NoB at h;obtain⟨h1,h2,h3,h4,h5,h6,h7⟩:=hin;unfold I64 at h2 h3 h4 h5 h6;constructor <;> omega
theorem Ara{c n:Nat}{k:Ak}(h:MayP k):(CU (EK c n k) 12 1:Int)=k.kd:=by
 have h1:CU (EK c n k) 12 1=w64 k.kd % 256 ^ 1:=HN (pre:=Co c 4++Co n 8) (by unfold EK;rw[qas]) (by rw[qat,Cz,Cz]);have h2:=h.kd;rw[h1,QW (h0:=h2.1)];omega
theorem Alj{c n:Nat}{k:Ak}(h:MayP k)(hi:DZ (EK c n k)=true):MayB k:=by
 have h1:(1:Nat)<=CU (EK c n k) 12 1/\CU (EK c n k) 12 1<=15:=by
  unfold DZ at hi;simp only[qae,qar]at hi;exact hi.2
 have h2:=Ara (c:=c) (n:=n) h;exact⟨by omega,h.a,h.b,h.x,h.w,h.u,h.id⟩
def npV(w0:World)(o:Obj):Value->World->Prop:=fun v w=>∃b:Nat,v=.pointer (some ⟨b,0,none⟩)/\w.heap[b]?=some o/\w0.heap.size<=b
theorem Arb(w0:World)(o:Obj):Sta (npV w0 o):=fun v w w' ⟨b,h1,h2,h3⟩ hx=>⟨b,h1,hx.to h2 (by simp),h3⟩
theorem Z4{l:List UInt8}{i:Nat}{b:UInt8}(h:l[i]?=some b):CU l i 1=b.toNat:=by
 have:=Aii (l:=l) (p:=i) (i:=0) h;unfold CU;rw[this];show 0*256+b.toNat=_;omega
theorem Yd(a:Option Addr)(c:Nat)(l:List UInt8)(w:World)(hl:l.length≠42) :
  Ret prog 16 #[.slice a l.length c] w fun v w'=>∃(x y:Int) (q:Ak),v=.tuple #[.int .u32 x,.int .u64 y,.agg (BQ q).toArray,.int .i64 (gaE l)]/\Ext [] w w':=by
 obtain⟨w0,rfl,H⟩:=qE w
 have hno:DZ l=false:=by
  unfold DZ;rw[qa2 hl];rfl
 rw[U6 hno];refine Au (fn:=Tryz.f16) func16 U [.slice a l.length c] U (Ae (Ad U (Ad U (Bc IZ H ?_))));rintro b4 w - H;refine Ad U (qA (Ax (Ae (Ap U (Be De U (CK U U ?_))))));rw[show(!decide ((l.length:Int)=42))=true from by simp;omega];refine A2 U (Ag U (Ag U (Ag U (Ag U (AA U (.bool _) U (A2 U (Ag U (Ag U (Ag U ?_)))))))));refine Ag U (AA U (.bool _) U (qA (DB U (Ae (BA (BQ ⟨0,0,0,0,0,0,0⟩) OG IZ ?_)))));refine Ad U (Ad U (Bn FP U U U (by exact(by simp[AY])) H at0 U ?_));rintro w H;refine Ad U (qA (A5 (Av (JN U U (show _=(.int _ _)from rfl) (show _=(.int _ _)from rfl) U Kn FP H at0 U (show _=(.int _ _)from rfl) ?_))));exact⟨_,_,_,rfl,H.ext⟩
theorem W7(a:Option Addr)(c:Nat)(l:List UInt8)(w:World)(R:Rd w a 1 B8 l)(hl:l.length=42) :
  Ret prog 16 #[.slice a l.length c] w fun v w'=>∃(x y:Int) (q:Ak),v=.tuple #[.int .u32 x,.int .u64 y,.agg (BQ q).toArray,.int .i64 (gaE l)]/\Ext [] w w':=by
 obtain⟨w0,rfl,H⟩:=qE w;obtain⟨b12,h12⟩:=AE (l:=l) (i:=12);obtain⟨b13,h13⟩:=AE (l:=l) (i:=13);have e12:=Z4 h12;have e13:=Z4 h13;have hf12:=Abt l 12;have c12:∀{w:World},Ext [] w0 w->w.cell? ⟨(adr a).block,(adr a).off+12*1,none⟩=some (.int .u8 (CU l 12 1:Int)):=fun hx=>by rw[e12];exact(R.ext0 hx).one (f:=bv) h12
 have c13:∀{w:World},Ext [] w0 w->w.cell? ⟨(adr a).block,(adr a).off+13*1,none⟩=some (.int .u8 (CU l 13 1:Int)):=fun hx=>by rw[e13];exact(R.ext0 hx).one (f:=bv) h13
 have hgaE:gaE l=if 1<=CU l 12 1/\CU l 12 1<=15 then 0 else 5:=by
  unfold gaE DZ;rw[qan hl]
  by_cases h:1<=CU l 12 1/\CU l 12 1<=15
  .rw[if_pos h,qan h.1,qan h.2];rfl
  .rw[if_neg h]
   have:(decide (1<=CU l 12 1) && decide (CU l 12 1<=15))=false:=by
    rw[Bool.and_eq_false_iff,qdh,qdh];omega
   rw[this];rfl
 refine Au (fn:=Tryz.f16) func16 U [.slice a l.length c] U (Ae (Ad U (Ad U (Bc IZ H ?_))));rintro b4 w - H;refine Ad U (qA (Ax (Ae (Ci (α:=Unit) 4194176 (fun _=>[(21,.bool ((decide ((CU l 12 1:Int)<1) || decide ((CU l 12 1:Int)>15))))]) (fun _ w'=>Ctx w0 [] w' [(b4,Bl 25 (BQ ⟨0,0,0,0,0,0,0⟩))]) U ?_ ?_))))
 .refine Ap U (Be De U (CK U U ?_));rw[show(!decide ((l.length:Int)=42))=false from by simp;omega];refine A2 U (Ap U (Bg (R.ext0 H.ext) De IK U U (by rfl) ?_));refine Bb Kv U ((c12 H.ext)) ?_;refine Bm U U (AJ U (.bool _) U (A2 U (AR 16 U ?_ ?_)))
  .intro h1;replace h1:=AM h1;refine Ag U (Ag U (Ag U (Ag U (AA U (.bool _) U (Ab ?_)))));exact⟨rfl,(),rfl,⟨qaa Value.bool (by(rw[qad];simp only[qbf,qar,true_iff];omega)),trivial⟩,H⟩
  .intro h2;replace h2:=AN h2;refine Ap U (Bg (R.ext0 H.ext) De IK U U (by rfl) ?_);refine Bb Kv U ((c12 H.ext)) (C8 U U (AJ U (.bool _) U (Ab ?_)));exact⟨rfl,(),rfl,⟨qaa Value.bool (by(rw[qad];simp only[qbf,qar];omega)),trivial⟩,H⟩
 rintro - j21 w H;refine Aw _ U ?_ ?_
 .intro h1
  have h1':¬(1<=CU l 12 1/\CU l 12 1<=15):=by
   simp at h1;omega
  rw[if_neg h1']at hgaE;rw[hgaE];refine Ae (BA (BQ ⟨0,0,0,0,0,0,0⟩) OG IZ ?_);refine Ad U (Ad U (Bn FP U U U (by exact(by simp[AY])) H at0 U ?_));rintro w H;refine Ad U (qA (A5 (Av (JN U U (show _=(.int _ _)from rfl) (show _=(.int _ _)from rfl) U Kn FP H at0 U (show _=(.int _ _)from rfl) ?_))));exact⟨_,_,_,rfl,H.ext⟩
 .intro h1
  have h1':1<=CU l 12 1/\CU l 12 1<=15:=by
   simp at h1;omega
  rw[if_pos h1']at hgaE;rw[hgaE];refine Ay (Aa (DV 70368735789120 (α:=Nat) (fun b=>[(6,ptr b)]) (fun b w'=>Ctx w0 [] w' [(b4,Bl 25 (BQ ⟨0,0,0,0,0,0,0⟩)),(b,Bl 25 (BQ (Ig l)))]) U ?_ ?_))
  .skip
   refine Ac8 (n:=24) (N:=25) (anc:=Ac9 24 [[],[0],[0,1],[],[3],[3,4],[3,4,5],[],[7],[7,8],[7,8,9],[],[7,8,11],[7,8,11,12],[],[7,8,11,12,14],[7,8,11,12,14,15],[],[7,8,11,12,14,15,17],[7,8,11,12,14,15,17,18],[],[7,8,11,12,14,15,17,18,20],[0,1,2,3,4,5,6,7,8,9,10,11,12,13,14,15,16,17,18,19,20,21],[]]) (fun i=>if i=23 then 6 else 23+i) [isV (.slice a l.length c),isV (.pointer (some ⟨(adr a).block,(adr a).off+12*1,none⟩)),isV (.int .u8 (CU l 12 1:Int)),isV (.slice a l.length c),isV (.pointer (some ⟨(adr a).block,(adr a).off+13*1,none⟩)),isV (.int .u8 (CU l 13 1:Int)),isV (.int .i64 (CU l 13 1:Int)),isV (.slice a l.length c),isV (.int .u64 (CU l 14 2:Int)),isV (.int .i16 (sgN 32768 (CU l 14 2))),isV (.int .i64 (sgN 32768 (CU l 14 2))),isV (.slice a l.length c),isV (.int .u64 (CU l 16 8:Int)),isV (.int .i64 (sgN 9223372036854775808 (CU l 16 8))),isV (.slice a l.length c),isV (.int .u64 (CU l 24 2:Int)),isV (.int .i64 (CU l 24 2:Int)),isV (.slice a l.length c),isV (.int .u64 (CU l 26 8:Int)),isV (.int .i64 (sgN 9223372036854775808 (CU l 26 8))),isV (.slice a l.length c),isV (.int .u64 (CU l 34 8:Int)),isV (.agg (BQ (Ig l)).toArray),npV w (Bl 25 (BQ ⟨0,0,0,0,0,0,0⟩))] (show Tryz.prog.follows .mixedOrders=true by kernel_rfl) U (NJ _) (fun i j _ _ h=>by have h:(if i=23 then 6 else 23+i:Nat)=(if j=23 then 6 else 23+j:Nat):=h;split at h <;> split at h <;> omega) ⟨Eu _,Eu _,Eu _,Eu _,Eu _,Eu _,Eu _,Eu _,Eu _,Eu _,Eu _,Eu _,Eu _,Eu _,Eu _,Eu _,Eu _,Eu _,Eu _,Eu _,Eu _,Eu _,Eu _,Arb _ _,trivial⟩ ?_ ?_
   .intro m o e' w' hm ho hold hg hx;have hin:∀t:Nat,t<6->∀j,j<24->t≠(fun i=>if i=23 then 6 else 23+i) j:=fun t ht j hj=>by dsimp only;split <;> omega
    have hx0:Ext [] w w':=(Ext.drew [] w).trans hx;have g0:e'.g 0=.slice a l.length c:=(hold 0 (hin 0 (by decide))).trans rfl;have hcs:m=0\/m=1\/m=2\/m=3\/m=4\/m=5\/m=6\/m=7\/m=8\/m=9\/m=10\/m=11\/m=12\/m=13\/m=14\/m=15\/m=16\/m=17\/m=18\/m=19\/m=20\/m=21\/m=22\/m=23:=by omega
    rcases hcs with rfl|rfl|rfl|rfl|rfl|rfl|rfl|rfl|rfl|rfl|rfl|rfl|rfl|rfl|rfl|rfl|rfl|rfl|rfl|rfl|rfl|rfl|rfl|rfl
    .cases qag ho;exact C7 _ g0 (Ab ⟨_,.refl _ _,rfl,rfl⟩)
    .cases qag ho;exact Bg (i:=12) R De IK (hg 0 (by decide)) U (h0:=by decide) U (Ab ⟨_,.refl _ _,rfl,rfl⟩)
    .cases qag ho;exact Bb Kv (hg 1 (by decide)) (c12 (H.ext.trans hx0)) (Ab ⟨_,.refl _ _,rfl,rfl⟩)
    .cases qag ho;exact C7 _ g0 (Ab ⟨_,.refl _ _,rfl,rfl⟩)
    .cases qag ho;exact Bg (i:=13) R De IK (hg 3 (by decide)) U (h0:=by decide) U (Ab ⟨_,.refl _ _,rfl,rfl⟩)
    .cases qag ho;exact Bb Kv (hg 4 (by decide)) (c13 (H.ext.trans hx0)) (Ab ⟨_,.refl _ _,rfl,rfl⟩)
    .cases qag ho;exact Di (hg 5 (by decide)) Hr Ho (h2:=by have:=Abt l 13;omega) (Ab ⟨_,.refl _ _,rfl,rfl⟩)
    .cases qag ho;exact C7 _ g0 (Ab ⟨_,.refl _ _,rfl,rfl⟩)
    .cases qag ho;refine Al qB (FN a c _ l 14 2 _ (R.ext0 (H.ext.trans hx0)) U) ?_ ?_
     .show[e'.g 30,.int .i64 14,.int .i64 2]=_;rw[show e'.g 30=.slice a l.length c from(hg 7 (by decide))];rfl
     .rintro v w2 ⟨rfl,h2⟩;exact Ab ⟨_,h2,rfl,rfl⟩
    .cases qag ho;exact Es (hg 8 (by decide)) Dc YD (Ab ⟨_,.refl _ _,rfl,qaa (Value.int .i16) (Wp (RM l 14))⟩)
    .cases qag ho;exact Di (hg 9 (by decide)) YD Ho (h1:=by have:=Rh _ (RM l 14);omega) (h2:=by have:=Rh _ (RM l 14);omega) (Ab ⟨_,.refl _ _,rfl,rfl⟩)
    .cases qag ho;exact C7 _ g0 (Ab ⟨_,.refl _ _,rfl,rfl⟩)
    .cases qag ho;refine Al qB (FN a c _ l 16 8 _ (R.ext0 (H.ext.trans hx0)) U) ?_ ?_
     .show[e'.g 34,.int .i64 16,.int .i64 8]=_;rw[show e'.g 34=.slice a l.length c from(hg 11 (by decide))];rfl
     .rintro v w2 ⟨rfl,h2⟩;exact Ab ⟨_,h2,rfl,rfl⟩
    .cases qag ho;exact Es (hg 12 (by decide)) Dc LJ (Ab ⟨_,.refl _ _,rfl,qaa (Value.int .i64) (Nx (Wc l 16))⟩)
    .cases qag ho;exact C7 _ g0 (Ab ⟨_,.refl _ _,rfl,rfl⟩)
    .cases qag ho;refine Al qB (FN a c _ l 24 2 _ (R.ext0 (H.ext.trans hx0)) U) ?_ ?_
     .show[e'.g 37,.int .i64 24,.int .i64 2]=_;rw[show e'.g 37=.slice a l.length c from(hg 14 (by decide))];rfl
     .rintro v w2 ⟨rfl,h2⟩;exact Ab ⟨_,h2,rfl,rfl⟩
    .cases qag ho;exact Di (hg 15 (by decide)) Dc LJ (h2:=by have:=RM l 24;omega) (Ab ⟨_,.refl _ _,rfl,rfl⟩)
    .cases qag ho;exact C7 _ g0 (Ab ⟨_,.refl _ _,rfl,rfl⟩)
    .cases qag ho;refine Al qB (FN a c _ l 26 8 _ (R.ext0 (H.ext.trans hx0)) U) ?_ ?_
     .show[e'.g 40,.int .i64 26,.int .i64 8]=_;rw[show e'.g 40=.slice a l.length c from(hg 17 (by decide))];rfl
     .rintro v w2 ⟨rfl,h2⟩;exact Ab ⟨_,h2,rfl,rfl⟩
    .cases qag ho;exact Es (hg 18 (by decide)) Dc LJ (Ab ⟨_,.refl _ _,rfl,qaa (Value.int .i64) (Nx (Wc l 26))⟩)
    .cases qag ho;exact C7 _ g0 (Ab ⟨_,.refl _ _,rfl,rfl⟩)
    .cases qag ho;refine Al qB (FN a c _ l 34 8 _ (R.ext0 (H.ext.trans hx0)) U) ?_ ?_
     .show[e'.g 43,.int .i64 34,.int .i64 8]=_;rw[show e'.g 43=.slice a l.length c from(hg 20 (by decide))];rfl
     .rintro v w2 ⟨rfl,h2⟩;exact Ab ⟨_,h2,rfl,rfl⟩
    .cases qag ho;refine BA (BQ (Ig l)) OG IZ (hl:=?_) (Ab ⟨_,.refl _ _,rfl,rfl⟩);show Instr.fill _ _ [(0,e'.g 25),(1,e'.g 29),(2,e'.g 33),(3,e'.g 36),(4,e'.g 39),(5,e'.g 42),(6,e'.g 44)]=_;rw[show e'.g 25=.int .u8 (CU l 12 1:Int)from(hg 2 (by decide)),show e'.g 29=.int .i64 (CU l 13 1:Int)from(hg 6 (by decide)),show e'.g 33=.int .i64 (sgN 32768 (CU l 14 2))from(hg 10 (by decide)),show e'.g 36=.int .i64 (sgN 9223372036854775808 (CU l 16 8))from(hg 13 (by decide)),show e'.g 39=.int .i64 (CU l 24 2:Int)from(hg 16 (by decide)),show e'.g 42=.int .i64 (sgN 9223372036854775808 (CU l 26 8))from(hg 19 (by decide)),show e'.g 44=.int .u64 (CU l 34 8:Int)from(hg 21 (by decide))];kernel_rfl
    .cases qag ho;have H0:=Ctx.start w' [];refine Bc IZ H0 ?_;intro b w2 _ H;exact Ab ⟨_,H.ext,rfl,b,rfl,H.get at0,qa6 hx0.size ((H.own _ (qak ..)).elim (fun h=>by cases h) id)⟩
   .intro e' w' hds hold hg hx;have hx0:Ext [] w w':=(Ext.drew [] w).trans hx;obtain⟨b6,h6,hb6,hn6⟩:npV w _ (e'.g 6) w':=hg 23 (by decide);have h22:e'.g 45=.agg (BQ (Ig l)).toArray:=hg 22 (by decide);have H5:Ctx w0 [] w' ([(b4,Bl 25 (BQ ⟨0,0,0,0,0,0,0⟩))]++[(b6,Bl 25 (BQ ⟨0,0,0,0,0,0,0⟩))]):=H.callEnt hx0 (fun x hx=>by rw[qab.1 hx];exact⟨hb6,hn6⟩) (by simp);refine Bn (vs:=BQ (Ig l)) FP h6 h22 U (by simp[AY]) H5 at1 U fun w4 H8=>Ab ?_;exact⟨b6,hds,⟨h6,trivial⟩,H8⟩
  .rintro b6 j4 w H;refine Ck [([0,3,5],1),([2],4),([6,7],8),([],9)] (fun z=>(Ext [] w0 z/\z.heap[b6]?=some (Bl 25 (BQ (Ig l))))) [8,9] Br (⟨H.drew.ext,H.drew.get at1⟩) ?_;refine AD U U ?_;refine B3 U (B3 U (G9 _ Kn FP U U (fun _ hx=>(CX (b:=b6) (t:=25) (l:=BQ (Ig l)) hx.2 0 (BQ (Ig l)) rfl)) ?_));refine AU ?_;replace H:=H.drew;refine Al qB (FN a c _ l 0 4 _ (R.ext0 H.ext) U) U ?_;rintro v w ⟨rfl,hx47⟩;replace H:=H.call hx47;refine Ab (BH (⟨H.ext,H.get at1⟩) (AD U U ?_));refine PY U U Dc Vq (by have:=fld4 l 0;omega) ?_;refine AU (Al qB (FN a c _ l 4 8 _ (R.ext0 H.ext) U) U ?_);rintro v w ⟨rfl,hx50⟩;replace H:=H.call hx50;refine Ab (BH (⟨H.ext,H.get at1⟩) (AD U U ?_));refine Fs U (Fs U (AU (Bn FP U U U (by exact(by simp[AY])) H at0 U ?_)));rintro w H
   refine Ab (Bz U (AD U U ?_));refine AU (Ad U (Ab (Bz U (BF (A5 (JN U U (show _=(.int _ _)from rfl) (show _=(.int _ _)from rfl) U Kn FP H at0 U (show _=(.int _ _)from rfl) ?_))))));exact⟨_,_,_,rfl,H.ext⟩
theorem Ye(a:Option Addr)(c:Nat)(l:List UInt8)(w:World)(R:Rd w a 1 B8 l) :
  Ret prog 16 #[.slice a l.length c] w fun v w'=>∃(x y:Int) (q:Ak),v=.tuple #[.int .u32 x,.int .u64 y,.agg (BQ q).toArray,.int .i64 (gaE l)]/\Ext [] w w':=by
 by_cases h:l.length=42
 .exact W7 a c l w R h
 .exact Yd a c l w h
theorem Aik{s s' s'':Ld}{k:Ak}{p p':Rp}(h:CN s k s' p)(h2:CN s k s'' p'):s'=s''/\p=p':=by
 unfold CN at h h2
 split at h
 .rename_i hk
  rw[if_pos hk]at h2
  rcases h with⟨h3,rfl,rfl⟩|⟨h3,r,P,rfl,rfl⟩
  .rcases h2 with⟨-,rfl,rfl⟩|⟨h4,-⟩
   .exact⟨rfl,rfl⟩
   .omega
  .rcases h2 with⟨h4,-,-⟩|⟨-,r',P',rfl,rfl⟩
   .omega
   .obtain rfl:=Agp P P';exact⟨rfl,rfl⟩
 .rename_i hk
  rw[if_neg hk]at h2;exact⟨h.1.trans h2.1.symm,h.2.trans h2.2.symm⟩
theorem Alk{L:List As}{k:Nat × Nat}(h:∀x∈L,Dg x≠k):FR L k=none:=by
 unfold FR;rw[qeo];exact fun x hx=>by rw[qar];exact h x hx
def Je{α:Type}(L:List α):List α:=L.drop (L.length - 32)
def Z5{α:Type}(L:List α)(y:α):List α:=if L.length<32 then L++[y]else(L++[y]).drop 1
theorem Yf{α:Type}(L:List α)(y:α):Z5 (Je L) y=Je (L++[y]):=by
 unfold Z5 Je
 by_cases h:L.length<32
 .rw[if_pos (by rw[qc1];omega),show L.length - 32=0 from by omega,show(L++[y]).length - 32=0 from by rw[qat,qb9];omega];rfl
 .rw[if_neg (by rw[qc1];omega),show(L++[y]).length - 32=(L.length - 32)+1 from by rw[qat,qb9];omega,<-List.drop_append_of_le_length (by omega),List.drop_drop]
theorem Acn(ls:List As)(y:As):(Pi ls y).map DQ=Z5 (ls.map DQ) (DQ y):=by
 unfold Pi Z5;rw[qal]
 split
 .rw[qav];rfl
 .rw[List.map_drop,qav];rfl
abbrev Gq:=Nat × List UInt8 × List UInt8
def II(g:Gq):Nat × Nat × List UInt8 × List UInt8:=(7,g.1,g.2.1,g.2.2)
structure GOk(i:Nat)(G:List Gq):Prop where
 len:G.length<=i
 lt:∀g∈G,g.1<i
 nd:G.Pairwise fun a b=>a.1≠b.1
 ask:∀g∈G,DZ g.2.1=true/\gaC g.2.1=7/\gaN g.2.1=g.1/\g.2.1.length<=1000/\g.2.2.length<=1000
theorem GOk.succ{i:Nat}{G:List Gq}(h:GOk i G):GOk (i+1) G:=⟨Nat.le_succ_of_le h.len,fun g hg=>Nat.lt_succ_of_lt (h.lt g hg),h.nd,h.ask⟩
theorem GOk.snoc{i:Nat}{G:List Gq}{raw r:List UInt8}(h:GOk i G)(hi:DZ raw=true)(hc:gaC raw=7)(hn:gaN raw=i)(hl:raw.length<=1000)(hr:r.length<=1000):GOk (i+1) (G++[(i,raw,r)]):=by
 refine⟨by rw[qat];exact Nat.succ_le_succ h.len,fun g hg=>?_,?_,fun g hg=>?_⟩
 .rcases qbc.1 hg with h1|h1
  .exact Nat.lt_succ_of_lt (h.lt g h1)
  .rw[qab.1 h1];exact Nat.lt_succ_self _
 .refine qcd.2 ⟨h.nd,List.pairwise_singleton _ _,fun x hx y hy=>?_⟩;rw[qab.1 hy];exact Nat.ne_of_lt (h.lt x hx)
 .rcases qbc.1 hg with h1|h1
  .exact h.ask g h1
  .rw[qab.1 h1];exact⟨hi,hc,hn,hl,hr⟩
theorem GOk.one{i:Nat}{G:List Gq}(h:GOk i G){g g':Gq}(hg:g∈G)(hg':g'∈G)(he:g.1=g'.1):g=g':=by
 obtain⟨n,hn⟩:=qby.1 hg;obtain⟨m,hm⟩:=qby.1 hg'
 have key:∀{p q:Nat} {x y:Gq},p<q->G[p]?=some x->G[q]?=some y->x.1≠y.1:=fun{p q x y} hpq hx hy=>by
  obtain⟨hp,hx⟩:=qa8.1 hx;obtain⟨hq,hy⟩:=qa8.1 hy;have:=qd5.1 h.nd p q hp hq hpq;rw[hx,hy]at this;exact this
 rcases Nat.lt_trichotomy n m with h1|h1|h1
 .exact absurd he (key h1 hn hm)
 .rw[h1,hm]at hn;exact(qag hn).symm
 .exact absurd he.symm (key h1 hm hn)
theorem in_G{G:List Gq}{ls:List As}(h:ls.map DQ=Je (G.map II)){x:As}(hx:x∈ls):∃g∈G,II g=DQ x:=by
 have h1:DQ x∈Je (G.map II):=by rw[<-h];exact qa4 (f:=DQ) hx
 obtain⟨g,hg,he⟩:=qah.1 (qc7 h1);exact⟨g,hg,he⟩
theorem N1{g:Gq}{x:As}(h:II g=DQ x):x.c=7/\x.n=g.1/\x.ask=g.2.1/\x.rep=g.2.2:=by
 unfold II DQ at h;simp only[qc3]at h;exact⟨h.1.symm,h.2.1.symm,h.2.2.1.symm,h.2.2.2.symm⟩
theorem W8{G:List Gq}{i:Nat}{ls ls':List As}{s s':Ld}{raw r:List UInt8}(hG:GOk i G)(hls:ls.map DQ=Je (G.map II))(h:HV s ls raw s' ls' r)(hi:DZ raw=true)(hc:gaC raw=7)(hn:gaN raw=i) :
  ∃p,CN s (Ig raw) s' p/\r=Kg 7 i p.e p.n/\ls'.map DQ=Je ((G++[(i,raw,r)]).map II):=by
 have hf:FR ls (gaC raw,gaN raw)=none:=Alk fun x hx he=>by
  obtain⟨g,hg,hgx⟩:=in_G hls hx;obtain⟨h1,h2,-,-⟩:=N1 hgx;have h3:=hG.lt g hg;unfold Dg at he;rw[qc3]at he;omega
 obtain⟨p,y,hs,hr,h1,h2,h3,h4,rfl⟩:=Tq h hi hf;rw[hc,hn]at hr;refine⟨p,hs,hr,?_⟩;rw[Acn,hls,Yf,qav];rw[show DQ y=II (i,raw,r)from by unfold DQ II;rw[h1,h2,h3,h4,hc,hn]];rfl
theorem All{α:Type}{L:List α}{j:Nat}{x:α}(h:L[j]?=some x)(hj:L.length<=j+32):x∈Je L:=by
 unfold Je;refine qac (i:=j - (L.length - 32)) ?_;rw[qct,show L.length - 32+(j - (L.length - 32))=j from by omega];exact h
theorem Ail{G:List Gq}{i j:Nat}{g:Gq}{ls ls':List As}{s s':Ld}{r:List UInt8}(hG:GOk i G)(hls:ls.map DQ=Je (G.map II))(hg:G[j]?=some g)(h:HV s ls g.2.1 s' ls' r)(hj:G.length<=j+32:=by omega):s'=s/\ls'=ls/\r=g.2.2:=by
 have hgm:=qac hg;obtain⟨a1,a2,a3,-⟩:=hG.ask g hgm
 have h1:II g∈ls.map DQ:=by
  rw[hls];exact All (j:=j) (by rw[qa1,hg];rfl) (by rw[qal];exact hj)
 obtain⟨x,hx,hxg⟩:=qah.1 h1;obtain⟨x1,x2,-,-⟩:=N1 hxg.symm;obtain⟨y,hf,hy⟩:=Ol hx;have hk:=(N0 hf).2;rw[show Dg x=(gaC g.2.1,gaN g.2.1)from by unfold Dg;rw[x1,x2,a2,a3]]at hf hk;obtain⟨g',hg',hgy⟩:=in_G hls hy;obtain⟨y1,y2,y3,y4⟩:=N1 hgy;unfold Dg at hk;rw[qc3]at hk;obtain rfl:g'=g:=hG.one hg' hgm (by rw[<-y2,hk.2,a3]);obtain⟨e1,e2,e3⟩:=Om h a1 hf;rw[if_pos y3]at e3;exact⟨e1,e2,e3.trans y4⟩
theorem Z6{G:List Gq}{i:Nat}{ls:List As}(hG:GOk i G)(hls:ls.map DQ=Je (G.map II)):ls.map (fun x=>DQ (U7 ls x))=Je (G.map II):=by
 rw[<-hls];refine qbo fun x hx=>?_;obtain⟨y,hf,hy⟩:=Ol hx;have hk:=(N0 hf).2;have hfy:U7 ls x=y:=by unfold U7;rw[hf];rfl
 rw[hfy];obtain⟨g,hg,hgx⟩:=in_G hls hx;obtain⟨g',hg',hgy⟩:=in_G hls hy;obtain⟨x1,x2,-,-⟩:=N1 hgx;obtain⟨y1,y2,-,-⟩:=N1 hgy;unfold Dg at hk;rw[qc3]at hk;rw[<-hgx,<-hgy,hG.one hg' hg (by rw[<-y2,hk.2,x2])]
abbrev UA:=Option Addr × Nat × Nat
abbrev Oo(x:UA):List Value:=[.slice x.1 x.2.1 x.2.2]
structure ByL(BB:List (Nat × Obj))(xs:List UA)(L:List (List UInt8)):Prop where
 len:xs.length=L.length
 k:∀(i:Nat) (x:UA) (l:List UInt8),xs[i]?=some x->L[i]?=some l->x.2.1=l.length/\BIn BB x.1 x.2.2 l
theorem ByL.nil{BB:List (Nat × Obj)}:ByL BB [] []:=⟨rfl,fun i x l h=>by cases h⟩
theorem ByL.snoc{BB BB':List (Nat × Obj)}{xs:List UA}{L:List (List UInt8)}{a:Option Addr}{c:Nat}{l:List UInt8}(h:ByL BB xs L)(hs:∀x∈BB,x∈BB')(hb:BIn BB' a c l):ByL BB' (xs++[(a,l.length,c)]) (L++[l]):=by
 refine⟨by rw[qat,qat,h.len];rfl,fun i y q hy hq=>?_⟩;have hl:=h.len
 by_cases hi:i<xs.length
 .rw[qcb hi]at hy;rw[qcb (by omega)]at hq;exact⟨(h.k i y q hy hq).1,(h.k i y q hy hq).2.mono hs⟩
 .have hi2:i<(xs++[(a,l.length,c)]).length:=(qa8.1 hy).1;rw[qat,qb9]at hi2;obtain rfl:i=xs.length:=by omega
  rw[qbv (qam _),qeb]at hy;rw[hl,qbv (qam _),qeb]at hq;obtain rfl:=qag hy;obtain rfl:=qag hq;exact⟨rfl,hb⟩
theorem W9(c n:Nat)(k:Ak)(w:World)(hin:AkIn k)(hc:c<4294967296:=by decide)(hn:n<18446744073709551616:=by omega):
  Ret prog 15 #[.int .u32 (c:Int),.int .u64 (n:Int),.agg (BQ k).toArray] w fun v w'=>∃code a m full l,v=.tuple #[.slice a (List.length l) m,.int .i64 code]/\OS a l.length m 1 full (l.map bv)/\Ctx w [] w' (ent a 5 full)/\((code=1/\l=[])\/(code=0/\l=EK c n k/\MayP k)):=by
 by_cases h:NoB k
 .refine Ret.mono (Yc c n k w h) ?_;rintro v w' ⟨rfl,hx⟩;exact⟨1,none,0,[],[],rfl,OS.nil,(Ctx.start w []).call hx,.inl ⟨rfl,rfl⟩⟩
 .have hp:=Ali hin h;refine Ret.mono (Rm c n k w hc hn hp) ?_;rintro v w' ⟨s,rfl,F⟩;obtain⟨a,m,full,rfl,O,H⟩:=GK F;exact⟨0,a,m,full,EK c n k,rfl,O,H,.inr ⟨rfl,rfl,hp⟩⟩
structure OnZ where
 i:Nat
 G:List Gq
 xw:List UA
 xp:List UA
 aW:Option Addr
 cW:Nat
 fW:List Value
 aP:Option Addr
 cP:Nat
 fP:List Value
 s:Ld
 T:Nat->Prop
 ls1:List As
 ls2:List As
 BB:List (Nat × Obj)
 q1:DkQ
 q2:DkQ
structure OnI(k1 l1 k2 l2:Nat)(w0 w:World)(t:OnZ):Prop where
 K:Dk2 k1 l1 k2 l2 w0 w (ent t.aW 48 t.fW++(ent t.aP 48 t.fP++t.BB)) t.s t.s t.T t.ls1 t.ls2 t.q1 t.q2
 OW:OS t.aW t.G.length t.cW 1 t.fW (t.xw.flatMap Oo)
 OP:OS t.aP t.G.length t.cP 1 t.fP (t.xp.flatMap Oo)
 TW:∀x∈ent t.aW 48 t.fW,t.T x.1
 TP:∀x∈ent t.aP 48 t.fP,t.T x.1
 LW:ByL t.BB t.xw (t.G.map fun g=>g.2.1)
 LP:ByL t.BB t.xp (t.G.map fun g=>g.2.2)
 hG:GOk t.i t.G
 h1:t.ls1.map DQ=Je (t.G.map II)
 h2:t.ls2.map DQ=Je (t.G.map II)
structure InZ where
 k:Nat
 T:Nat->Prop
 q1:DkQ
theorem perm4{X Y U V Z:List (Nat × Obj)}:(X++(Y++(U++(V++Z)))).Perm (U++(V++(X++(Y++Z)))):=by
 refine List.Perm.trans (qbs X (qbp Y U (V++Z))) (List.Perm.trans (qbp X U _) (qbs U ?_));refine List.Perm.trans (qbs X (qbp Y V Z)) ?_;exact qbp X V _
theorem WA(a:Option Addr)(c:Nat)(ks:List Ak)(ag:Option Addr)(cg:Nat)(gs:List UA)(w:World)(R:Rd w a 7 BQ ks)(hin:∀k∈ks,AkIn k)(Rg:Rd w ag 1 Oo gs)(hg:∀g∈gs,∃l:List UInt8,g.2.1=l.length/\Rd w g.1 1 B8 l) :
  Ret prog 4 #[.slice a ks.length c,.slice ag gs.length cg] w fun v w'=>v=.bool true/\Ext [] w w':=by
 obtain⟨w0,rfl,H⟩:=qE w;refine Au (fn:=Tryz.f4) func4 U [.slice a ks.length c,.slice ag gs.length cg] U ?_;refine Ae (Ai U (qA (Ax (Ae (Ci (α:=Unit) 267386880 (fun _=>[(27,.bool (decide (60<(ks.length:Int)\/60<(gs.length:Int))))]) (fun _ w'=>Ctx w0 [] w' []) U ?_ ?_)))))
 .refine Ap U (Be Aed U (C8 U U (A2 U (AR 23 U ?_ ?_))))
  .intro h1;replace h1:=AM h1;refine Ag U (Ag U (Ag U (AA U (.bool _) U (Ab ?_))));exact⟨rfl,(),rfl,⟨qaa Value.bool (by rw[qad];simp_all;try omega),trivial⟩,H⟩
  .intro h2;replace h2:=AN h2;refine Ap U (Be IX U (C8 U U (AJ U (.bool _) U (Ab ?_))));exact⟨rfl,(),rfl,⟨qaa Value.bool (by rw[qad];simp_all;try omega),trivial⟩,H⟩
 rintro - j27 w H;refine Aw _ U ?_ ?_
 .intro h1;refine Ae (Al qB (Ro _) U ?_);rintro v w ⟨rfl,hx28⟩;replace H:=H.call hx28;refine Ai U (qA (A5 (Av (AB (v:=(.bool _)) U U U ?_))));exact⟨rfl,H.ext⟩
 .intro h1;have h1:=qbn h1;have hks:ks.length<=60:=by omega
  have hgs:gs.length<=60:=by omega
  replace R:=R.ext0 H.ext;replace Rg:=Rg.ext0 H.ext
  replace hg:∀g∈gs,∃l:List UInt8,g.2.1=l.length/\Rd w g.1 1 B8 l:=fun g h=>by
   obtain⟨l,h2,h3⟩:=hg g h;exact⟨l,h2,h3.ext0 H.ext⟩
  have hE0:=H.ext;clear H h1;obtain⟨w9,rfl⟩:=qD w;refine Ay (Aa (Ae (Al qB (Rl _) U ?_)));rintro v w ⟨k1,l1,m1,T1,rfl,K1⟩;refine Cn U (qA (Ae (Al qB (Alh K1) U ?_)));rintro v w ⟨k2,l2,T,q1,q2,rfl,K⟩;clear K1;refine Cn U (qA (Ae (Am U (Am U (qA (Ax (Ae (Ad U (qA ?_)))))))));refine A1 (Bw 170141183460469231731687303713737670544 (α:=OnZ) (fun t=>[(9,.int .i64 (t.i:Int)),(7,.slice t.aW t.G.length t.cW),(8,.slice t.aP t.G.length t.cP)]) (fun t w'=>t.i<=ks.length/\OnI k1 l1 k2 l2 w9 w' t) (fun t=>ks.length - t.i) ⟨0,[],[],[],none,0,[],none,0,[],s00,T,[],[],[],q1,q2⟩ U ?_ ?_ ?_)
  .exact⟨rfl,rfl,rfl,trivial⟩
  .exact⟨qaq _,K,OS.nil,OS.nil,(fun x hx=>by cases hx),(fun x hx=>by cases hx),ByL.nil,ByL.nil,⟨qam _,(fun g hg=>by cases hg),List.Pairwise.nil,fun g hg=>by cases hg⟩,rfl,rfl⟩
  .clear K;rintro⟨i,G,xw,xp,aW,cW,fW,aP,cP,fP,s,T,ls1,ls2,BB,q1,q2⟩ j w ⟨hi,⟨K,OW,OP,TW,TP,LW,LP,hG,h1,h2⟩⟩;dsimp only at hi K OW OP TW TP LW LP hG h1 h2;dsimp only;obtain⟨w1,rfl,H⟩:=qE w;refine Ax (Ae (Af U (Ap U (Be Aed U (Bm U U (qA (Aw _ U ?_ ?_)))))))
   .intro h3;replace h3:=AM h3;obtain⟨k,hk⟩:=AE (l:=ks) (i:=i);have hkin:=hin k (qac hk);refine Ay (Aa (Ax (A1 (Ae (Af U (D5 U Ho Dc ?_))))));refine Ap U (Af U (Bg (R.ext0 K.ext) Aed FP U U (by rfl) ?_));refine C9 _ Kn FP U U (((R.ext0 K.ext).row hk U)) (Al qB (W9 7 i k _ hkin) U ?_);rintro v w ⟨code,a10,c10,f10,raw,rfl,O10,H10,hcase⟩
    replace K:=K.next H10
    clear H10 H;obtain⟨w2,rfl,H⟩:=qE w;refine Cr U (AH U U (AH U U (Am U (Ad U (qA (Ae (Ap U ?_)))))));have R10:Rd _ a10 1 B8 raw:=OS.rdB O10 (fun x hx=>K.own x (qao _ hx));refine Al qB (Ye a10 c10 raw _ R10) U ?_;rintro v w ⟨x1,x2,kq,rfl,hx49⟩;replace H:=H.call hx49;refine Cr U (AH U U (AH U U (AH U U (AH U U (Bc IZ H ?_)))));rintro b14 w - H;refine Ad U (Ad U (Bn FP U U U (by exact(by simp[AY])) H at0 U ?_));rintro w H;refine Ad U (qA (Ax (Ae (Ci (α:=Unit) 1134907106097364992 (fun _=>[(59,.bool (!(decide (code=0) && decide (gaE raw=0))))]) (fun _ w'=>Ctx w2 [] w' [(b14,Bl 25 (BQ kq))]) U ?_ ?_))))
    .refine Af U (CK U U (A2 U (AR 56 U ?_ ?_)))
     .intro h3;replace h3:=CY h3;refine Ag U (Ag U (AA U (.bool _) U (Ab ?_)));exact⟨rfl,(),rfl,⟨qaa Value.bool (by(rw[qad];simp;try omega)),trivial⟩,H⟩
     .intro h4;replace h4:=CZ h4;refine Af U (CK U U (AJ U (.bool _) U (Ab ?_)));exact⟨rfl,(),rfl,⟨qaa Value.bool (by(rw[qad];simp;try omega)),trivial⟩,H⟩
    rintro - j59 w H;refine Aw _ U ?_ ?_
    .intro h4;replace h4:=BM h4;refine Bt (An (AK (Aa (A0 (Af U (Az U U ?_))))));refine Ad U (qA ?_);exact⟨⟨i+1,G,xw,xp,aW,cW,fW,aP,cP,fP,s,T,ls1,ls2,BB,q1,q2⟩,rfl,⟨rfl,rfl,rfl,trivial⟩,⟨by dsimp only;omega,⟨((K.next H).drop).drop,OW,OP,TW,TP,LW,LP,hG.succ,h1,h2⟩⟩,by dsimp only;omega⟩
    .intro h4;replace h4:=BN h4;replace K:=(K.next H).drop;clear H;have h4':code=0/\gaE raw=0:=by simpa using h4
     obtain⟨rfl,hraw,hmp⟩:code=0/\raw=EK 7 i k/\MayP k:=by
      rcases hcase with⟨g1,-⟩|g
      .omega
      .exact g
     have hask:DZ raw=true:=by
      cases h:DZ raw with
      |true=>rfl
      |false=>have:=U6 h;omega
     obtain⟨-,hc7,hni,-⟩:=U8 (c:=7) (n:=i) (k:=k) (hn:=by omega) (Alj hmp (by rw[<-hraw];exact hask));rw[<-hraw]at hc7 hni;have hrl:raw.length<=1000:=by rw[hraw,Nv];decide
     clear hraw hmp hcase h4 h4';obtain⟨w3,rfl,H⟩:=qE w;refine Ay (Aa (Ae (A4 U (Ap U ?_))));have B1:BIn (ent a10 5 f10++(ent aW 48 fW++(ent aP 48 fP++BB))) a10 c10 raw:=⟨f10,O10,fun x hx=>qao _ hx⟩;refine Al qB (Yb K B1 hrl) U ?_;rintro v w ⟨r,a16,c16,f16,s2,T2,ls1',q1',rfl,O16,S1,K,g1⟩;obtain⟨p1,L1,hr1,h1'⟩:=W8 hG h1 S1 hask hc7 hni;refine Am U (qA (Ae (A4 U (Ap U ?_))));have B2:BIn (ent a16 5 f16++(ent a10 5 f10++(ent aW 48 fW++(ent aP 48 fP++BB)))) a10 c10 raw:=B1.mono (fun x hx=>qaf _ hx);refine Al qB (Yb K.swap B2 hrl) U ?_;rintro v w ⟨r2,a17,c17,f17,s3,T3,ls2',q2',rfl,O17,S2,K,g2⟩;obtain⟨p2,L2,hr2,h2'⟩:=W8 hG h2 S2 hask hc7 hni;obtain⟨e1,e2⟩:=Aik L1 L2;subst e1 e2;obtain rfl:r=r2:=hr1.trans hr2.symm
     have R16:Rd w a16 1 B8 r:=OS.rdB O16 (fun x hx=>K.own x (qaf _ (qao _ hx)));have R17:Rd w a17 1 B8 r:=OS.rdB O17 (fun x hx=>K.own x (qao _ hx));clear H;obtain⟨w4,rfl,H⟩:=qE w;refine Am U (qA (Ax (Ae (Ap U (JJ (l:=r) De Hr NO U (R16.ext0 H.ext) ?_)))));refine Ap U (JJ (l:=r) De Hr NO U (R17.ext0 H.ext) ?_);refine UQ (l:=r) (m:=r) U U U ?_;rw[show decide (r=r)=true from qan rfl];refine qA (Aw _ U ?_ ?_)
     .intro h5;cases h5
     .intro h5
      have hrp:r.length<=1000:=by
       have:=(Rj L1).2;rw[hr1,Nw];omega
      have hG':=hG.snoc hask hc7 hni hrl hrp;clear hr1 hr2 S1 S2 L1 L2 R16 R17 B1 B2 h1 h2;replace K:=(K.drop).swap.permE perm4;have TW2:∀x∈ent aW 48 fW,T3 x.1:=fun x hx=>g2.1 _ (g1.1 _ (TW x hx));have TP2:∀x∈ent aP 48 fP,T3 x.1:=fun x hx=>g2.1 _ (g1.1 _ (TP x hx));clear H;have H:=K.lend;refine Ay (Aa (Ae (Ap U (Ap U (Ef [.slice a10 raw.length c10] IX LU YF H ?_)))));rintro b73 w - H;refine Cy (L:=[]) IX IX LU Al1 YF U U U H OW U (by simp[AY]) (hbound:=by have:=hG.len;omega) ?_;rintro aW' cW' fW' w H OW';replace K:=(K.turnE TW2 H).permE (qbp _ _ _);clear H;obtain⟨w5,rfl⟩:=qD w;have H:=K.lend;refine Am U (qA (Ae (Ap U (Ap U (Ef [.slice a16 r.length c16] IX LU YF H ?_)))));rintro b77 w - H
      refine Cy (L:=[]) IX IX LU Al1 YF U U U H OP U (by simp[AY]) (hbound:=by have:=hG.len;omega) ?_;rintro aP' cP' fP' w H OP';replace K:=(K.turnE (fun x hx => .inl (TP2 x hx)) H).permE (qbp _ _ _);clear H;obtain⟨w6,rfl,H⟩:=qE w;refine Am U (qA (Ae (Ad U (qA (A1 ?_)))))
      replace OW':OS aW' (G.length+1) cW' 1 fW' ((xw++[(a10,raw.length,c10)]).flatMap Oo):=by
       rw[qbt,qeq];exact OW'
      replace OP':OS aP' (G.length+1) cP' 1 fP' ((xp++[(a16,r.length,c16)]).flatMap Oo):=by
       rw[qbt,qeq];exact OP'
      obtain⟨BC,hBC⟩:=qD (ent a16 5 f16++(ent a10 5 f10++BB))
      have LW':ByL BC (xw++[(a10,raw.length,c10)]) ((G++[(i,raw,r)]).map fun g=>g.2.1):=by
       rw[qav];exact LW.snoc (fun x hx=>by rw[hBC];exact qaf _ (qaf _ hx)) ⟨f10,O10,fun x hx=>by rw[hBC];exact qaf _ (qao _ hx)⟩
      have LP':ByL BC (xp++[(a16,r.length,c16)]) ((G++[(i,raw,r)]).map fun g=>g.2.2):=by
       rw[qav];exact LP.snoc (fun x hx=>by rw[hBC];exact qaf _ (qaf _ hx)) ⟨f16,O16,fun x hx=>by rw[hBC];exact qao _ hx⟩
      rw[<-hBC]at K
      obtain⟨T6,K,TW6,TP6⟩:∃T6:Nat->Prop,Dk2 k1 l1 k2 l2 w9 w6 (ent aW' 48 fW'++(ent aP' 48 fP'++BC)) s2 s2 T6 ls1' ls2' q1' q2'/\(∀x∈ent aW' 48 fW',T6 x.1)/\(∀x∈ent aP' 48 fP',T6 x.1) :=
       ⟨_,K,fun x hx => .inl (.inr (qa4 (f:=fun x:Nat × Obj=>x.1) hx)),fun x hx => .inr (qa4 (f:=fun x:Nat × Obj=>x.1) hx)⟩
      have hlen':=hG'.len;rw[qat,qb9]at hlen';clear H TW2 TP2 OW OP LW LP hG;have hl1:(G++[(i,raw,r)]).length=G.length+1:=qat ..;refine Bw 170141183460468627268777496401297539088 (α:=InZ) (fun z=>[(18,.int .i64 (z.k:Int))]) (fun z w'=>z.k<=3/\Dk2 k1 l1 k2 l2 w9 w' (ent aW' 48 fW'++(ent aP' 48 fP'++BC)) s2 s2 z.T ls1' ls2' z.q1 q2'/\(∀x∈ent aW' 48 fW',z.T x.1)/\(∀x∈ent aP' 48 fP',z.T x.1)) (fun z=>3 - z.k) ⟨0,T6,q1'⟩ U ?_ ?_ ?_
      .exact⟨rfl,trivial⟩
      .exact⟨qaq _,K,TW6,TP6⟩
      .clear K TW6 TP6;rintro⟨kk,T7,q7⟩ j2 w ⟨hkk,K,TW,TP⟩;dsimp only at hkk K TW TP;dsimp only;obtain⟨w7,rfl,H⟩:=qE w
       obtain⟨g,hgi⟩:∃g:UA,i<gs.length->gs[i]?=some g:=by
        by_cases h:i<gs.length
        .obtain⟨g,h2⟩:=AE (h:=h);exact⟨g,fun _=>h2⟩
        .exact⟨(none,0,0),fun h2=>absurd h2 h⟩
       have RG:=Rg.ext0 K.ext;refine Ax (Ae (Ci (α:=Unit) 79227558051354530278956597248 (fun _=>[(95,.bool (((decide ((i:Int)<(gs.length:Int)) && decide ((kk:Int)<(g.2.1:Int))) && decide ((kk:Int)<3))))]) (fun _ w'=>Ctx w7 [] w' []) U ?_ ?_))
       .refine Af U (Ap U (Be IX U (Bm U U (A2 U (AR 83 U ?_ ?_)))))
        .intro h5;replace h5:=AM h5;refine Af U (Ap U (Af U (Bg (RG.ext0 H.ext) IX LU U U (by rfl) ?_)));refine Bb Js U (((RG.ext0 H.ext).fld (hgi (by omega)) U (j:=0) U)) ?_;refine Be De U (Bm U U (AA U (.bool _) U (A2 U (AR 92 U ?_ ?_))))
         .intro h6;replace h6:=AM h6;refine Af U (Bm U U (AA U (.bool _) U (Ab ?_)));exact⟨rfl,(),rfl,⟨qaa Value.bool (by(rw[qad];simp only[qae,qar];omega)),trivial⟩,H⟩
         .intro h7;replace h7:=AN h7;refine Ag U (Ag U (AJ U (.bool _) U (Ab ?_)));exact⟨rfl,(),rfl,⟨qaa Value.bool (by(rw[qad];simp only[qae,qar,qbk,false_iff];omega)),trivial⟩,H⟩
        .intro h8;replace h8:=AN h8;refine Ag U (Ag U (Ag U (Ag U (Ag U (Ag U (Ag U (AJ U (.bool _) U (A2 U (Ag U ?_)))))))));refine Ag U (AJ U (.bool _) U (Ab ?_));exact⟨rfl,(),rfl,⟨qaa Value.bool (by(rw[qad];simp only[qae,qar,qbk,false_iff];omega)),trivial⟩,H⟩
       rintro - j95 w H;refine Aw _ U ?_ ?_
       .intro h6
        have h6':(i<gs.length/\kk<g.2.1)/\kk<3:=by
         simp at h6;omega
        obtain⟨lb,hlb,Rb⟩:=hg g (qac (hgi h6'.1.1));obtain⟨b,hb⟩:=AE (l:=lb) (i:=kk);have hgj:=hgi h6'.1.1;have hbt:=b.toNat_lt;replace K:=K.call H.ext;replace Rb:=Rb.ext0 K.ext;replace RG:=Rg.ext0 K.ext;clear H;obtain⟨w8,rfl,H⟩:=qE w;have ht0:0<=(b.toNat:Int).tmod (min 20 ((G.length+1:Nat):Int)):=Int.tmod_nonneg _ (by omega);have ht1:(b.toNat:Int).tmod (min 20 ((G.length+1:Nat):Int))<min 20 ((G.length+1:Nat):Int):=Int.tmod_lt_of_pos _ (by omega)
        obtain⟨jj,hjj,hj1,hj2⟩:∃jj:Nat,((G.length+1:Nat):Int) - 1 - (b.toNat:Int).tmod (min 20 ((G.length+1:Nat):Int))=jj/\jj<G.length+1/\G.length+1<=jj+20 :=
         ⟨(((G.length+1:Nat):Int) - 1 - (b.toNat:Int).tmod (min 20 ((G.length+1:Nat):Int))).toNat,by omega,by omega,by omega⟩
        refine Ay (Aa (Ax (A1 (Ae (Ap U (Be IX U (Bo U U ?_)))))));refine Ap U (Af U (Bg (RG.ext0 H.ext) IX LU U U (by rfl) ?_));refine Bb Js U (((RG.ext0 H.ext).fld hgj U (j:=0) U)) (Af U (Bg (Rb.ext0 H.ext) De IK U U (by omega) ?_));refine Bb Kv U (((Rb.ext0 H.ext).one (f:=bv) hb)) (Di U Hr Ho ?_);refine Ap U (Be IX U (Yn U U U ?_));refine Yq U U U (by omega) (Bo U U ?_);rw[hjj];refine Ad U (qA ?_);obtain⟨gj,hgG⟩:=AE (l:=G++[(i,raw,r)]) (i:=jj);obtain⟨⟨ax,nx,cx⟩,hxw⟩:=AE (l:=xw++[(a10,raw.length,c10)]) (i:=jj) (h:=by rw[LW'.len,qal];omega);obtain⟨⟨ay,ny,cy⟩,hxp⟩:=AE (l:=xp++[(a16,r.length,c16)]) (i:=jj) (h:=by rw[LP'.len,qal];omega)
        obtain⟨hnx,Bx⟩:=LW'.k jj _ gj.2.1 hxw (by rw[qa1,hgG];rfl);obtain⟨hny,By⟩:=LP'.k jj _ gj.2.2 hxp (by rw[qa1,hgG];rfl);dsimp only at hnx hny;subst hnx hny;have RW:Rd w8 aW' 1 Oo (xw++[(a10,raw.length,c10)]):=OS.rd (t:=48) OW' (fun x hx=>K.own x (qao _ hx)) (fun _ _=>rfl) (by decide);have RP:Rd w8 aP' 1 Oo (xp++[(a16,r.length,c16)]):=OS.rd (t:=48) OP' (fun x hx=>K.own x (qaf _ (qao _ hx))) (fun _ _=>rfl) (by decide);have RY:Rd w8 ay 1 B8 gj.2.2:=(By.rd fun x hx=>K.own x (qaf _ (qaf _ hx))).1;have hxl:(xw++[(a10,raw.length,c10)]).length=G.length+1:=by rw[LW'.len,qal,hl1]
        have hpl:(xp++[(a16,r.length,c16)]).length=G.length+1:=by rw[LP'.len,qal,hl1]
        have hgl:=(hG'.ask gj (qac hgG)).2.2.2.1;refine Ck [([0,1,2,3,4,7,8,9,10,11],5),([],6),([],12)] (fun z=>(Rd z aW' 1 Oo (xw++[(a10,raw.length,c10)])/\Rd z aP' 1 Oo (xp++[(a16,r.length,c16)])/\Rd z ay 1 B8 gj.2.2)) [] Br (⟨RW.ext0 H.drew.ext,RP.ext0 H.drew.ext,RY.ext0 H.drew.ext⟩) ?_;refine AD U U (BG U (B3 U (Bj U (DL RW IX LU U U ?_))));refine B0 Js U (fun _ hx=>(hx.1.fld hxw rfl (j:=0) rfl)) (B3 U (Bj U (DL RP IX LU U U ?_)));refine B0 Js U (fun _ hx=>(hx.2.1.fld hxp rfl (j:=0) rfl)) (Am2 (l:=gj.2.2) U De Hr NO U (fun _ hx=>hx.2.2) ?_);refine AU ?_;replace H:=H.drew;refine Al qB (Yb (K.call H.ext) (Bx.mono fun x hx=>qaf _ (qaf _ hx)) hgl) U ?_;rintro v w ⟨r9,a9,c9,f9,s9,T9,ls9,q9,rfl,O9,S9,K9,g9⟩
        obtain⟨e1,e2,hr9⟩:=Ail hG' h1' hgG S9;subst e1 e2;have R9:Rd w a9 1 B8 r9:=OS.rdB O9 (fun x hx=>K9.own x (qao _ hx));replace K:=K9.drop;clear K9;have RW9:Rd w aW' 1 Oo (xw++[(a10,raw.length,c10)]):=OS.rd (t:=48) OW' (fun x hx=>K.own x (qao _ hx)) (fun _ _=>rfl) (by decide);have RP9:Rd w aP' 1 Oo (xp++[(a16,r.length,c16)]):=OS.rd (t:=48) OP' (fun x hx=>K.own x (qaf _ (qao _ hx))) (fun _ _=>rfl) (by decide);have RY9:Rd w ay 1 B8 gj.2.2:=(By.rd fun x hx=>K.own x (qaf _ (qaf _ hx))).1;clear H;obtain⟨w10,rfl,H⟩:=qE w;refine Ab (BH (⟨RW9,RP9,RY9⟩) (AD U U ?_));refine AU (JJ (l:=r9) De Hr NO U (R9.ext0 H.ext) ?_);refine Ab (BH (⟨RW9.ext0 H.ext,RP9.ext0 H.ext,RY9.ext0 H.ext⟩) (AD U U ?_));refine AU (UQ (l:=r9) (m:=gj.2.2) U U U ?_)
        rw[show decide (r9=gj.2.2)=true from qan hr9];refine Ab (BH (⟨RW9.ext0 H.ext,RP9.ext0 H.ext,RY9.ext0 H.ext⟩) (BF (Aw _ U ?_ ?_)))
        .intro h7;cases h7
        .intro h7;refine Ay (A8 (Aa (A0 (Af U (Az U U ?_)))));refine Ad U (qA ?_);exact⟨⟨kk+1,T9,q9⟩,rfl,⟨rfl,trivial⟩,⟨by dsimp only;omega,K.call H.ext,fun x hx=>g9.1 _ (TW x hx),fun x hx=>g9.1 _ (TP x hx)⟩,by dsimp only;omega⟩
       .intro h6;refine Bt (An (An (AK (A8 (Aa (A0 (Af U (Az U U ?_))))))));refine Ad U (qA ?_);exact⟨⟨i+1,G++[(i,raw,r)],xw++[(a10,raw.length,c10)],xp++[(a16,r.length,c16)],aW',cW',fW',aP',cP',fP',s2,T7,ls1',ls2',BC,q7,q2'⟩,rfl,⟨rfl,qaa (fun n=>Value.slice aW' n cW') hl1.symm,qaa (fun n=>Value.slice aP' n cP') hl1.symm,trivial⟩,⟨by dsimp only;omega,⟨K.call H.ext,by dsimp only;rw[hl1];exact OW',by dsimp only;rw[hl1];exact OP',TW,TP,LW',LP',hG',h1',h2'⟩⟩,by dsimp only;omega⟩
   .intro h3;replace h3:=AN h3;have hok:=K.f1.I.ok;have hfew:=K.f1.few;refine Bt (An (An (AK (Aa (Ae (A4 U (Al qB (Ts (K.call H.ext)) U ?_)))))));rintro v w ⟨hx128,z1,a1,n1,c1,rfl,Z1,ys1,rfl,hy1,RY1,XY1⟩;replace H:=H.call hx128;refine A4 U (Al qB (Ts (K.swap.call H.ext)) U ?_);rintro v w ⟨hx130,z2,a2,n2,c2,rfl,Z2,ys2,rfl,hy2,RY2,XY2⟩;replace H:=H.call hx130;have hyl:ys1.length<=1000:=by(have h:=qaa List.length hy1;rw[qal,qal]at h;omega)
    refine Al qB (Acm a1 a2 c1 c2 ys1 ys2 _ hok (Z1.ext0 hx130) Z2 ((hy1.trans (Z6 hG h1)).trans (hy2.trans (Z6 hG h2)).symm) hyl (RY1.ext0 hx130) RY2 (fun y hy=>(XY1 y hy).ext0 hx130) XY2) U ?_;rintro v w ⟨rfl,hx131⟩;replace H:=H.call hx131;refine A2 U (Al qB (Ro _) U ?_);rintro v w ⟨rfl,hx133⟩;replace H:=H.call hx133;refine AA U (.bool _) U (Ai U (qA (A5 (AB (v:=(.bool _)) U U U ?_))));exact⟨rfl,(hE0.trans K.ext).trans H.ext⟩
open Go.GV Go.Proofs.Tryz Go.ChangeShapes Go.WideShapes
theorem own:ownKnob Tryz.prog.godebug=none:=by kernel_rfl
theorem Alm:laidOutB prog=true:=by kernel_rfl
section
variable {H:Type}{enc:TypeId × Value->H}{w:World}{base:Nat}{spare:Nat->Bool}{held:Bool}
def DuT(d:Du):Prop:=(0<=d.id/\d.id<18446744073709551616)/\I64 d.fr/\I64 d.to/\I64 d.am/\I64 d.we/\I64 d.un
def EdT(e:Ed):Prop:=I64 e.f/\I64 e.t/\I64 e.cap/\I64 e.cost
structure RT(r:Rnd):Prop where
 no:0<=r.no/\r.no<18446744073709551616
 day:I64 r.day
 ids:∀x∈r.ids,0<=x/\x<18446744073709551616
 N:I64 r.N
 es:∀e∈r.es,EdT e
 fl:∀x∈r.fl,I64 x
 pot:∀x∈r.pot,I64 x
theorem Aim:∀n cs y,DataW.trod enc prog w base spare held n 5 cs=some y->∃b:UInt8,cs=B8 b/\True:=by
 intro n cs y h;obtain⟨d,rfl,h1,h2⟩:=Ai8 underlying5 n cs y h;have h1:(0:Int)<=d:=h1;have h2:d<=255:=h2;refine⟨UInt8.ofNat d.toNat,?_,trivial⟩;have:(UInt8.ofNat d.toNat).toNat=d.toNat:=by simp[UInt8.toNat_ofNat'];omega
 rw[B8,bv,this,qcx h1]
end
section
variable {H:Type}{enc:TypeId × Value->H}{w:World}{base:Nat}{spare:Nat->Bool}{held:Bool}
theorem Ain:∃fs,Tryz.prog.underlying 25=some (.struct fs)/\(List.range 7).map (fun i=>fs[i]?.map fun f=>(f.type,f.offset))=[some (5,0),some (3,1),some (3,2),some (2,3),some (2,4),some (2,5),some (23,6)]:=⟨_,underlying25,by kernel_rfl⟩
theorem Z7:Tryz.prog.cellsOf 25=7:=by kernel_rfl
theorem Arc:∀n cs y,DataW.trod enc prog w base spare held n 25 cs=some y->∃k:Ak,cs=BQ k/\AkIn k:=by
 intro n cs y h;obtain⟨fs,ht,hf⟩:=Ain;have hl:=Aaa ht h;rw[Z7]at hl;simp only[List.range,List.range.loop,qay,qcn,qdb,and_true]at hf;obtain⟨f0,f1,f2,f3,f4,f5,f6⟩:=hf;obtain⟨a,ha,a1,a2⟩:=JO ht h 0 0 f0 underlying5;obtain⟨b,hb,hb'⟩:=JO ht h 1 1 f1 underlying3;obtain⟨c,hc,hc'⟩:=JO ht h 2 2 f2 underlying3;obtain⟨d,hd,hd'⟩:=JO ht h 3 3 f3 underlying2;obtain⟨e,he,he'⟩:=JO ht h 4 4 f4 underlying2;obtain⟨f,hf,hf'⟩:=JO ht h 5 5 f5 underlying2;obtain⟨g,hg,g1,g2⟩:=JO ht h 6 6 f6 underlying23;refine⟨⟨a,b,c,d,e,f,g⟩,?_,⟨⟨a1,a2⟩,hb',hc',hd',he',hf',g1,g2⟩⟩
 match cs,hl with
 | [_,_,_,_,_,_,_],_ =>
  simp at ha hb hc hd he hf hg;simp[ha,hb,hc,hd,he,hf,hg]
set_option maxRecDepth 100000 in
theorem Aln{b:Nat}{v:Value}{d:DataW H}{ps:List MemPlace}(hv:Value.okWide prog w .any b 22 v)(h:DataW.Trod enc prog w base spare held 22 v d ps):∃a c l,v=.slice a l.length c/\Rd w a 7 BQ l/\∀x∈l,AkIn x:=by
 obtain⟨a,c,l,h1,h2,-,-,h3⟩:=Yx underlying22 Z7 Arc (okWide_slice underlying22 hv) h;exact⟨a,c,l,h1,h2,h3⟩
end
section
variable {H:Type}{enc:TypeId × Value->H}{w:World}{base:Nat}{spare:Nat->Bool}{held:Bool}
theorem Yg:Tryz.prog.cellsOf 5=1:=by kernel_rfl
theorem Alo:Tryz.prog.cellsOf 48=1:=by kernel_rfl
theorem Alp:∀n cs y,DataW.trod enc prog w base spare held n 48 cs=some y->∃g:UA,cs=Oo g/\∃l:List UInt8,g.2.1=l.length/\Rd w g.1 1 B8 l:=by
 intro n cs y h
 obtain⟨v,rfl⟩:∃v,cs=[v]:=by
  rcases Go.Deep.open_slice underlying48 h with⟨hc,_⟩|⟨a,len,cap,m,n,D,Pl,hc,_⟩
  .exact⟨_,hc⟩
  .exact⟨_,hc⟩
 obtain⟨a,c,l,rfl,R,-,-,-⟩:=Alw underlying48 Yg (by decide) Aim h;exact⟨(a,l.length,c),rfl,l,rfl,R⟩
set_option maxRecDepth 100000 in
theorem Ard{b:Nat}{v:Value}{d:DataW H}{ps:List MemPlace}(hv:Value.okWide prog w .any b 45 v)(h:DataW.Trod enc prog w base spare held 45 v d ps):∃a c l,v=.slice a l.length c/\Rd w a 1 Oo l/\∀g∈l,∃q:List UInt8,g.2.1=q.length/\Rd w g.1 1 B8 q:=by
 obtain⟨a,c,l,h1,h2,-,-,h3⟩:=Yx underlying45 Alo Alp (okWide_slice underlying45 hv) h;exact⟨a,c,l,h1,h2,h3⟩
end
open Go.GV Go.Proofs.Tryz Go.ChangeShapes Go.WideShapes Go.RowKit
set_option maxRecDepth 100000 in
theorem Pr(os:Os)(started:os.Started)(H:Type)(enc:TypeId × Value->H) :
  ReturnsInHanded {} checked os 4 .any (Rows.deskOnceSpec.pre6 enc prog Tryz.f4 Rows.deskOnceRow.domain false) (Rows.deskOnceSpec.post enc prog Tryz.f4 false true false false):=by
 refine returnsInHanded_of_change (C:=checked) own started (by kernel_rfl) func4
  (ChangeSpec.witness6 (enc:=enc) (C:=checked) false ⟨#[],#[.slice none 0 0,.slice none 0 0],[]⟩ 8 (by kernel_rfl) (by kernel_rfl) (by kernel_rfl) (by kernel_rfl)) ?_
 intro W base args ds gs before hval0 hW hcnd _;have hval:∀(j:Nat) t v,Tryz.f4.params[j]?=some t->args[j]?=some v->Value.okWide prog W .any base t v:=hval0;have hW':=hW;obtain⟨p,q,hA0,hV,rfl,hfz,hnd⟩:=hW;have hA:DataW.TrodAll enc prog W 0 (fun _=>true) true Tryz.f4.params.toList args.toList ds p:=hA0;rw[params4]at hA hval;obtain⟨v0,vs0,d0,ds0,p0,q0,hargs,rfl,rfl,h0,r0⟩:=trodAll_cons hA;obtain⟨v1,vs1,d1,ds1,p1,q1,rfl,rfl,rfl,h1,r1⟩:=trodAll_cons r0;obtain⟨rfl,rfl,rfl⟩:=trodAll_nil r1;obtain rfl:args=#[v0,v1]:=by cases args;simp_all
 obtain⟨a0,c0,l0,rfl,R0,H0⟩:=Aln (hval 0 _ v0 rfl rfl) h0;obtain⟨a1,c1,l1,rfl,R1,H1⟩:=Ard (hval 1 _ v1 rfl rfl) h1;refine(WA a0 c0 l0 a1 c1 l1 W R0 H0 R1 H1).calls.mono ?_;rintro e W' ⟨v,rfl,rfl,hx⟩;exact⟨_,rfl,Add Alm U U underlying4 (fun ds h=>match ds,h with | [_,_],_=>rfl) hW' hx⟩
theorem WB:jn1 prog 4 Tryz.f4 Rows.deskOnceSpec Rows.deskOnceRow=true:=by kernel_rfl
theorem WC:jn2 prog 4 Tryz.f4 Rows.deskOnceSpec Rows.deskOnceRow=true:=by kernel_rfl
theorem WD:jn3 prog 4 Tryz.f4 Rows.deskOnceSpec Rows.deskOnceRow=true:=by kernel_rfl
theorem WE:jn4 prog 4 Tryz.f4 Rows.deskOnceSpec Rows.deskOnceRow=true:=by kernel_rfl
theorem WF:jn5 prog 4 Tryz.f4 Rows.deskOnceSpec Rows.deskOnceRow=true:=by kernel_rfl
theorem WG:joinedFacts prog 4 Tryz.f4 Rows.deskOnceSpec Rows.deskOnceRow=true:=Aab WB WC WD WE WF
theorem deskOnce_holds:Rows.DeskOnceSaid :=
 OpenClaim.holds_of_wide 4 Tryz.f4 rfl rfl rfl rfl rfl rfl rfl ⟨rfl,rfl,rfl,rfl,rfl⟩ rfl rfl rfl rfl rfl (by kernel_rfl) func4 WG
  (qba (by kernel_rfl)) (by unfold Func.isWrapper;rw[if_neg (qbn (by kernel_rfl))];exact⟨rfl,rfl⟩)
  (fun os started H enc _=>Pr os started H enc)
#print axioms deskOnce_holds
end Go.Proofs.YtffclglpjlcojaaGreat
