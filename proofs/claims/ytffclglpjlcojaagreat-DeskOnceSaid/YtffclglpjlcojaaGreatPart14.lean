/- Part 14 of the proof. -/
import Derived.Test.YtffclglpjlcojaaGreatPart13
set_option maxRecDepth 20000
set_option maxHeartbeats 4000000
namespace Go.Proofs.YtffclglpjlcojaaGreat
open Go.GV Go.Proofs.Tryz
attribute [local irreducible] A7 W Wq Wt
def Ah6(w:World)(m:Lm)(s:Ld)(T:Nat->Prop)(k:Ak)(v:Value)(w':World):Prop :=
 ∃a n c full p s' m' T',v=.agg #[.int .i64 p.e,.slice a n c]/\OS a n c 1 full (p.n.map Eb)/\CN s k s' p/\Ctx w (Dy m s) w' (LL m' s'++ent a 2 full)/\LdIn w' m' s' T'/\Grows T T' w/\m'.bl=m.bl/\∀x∈ent a 2 full,w.heap.size<=x.1
abbrev fnV(f:FuncId):Value := .func (.func f) #[] #[]
abbrev doT:List Value:=[.nilFunc,fnV 29,fnV 30,fnV 31,fnV 32,fnV 33,fnV 34,fnV 35,fnV 36,fnV 37,fnV 38,fnV 38,fnV 39,fnV 40,fnV 41,fnV 42]
def DoFn(k:Ak)(f:FuncId):Prop:=doT[k.kd.toNat]?=some (fnV f)/\Aq prog f=true/\∀{m:Lm} {s:Ld} {T:Nat->Prop} (w:World) (_:LdIn w m s T) (_:Ctx w (Dy m s) w (LL m s)),Ret prog f #[ptr m.bl,.agg (BQ k).toArray] w (GI w m s T k)
theorem Aq4{k:Ak}(hin:AkIn k)(h0:k.kd≠0)(h16:k.kd<16):∃f,DoFn k f:=by
 have hkd:=hin.kd;have hc:k.kd=1\/k.kd=2\/k.kd=3\/k.kd=4\/k.kd=5\/k.kd=6\/k.kd=7\/k.kd=8\/k.kd=9\/k.kd=10\/k.kd=11\/k.kd=12\/k.kd=13\/k.kd=14\/k.kd=15:=by omega
 rcases hc with h|h|h|h|h|h|h|h|h|h|h|h|h|h|h
 .exact⟨_,by rw[h];rfl,qB,fun w I H=>Ahx h hin w I H⟩
 .exact⟨_,by rw[h];rfl,qB,fun w I H=>Ahq h hin w I H⟩
 .exact⟨_,by rw[h];rfl,qB,fun w I H=>Ahr h hin w I H⟩
 .exact⟨_,by rw[h];rfl,qB,fun w I H=>Aky h hin w I H⟩
 .exact⟨_,by rw[h];rfl,qB,fun w I H=>Akz h hin w I H⟩
 .exact⟨_,by rw[h];rfl,qB,fun w I H=>Ahu h hin w I H⟩
 .exact⟨_,by rw[h];rfl,qB,fun w I H=>Ws h hin w I H⟩
 .exact⟨_,by rw[h];rfl,qB,fun w I H=>XV h hin w I H⟩
 .exact⟨_,by rw[h];rfl,qB,fun w I H=>Ahy h hin w I H⟩
 .exact⟨_,by rw[h];rfl,qB,fun w I H=>Tn (.inl h) hin w I H⟩
 .exact⟨_,by rw[h];rfl,qB,fun w I H=>Tn (.inr h) hin w I H⟩
 .exact⟨_,by rw[h];rfl,qB,fun w I H=>Ahv h hin w I H⟩
 .exact⟨_,by rw[h];rfl,qB,fun w I H=>Acc h hin w I H⟩
 .exact⟨_,by rw[h];rfl,qB,fun w I H=>Ak0 h hin w I H⟩
 .exact⟨_,by rw[h];rfl,qB,fun w I H=>Ace h hin w I H⟩
theorem Ah7{s:Ld}{k:Ak}(h:k.kd=0\/16<=k.kd):CN s k s ⟨1,[]⟩:=by
 have h1:Fz s k=s:=by
  unfold Fz;iterate 9 rw[if_neg (by omega)]
 have h2:FC s k=⟨1,[]⟩:=by
  unfold FC;iterate 13 rw[if_neg (by omega)]
 unfold CN;rw[if_neg (by omega)];exact⟨h1.symm,h2.symm⟩
theorem XY{w w':World}{m m':Lm}{s s':Ld}{T T':Nat->Prop}{k:Ak}{P:List (Nat × Obj)}{a:Option Addr}{n c:Nat}{full:List Value}{p:Rp}(_:LdIn w m s T)(H:Ctx w (Dy m s) w' (P++(LL m' s'++ent a 2 full)))(O:OS a n c 1 full (p.n.map Eb))(hst:CN s k s' p)(I7:LdIn w' m' s' T')(g:Grows T T' w)(hbl:m'.bl=m.bl/\∀x∈ent a 2 full,w.heap.size<=x.1) :
  Ah6 w m s T k (.agg #[.int .i64 p.e,.slice a n c]) w':=⟨a,n,c,full,p,s',m',T',rfl,O,hst,H.right,I7,g,hbl⟩
abbrev dL:List Nat:=[23,24,25,26,27,28,29,22,30,31,6]
theorem Aq5:∀i j,i<11->j<11->dL.getD i 0=dL.getD j 0->i=j:=fun i j hi hj h=>by
 have h1:∀a b:Fin 11,dL.getD a.val 0=dL.getD b.val 0->a=b:=by decide
 exact qaa Fin.val (h1 ⟨i,hi⟩ ⟨j,hj⟩ h)
abbrev dA:Nat->List Nat:=Ac9 11 [[],[0],[0,1],[0,1,2],[],[],[0,1,2,3,4,5],[0,1,2,3,4,5,6],[0,1,2,3,4,5,6,7],[0,1,2,3,4,5,6,7],[0,1,2,3,4,5,6,7,8]]
def gD(b3 b5 bl:Nat)(k:Ak)(f:FuncId)(R:Value->Value->World->Prop):Nat->(Nat->Value)->World->Prop
 |0,V,_=>V 0=.pointer (some ⟨b3,0+0,none⟩)
 |1,V,_=>V 1=.int .u8 k.kd
 |2,V,_=>V 2=.pointer (some ⟨b5,0+k.kd.toNat*1,none⟩)
 |3,V,_=>V 3=fnV f
 |4,V,_=>V 4=.pointer (some ⟨bl,0,none⟩)
 |5,V,_=>V 5=.agg (BQ k).toArray
 |6,V,w=>∃x y,V 6=.tuple #[x,y]/\R x y w
 |7,V,_=>V 7=V 6
 |8,V,_=>∃x y,V 7=.tuple #[x,y]/\V 8=x
 |9,V,_=>∃x y,V 7=.tuple #[x,y]/\V 9=y
 |10,V,_=>V 10=V 8
 |_,_,_=>True
theorem Aq6{b3 b5 bl:Nat}{k:Ak}{f:FuncId}{R:Value->Value->World->Prop}:∀(i j:Nat) (v:Value) (V:Nat->Value) (w:World),i<11->j≠i->j∉dA i->gD b3 b5 bl k f R i V w->gD b3 b5 bl k f R i (KL V j v) w
 |0,j,v,V,w,_,h1,_,h=>(DI (Ne.symm h1)).trans h
 |1,j,v,V,w,_,h1,_,h=>(DI (Ne.symm h1)).trans h
 |2,j,v,V,w,_,h1,_,h=>(DI (Ne.symm h1)).trans h
 |3,j,v,V,w,_,h1,_,h=>(DI (Ne.symm h1)).trans h
 |4,j,v,V,w,_,h1,_,h=>(DI (Ne.symm h1)).trans h
 |5,j,v,V,w,_,h1,_,h=>(DI (Ne.symm h1)).trans h
 |6,j,v,V,w,_,h1,_,h=>by
  obtain⟨x,y,h3,h4⟩:=h;exact⟨x,y,(DI (Ne.symm h1)).trans h3,h4⟩
 |7,j,v,V,w,_,h1,h2,h=>by
  have h6:j≠6:=fun e=>h2 (by rw[e];decide);exact((DI (Ne.symm h1)).trans h).trans (DI (Ne.symm h6)).symm
 |8,j,v,V,w,_,h1,h2,h=>by
  have h7:j≠7:=fun e=>h2 (by rw[e];decide);obtain⟨x,y,h3,h4⟩:=h;exact⟨x,y,(DI (Ne.symm h7)).trans h3,(DI (Ne.symm h1)).trans h4⟩
 |9,j,v,V,w,_,h1,h2,h=>by
  have h7:j≠7:=fun e=>h2 (by rw[e];decide);obtain⟨x,y,h3,h4⟩:=h;exact⟨x,y,(DI (Ne.symm h7)).trans h3,(DI (Ne.symm h1)).trans h4⟩
 |10,j,v,V,w,_,h1,h2,h=>by
  have h8:j≠8:=fun e=>h2 (by rw[e];decide);exact((DI (Ne.symm h1)).trans h).trans (DI (Ne.symm h8)).symm
 |i+11,_,_,_,_,h,_,_,_=>by omega
theorem gD_w{b3 b5 bl:Nat}{k:Ak}{f:FuncId}{R:Value->Value->World->Prop}:∀(i:Nat) (V:Nat->Value) (w w':World),i<11->i≠6->6∉dA i->gD b3 b5 bl k f R i V w->gD b3 b5 bl k f R i V w'
 |0,_,_,_,_,_,_,h=>h
 |1,_,_,_,_,_,_,h=>h
 |2,_,_,_,_,_,_,h=>h
 |3,_,_,_,_,_,_,h=>h
 |4,_,_,_,_,_,_,h=>h
 |5,_,_,_,_,_,_,h=>h
 |6,_,_,_,_,h,_,_=>absurd rfl h
 |7,_,_,_,_,_,_,h=>h
 |8,_,_,_,_,_,_,h=>h
 |9,_,_,_,_,_,_,h=>h
 |10,_,_,_,_,_,_,h=>h
 |i+11,_,_,_,h,_,_,_=>by omega
structure DoZ where
 a:Option Addr
 n:Nat
 c:Nat
 full:List Value
 code:Int
 l:List Int
 s:Ld
 m:Lm
theorem Aq7{m:Lm}{s:Ld}{T:Nat->Prop}{k:Ak}(hin:AkIn k)(hdo:k.kd≠0->k.kd<16->∃f,DoFn k f)(w:World)(I:LdIn w m s T)(H0:Ctx w (Dy m s) w (LL m s)) :
  Ret prog 9 #[ptr m.bl,.agg (BQ k).toArray] w (Ah6 w m s T k):=by
 obtain⟨w0,rfl⟩:=qD w;have hkd:=hin.kd;obtain⟨S0,hS0⟩:=qD (Dy m s);have H:Ctx w0 S0 w0 (LL m s):=by rw[hS0];exact H0
 refine Au (fn:=Tryz.f9) func9 U [.pointer (some ⟨m.bl,0,none⟩),.agg (BQ k).toArray] U ?_;refine Ae (Bu (BQ k) (.agg _) U U H ?_);rintro b3 w - H;refine Bc KX H ?_;rintro b4 w - H;refine qA (Ax (Ae (A4 U (Cw Amh U ?_))));refine qA (Aw _ U ?_ ?_)
 .intro h1;cases h1
 .intro h1;refine Ay (Aa (Ae (ZS doT U Al0 Amf Aml ?_)));refine Bc Aml H ?_;rintro b5 w - H;refine Bn sz_76 U U U (by exact(by simp[AY])) H at0 U ?_;rintro w H;refine qA (Ax (Ae (Ci (α:=Unit) 2093056 (fun _=>[(20,.bool ((decide (k.kd=0) || decide (16<=k.kd))))]) (fun _ w'=>Ctx w0 S0 w' ((b5,Bl 76 doT)::(b4,Bl 33 [.int .i64 0,.slice none 0 0])::(b3,Bl 25 (BQ k))::LL m s)) U ?_ ?_)))
  .refine Ah JP U (AG Kv U H at2 U (C3 U U (A2 U (AR 15 U ?_ ?_))))
   .intro h1;replace h1:=AM h1;refine Ag U (Ag U (Ag U (Ag U (AA U (.bool _) U (Ab ?_)))));exact⟨rfl,(),rfl,⟨qaa Value.bool (by rw[qad];simp_all;try omega),trivial⟩,H⟩
   .intro h2;replace h2:=AN h2;refine Ah JP U (AG Kv U H at2 U (Di U Hr Ho ?_));refine CM U U (AJ U (.bool _) U (Ab ?_));exact⟨rfl,(),rfl,⟨qaa Value.bool (by rw[qad];simp_all;try omega),trivial⟩,H⟩
  rintro - j20 w H;refine Aw _ U ?_ ?_
  .intro h2;have h2':k.kd=0\/16<=k.kd:=by simpa using h2
   refine Ae (BA [.int .i64 1,.slice none 0 0] Sv KX ?_);refine Bn Jv U U U (by exact(by simp[AY])) H at1 U ?_;rintro w H;refine qA (A5 (Av (JI U U U Ss Jv H at1 U ?_)));have H17:=H;subst hS0;exact XY (P:=[_,_,_]) (m':=m) (s':=s) (T':=T) (p:=⟨1,[]⟩) (full:=[]) I (H17.app_nil) OS.nil (Ah7 h2') (I.grow H17.ext (fun x hx => .inl (I.own x hx)) (Grows.refl _ _) fun x hx=>qa7 (I.low x hx) H17.size) (Grows.refl _ _) ⟨rfl,fun x hx=>by cases hx⟩
  .intro h2;have h2':¬(k.kd=0\/16<=k.kd):=by simpa using h2
   obtain⟨f,hf1,hf2,hf3⟩:=hdo (fun h=>h2' (.inl h)) (by omega)
   have hown:∀x,x∈[b5,b4,b3]->T x\/w0.heap.size<=x:=fun x hx=>by
    simp only[qai,qau,or_false]at hx
    rcases hx with rfl|rfl|rfl
    .exact(H.own (_,_) (qac at0)).imp_left fun h=>I.own _ (hS0 ▸ h)
    .exact(H.own (_,_) (qac at1)).imp_left fun h=>I.own _ (hS0 ▸ h)
    .exact(H.own (_,_) (qac at2)).imp_left fun h=>I.own _ (hS0 ▸ h)
   have hlt:∀x,x∈[b5,b4,b3]->x<w.heap.size:=fun x hx=>by
    simp only[qai,qau,or_false]at hx
    rcases hx with rfl|rfl|rfl
    .exact Bd (H.get at0)
    .exact Bd (H.get at1)
    .exact Bd (H.get at2)
   have g1:Grows T (fun x=>T x\/x∈[b5,b4,b3]) w0:=⟨fun x hx => .inl hx,fun x hx=>hx.elim .inl (hown x)⟩;have I1:LdIn w m s (fun x=>T x\/x∈[b5,b4,b3]):=I.grow H.ext (fun x hx => .inl (I.own x (hS0 ▸ hx))) g1 fun x hx=>hx.elim (fun h=>qa7 (I.low x h) H.size) (hlt x);refine Ay (Aa (DV 4290773184 (α:=DoZ) (fun z=>[(6,.slice z.a z.n z.c),(7,.int .i64 z.code)]) (fun z w'=>OS z.a z.n z.c 1 z.full (z.l.map Eb)/\CN s k z.s (rp z.l z.code)/\Ctx w0 S0 w' ((b5,Bl 76 doT)::(b4,Bl 33 [.int .i64 0,.slice none 0 0])::(b3,Bl 25 (BQ k))::(LL z.m z.s++ent z.a 2 z.full))/\LdIn w' z.m z.s (fun x=>(T x\/x∈[b5,b4,b3])\/x∈Dy z.m z.s)/\z.m.bl=m.bl/\∀x∈ent z.a 2 z.full,w0.heap.size<=x.1) U ?_ ?_))
   .skip
    have H9:=H.drew;have I2:=I1.grow (Ext.drew [] _) (fun x hx=>by cases hx) (Grows.refl _ _) I1.low;refine Ai6 (n:=11) (N:=12) (anc:=dA) 6 (fun i=>dL.getD i 0) (gD b3 b5 m.bl k f (fun x y w'=>∃z:DoZ,x=.slice z.a z.n z.c/\y=.int .i64 z.code/\OS z.a z.n z.c 1 z.full (z.l.map Eb)/\CN s k z.s (rp z.l z.code)/\Ctx w0 S0 w' ((b5,Bl 76 doT)::(b4,Bl 33 [.int .i64 0,.slice none 0 0])::(b3,Bl 25 (BQ k))::(LL z.m z.s++ent z.a 2 z.full))/\LdIn w' z.m z.s (fun x=>(T x\/x∈[b5,b4,b3])\/x∈Dy z.m z.s)/\z.m.bl=m.bl/\∀x∈ent z.a 2 z.full,w0.heap.size<=x.1)) (show Tryz.prog.follows .mixedOrders=true by kernel_rfl) U (NJ _) Aq5 Aq6 gD_w ?_ ?_ ?_
    .intro i o e' w' V hi hic ho hold hg hG hw;have h3:e'.g 3=.pointer (some ⟨b3,0,none⟩):=(hold 3 ((by decide:∀j,j<11->3≠dL.getD j 0))).trans rfl;have h5:e'.g 5=.pointer (some ⟨b5,0,none⟩):=(hold 5 ((by decide:∀j,j<11->5≠dL.getD j 0))).trans rfl;have h0:e'.g 0=.pointer (some ⟨m.bl,0,none⟩):=(hold 0 ((by decide:∀j,j<11->0≠dL.getD j 0))).trans rfl;have hcs:i=0\/i=1\/i=2\/i=3\/i=4\/i=5\/i=7\/i=8\/i=9\/i=10:=by omega
     rcases hcs with rfl|rfl|rfl|rfl|rfl|rfl|rfl|rfl|rfl|rfl
     .cases qag ho;exact Ah (off:=0) (by kernel_rfl) h3 (Ab ⟨_,rfl,rfl,Eg ..⟩)
     .cases qag ho;have hww:=hw (by decide);subst hww;exact Bb Kv ((hg 0 (by decide)).trans (hG 0 (by decide))) (v := .int .u8 k.kd) (by rw[Aj (H9.get at2)];rfl) (Ab ⟨_,rfl,rfl,Eg ..⟩)
     .cases qag ho;exact Ov U Al0 Amf h5 ((hg 1 (by decide)).trans (hG 1 (by decide))) (Ab ⟨_,rfl,rfl,Eg ..⟩)
     .cases qag ho;have hww:=hw (by decide);subst hww;exact Bb ag_74 ((hg 2 (by decide)).trans (hG 2 (by decide))) (v:=fnV f) (by rw[Aj (H9.get at0),qaz,qdg];exact hf1) (Ab ⟨_,rfl,rfl,Eg ..⟩)
     .cases qag ho;exact C7 _ h0 (Ab ⟨_,rfl,rfl,Eg ..⟩)
     .cases qag ho;have hww:=hw (by decide);subst hww;exact C9 (BQ k) Kn FP h3 U (CX (b:=b3) (t:=25) (l:=BQ k) (H9.get at2) 0 (BQ k) U) (Ab ⟨_,rfl,rfl,Eg ..⟩)
     .cases qag ho;exact C7 (V 6) (hg 6 (by decide)) (Ab ⟨_,rfl,rfl,(Eg ..).trans (DI (by decide)).symm⟩)
     .cases qag ho;obtain⟨x,y,h6,-⟩:=hG 6 (by decide);have h7:V 7=.tuple #[x,y]:=(hG 7 (by decide)).trans h6;exact AH (v:=x) ((hg 7 (by decide)).trans h7) U (Ab ⟨_,rfl,rfl,x,y,(DI (by decide)).trans h7,Eg ..⟩)
     .cases qag ho;obtain⟨x,y,h6,-⟩:=hG 6 (by decide);have h7:V 7=.tuple #[x,y]:=(hG 7 (by decide)).trans h6;exact AH (v:=y) ((hg 7 (by decide)).trans h7) U (Ab ⟨_,rfl,rfl,x,y,(DI (by decide)).trans h7,Eg ..⟩)
     .cases qag ho;exact Dd U (V 8) (hg 8 (by decide)) (Ab ⟨_,rfl,rfl,(Eg ..).trans (DI (by decide)).symm⟩)
    .intro o e' V ho hold hg hG;cases qag ho;refine G6 ((hg 3 (by decide)).trans (hG 3 (by decide))) hf2 (hf3 _ I2 (Ctx.lend (Ctx.comm (L:=[_,_,_]) (L':=LL m s) H9))) (show[e'.g 27,e'.g 28]=_ by rw[show e'.g 27=_ from(hg 4 (by decide)).trans (hG 4 (by decide)),show e'.g 28=_ from(hg 5 (by decide)).trans (hG 5 (by decide))]) ?_;rintro v w2 ⟨ar,nr,cr,fr,code,lr,s',m',rfl,Or,hst,H7,hnew,I7,hbl⟩;exact Ab ⟨_,rfl,_,_,Eg ..,⟨ar,nr,cr,fr,code,lr,s',m'⟩,rfl,rfl,Or,hst,(Ctx.back (L1:=LL m s) (Ctx.comm (L:=[_,_,_]) (L':=LL m s) H9) H7).comm,I7,hbl,fun x hx=>qa6 H9.size (hnew x hx)⟩
    .intro e' w' V hds hold hg hG;obtain⟨x,y,h6,z,rfl,rfl,hJ⟩:=hG 6 (by decide);obtain⟨x1,y1,h71,h8⟩:=hG 8 (by decide);obtain⟨x2,y2,h72,h9⟩:=hG 9 (by decide);have h7:V 7=V 6:=hG 7 (by decide);have h10:V 10=V 8:=hG 10 (by decide);rw[h7,h6]at h71 h72;cases h71;cases h72;refine Dd U (.int .i64 z.code) ((hg 9 (by decide)).trans h9) (Ab ?_);exact⟨z,hds,⟨(E3 (by decide)).trans ((hg 10 (by decide)).trans (h10.trans h8)),Fc ..,trivial⟩,hJ⟩
   .rintro⟨ar,nr,cr,fr,code,lr,s',m'⟩ j8 w ⟨Or,hst,H8,I7,hbl⟩;dsimp only at Or hst H8 I7 hbl;obtain⟨w2,rfl⟩:=qD w;clear H;have H:=Ctx.start1 (H8.get at1);have hS8:=H8.size
    have g2:Grows T (fun x=>(T x\/x∈[b5,b4,b3])\/x∈Dy m' s') w0:=⟨fun x hx => .inl (.inl hx),fun x hx=>hx.elim (fun h=>h.elim .inl (hown x)) fun h=>by
     obtain⟨y,hy,rfl⟩:=qah.1 h
     exact(H8.own y (qaf [_,_,_] (qao _ hy))).imp_left fun h=>I.own _ (hS0 ▸ h)⟩
    have h4:∀x∈[b4],((T x\/x∈[b5,b4,b3])\/x∈Dy m' s')\/w2.heap.size<=x:=fun x hx=>by rw[qab.1 hx];exact .inl (.inl (.inr (by simp)))
    refine Ax (Ae (Af U (CK U U (qA (Aw _ U ?_ ?_)))))
    .intro h3;replace h3:=CY h3;refine Ae (Af U (BA [.int .i64 code,.slice none 0 0] Sv KX ?_));refine Bn Jv U U U (by exact(by simp[AY])) H at0 U ?_;rintro w H;refine qA (A5 (Av (JI U U U Ss Jv H at0 U ?_)));have H17:=H;subst hS0;have hp:rp lr code=⟨code,[]⟩:=We h3;rw[hp]at hst;exact XY (P:=[_,_,_]) (m':=m') (s':=s') (p:=⟨code,[]⟩) (full:=[]) I (Ctx.app_nil (Ctx.left (L:=(_::_::_::LL m' s')) (Ctx.mid (B:=[_]) (L:=[_]) H8 H17))) OS.nil hst (I7.grow H17.ext h4 (Grows.refl _ _) fun x hx=>qa7 (I7.low x hx) H17.size) g2 ⟨hbl.1,fun x hx=>by cases hx⟩
    .intro h3;replace h3:=CZ h3;obtain rfl:code=0:=h3;refine Ay (Aa (Ae (Ap U (BA [.int .i64 0,.slice ar nr cr] Sv KX ?_))));refine Bn Jv U U U (by exact(by simp[AY])) H at0 U ?_;rintro w H;refine qA (A5 (JI U U U Ss Jv H at0 U ?_));have H17:=H;subst hS0;exact XY (P:=[_,_,_]) (m':=m') (s':=s') (p:=⟨0,lr⟩) I (Ctx.mid (B:=[_]) (L:=[_]) H8 H17) Or hst (I7.grow H17.ext h4 (Grows.refl _ _) fun x hx=>qa7 (I7.low x hx) H17.size) g2 hbl
theorem do_ok{m:Lm}{s:Ld}{T:Nat->Prop}{k:Ak}(hin:AkIn k)(w:World)(I:LdIn w m s T)(H0:Ctx w (Dy m s) w (LL m s)) :
  Ret prog 9 #[ptr m.bl,.agg (BQ k).toArray] w (Ah6 w m s T k):=Aq7 hin (Aq4 hin) w I H0
abbrev stX(s:Ld)(z:StZ)(u:Value):List Value:=[.int .i64 s.day,.slice z.aA s.acs.length z.cA,.slice z.aD s.ds.length z.cD,.int .u64 s.nx,.slice z.aR s.rn.length z.cR,.int .u64 s.no,u]
theorem Ah8{s:Ld}{z y:StZ}{u u2:Value}(w:World)(Z:StAt w s z)(Y:StAt w s y)(hB:∀r∈s.rn,RBnd r)(hl1:s.acs.length<=1000000:=by omega)(hl2:s.ds.length<=1000000:=by omega)(hl3:s.rn.length<=1000000:=by omega):
  Ret prog 11 #[.agg (stX s z u).toArray,.agg (stX s y u2).toArray] w fun v w'=>v=.bool true/\Ext [] w w':=by
 obtain⟨w0,rfl,H⟩:=qE w;refine Au (fn:=f11) func11 U [.agg (stX s z u).toArray,.agg (stX s y u2).toArray] U (Ae (Bu (stX s z u) (.agg _) U U H ?_));rintro b2 w - H;refine Bu (stX s y u2) (.agg _) U U H ?_;rintro b3 w - H;refine Ai U (qA (Ae (Ci (α:=Unit) 35184372088816 (fun _=>[(4,.bool (true))]) (fun _ w'=>Ctx w0 [] w' [(b3,Bl 42 (stX s y u2)),(b2,Bl 42 (stX s z u))]) U ?_ ?_)))
 .refine Ah Y5 U (AG B4 U H at1 U (Ah Y5 U (AG B4 U H at0 U (C3 U U (A2 U (AR 10 U ?_ ?_))))))
  .intro h1;replace h1:=AM h1;refine Ah Y8 U (AG B6 U H at1 U (Ah Y8 U (AG B6 U H at0 U (C3 U U (AA U (.bool _) U (A2 U (AR 17 U ?_ ?_)))))))
   .intro h2;replace h2:=AM h2;refine Ah YA U (AG B6 U H at1 U (Ah YA U (AG B6 U H at0 U (C3 U U (AA U (.bool _) U (A2 U (AR 24 U ?_ ?_)))))))
    .intro h3;replace h3:=AM h3;refine Ah Y6 U (AG IU U H at1 U (Ah Y6 U (AG IU U H at0 U (Al qB (Aa8 z.aA y.aA _ z.cA _ y.cA s.acs s.acs _ (Z.A.ext0 H.ext) U hl1 (Y.A.ext0 H.ext) U hl1) U ?_))));rintro v w ⟨rfl,hx29⟩;replace H:=H.call hx29;rw[qan rfl];refine AA U (.bool _) U (A2 U (AR 31 U ?_ ?_))
     .intro h4;refine Ah Y7 U (AG Adg U H at1 U (Ah Y7 U (AG Adg U H at0 U (Al qB (Aa9 z.aD y.aD _ z.cD _ y.cD s.ds s.ds _ (Z.D.ext0 H.ext) U hl2 (Y.D.ext0 H.ext) U hl2) U ?_))));rintro v w ⟨rfl,hx36⟩;replace H:=H.call hx36;rw[qan rfl];refine AA U (.bool _) U (A2 U (AR 38 U ?_ ?_))
      .intro h5;refine Ah Y9 U (AG Alz U H at1 U (Ah Y9 U (AG Alz U H at0 U (Al qB (Aca z.aR y.aR _ z.cR _ y.cR s.rn z.qs y.qs _ (Z.R.ext0 H.ext) U hl3 (Y.R.ext0 H.ext) U Z.n Y.n (fun x hx=>(Z.K x hx).ext0 H.ext) (fun x hx=>(Y.K x hx).ext0 H.ext) hB) U ?_))));rintro v w ⟨rfl,hx43⟩;replace H:=H.call hx43;refine AA U (.bool _) U (Ai U (Ab ?_));exact⟨rfl,(),rfl,⟨qaa Value.bool (by rfl),trivial⟩,H⟩
      .intro h6;refine Ag U (Ag U (Ag U (Ag U (Ag U (AJ U (.bool _) U (Ai U (Ab ?_)))))));exact⟨rfl,(),rfl,⟨qaa Value.bool (by(simp_all;done)),trivial⟩,H⟩
     .intro h7;refine Ag U (Ag U (Ag U (Ag U (Ag U (AJ U (.bool _) U (A2 U (Ag U (Ag U (Ag U ?_)))))))));refine Ag U (Ag U (AJ U (.bool _) U (Ai U (Ab ?_))));exact⟨rfl,(),rfl,⟨qaa Value.bool (by(simp_all;done)),trivial⟩,H⟩
    .intro h8;replace h8:=AN h8;refine Ag U (Ag U (Ag U (Ag U (Ag U (AJ U (.bool _) U (A2 U (Ag U (Ag U (Ag U ?_)))))))));refine Ag U (Ag U (AJ U (.bool _) U (A2 U (Ag U (Ag U (Ag U (Ag U (Ag U (AJ U (.bool _) U ?_)))))))));refine Ai U (Ab ?_);exact⟨rfl,(),rfl,⟨qaa Value.bool (by(simp_all;done)),trivial⟩,H⟩
   .intro h9;replace h9:=AN h9;refine Ag U (Ag U (Ag U (Ag U (Ag U (AJ U (.bool _) U (A2 U (Ag U (Ag U (Ag U ?_)))))))));refine Ag U (Ag U (AJ U (.bool _) U (A2 U (Ag U (Ag U (Ag U (Ag U (Ag U (AJ U (.bool _) U ?_)))))))));refine A2 U (Ag U (Ag U (Ag U (Ag U (Ag U (AJ U (.bool _) U (Ai U (Ab ?_))))))));exact⟨rfl,(),rfl,⟨qaa Value.bool (by(simp_all;done)),trivial⟩,H⟩
  .intro h10;replace h10:=AN h10;refine Ag U (Ag U (Ag U (Ag U (Ag U (AJ U (.bool _) U (A2 U (Ag U (Ag U (Ag U ?_)))))))));refine Ag U (Ag U (AJ U (.bool _) U (A2 U (Ag U (Ag U (Ag U (Ag U (Ag U (AJ U (.bool _) U ?_)))))))));refine A2 U (Ag U (Ag U (Ag U (Ag U (Ag U (AJ U (.bool _) U (A2 U (Ag U (Ag U ?_)))))))));refine Ag U (Ag U (Ag U (AJ U (.bool _) U (Ai U (Ab ?_)))));exact⟨rfl,(),rfl,⟨qaa Value.bool (by(simp_all;done)),trivial⟩,H⟩
 rintro - j4 w H;refine A5 (AB (v:=(.bool _)) U U U ?_);exact⟨rfl,H.ext⟩
theorem Wz{s s':Ld}{k:Ak}{p:Rp}(h:CN s k s' p)(hk:¬(k.kd=10\/k.kd=11)):s'=Fz s k/\p=FC s k:=by
 unfold CN at h;rw[if_neg hk]at h;exact h
theorem Ctx.did{w0 w w':World}{S:List Nat}{B E:List (Nat × Obj)}{m m':Lm}{s s':Ld}(H:Ctx w0 S w (B++LL m s))(H7:Ctx w (Dy m s) w' (LL m' s'++E)):Ctx w0 S w' ((E++B)++LL m' s'):=by
 have h1:=Ctx.back (L1:=LL m s) (L2:=B) H.comm H7;rw[qas]at h1;exact h1.comm
structure Led(bl:Nat)(w0 w:World)(B:List (Nat × Obj))(m:Lm)(s:Ld)(T:Nat->Prop):Prop where
 H:Ctx w0 [] w (B++LL m s)
 I:LdIn w m s T
 e:m.bl=bl
theorem Led.next{bl:Nat}{w0 w w':World}{B E:List (Nat × Obj)}{m:Lm}{s:Ld}{T:Nat->Prop}(L:Led bl w0 w B m s T)(H:Ctx w [] w' E):Led bl w0 w' (E++B) m s T :=
 ⟨by rw[qas];exact Ctx.back (L1:=[]) (L2:=B++LL m s) L.H H,L.I.grow H.ext (by simp) (Grows.refl _ _) fun x hx=>qa7 (L.I.low x hx) H.size,L.e⟩
theorem Ala{bl:Nat}{w0 w:World}{B:List (Nat × Obj)}{m:Lm}{s:Ld}{T:Nat->Prop}{k:Ak}(L:Led bl w0 w B m s T)(hin:AkIn k) :
  Ret prog 9 #[ptr bl,.agg (BQ k).toArray] w fun v w'=>∃a n c full p s' m' T',v=.agg #[.int .i64 p.e,.slice a n c]/\OS a n c 1 full (p.n.map Eb)/\CN s k s' p/\Led bl w0 w' (ent a 2 full++B) m' s' T'/\Grows T T' w/\Ext (Dy m s) w w'/\∀x∈ent a 2 full,w.heap.size<=x.1:=by
 obtain⟨H,I,e⟩:=L;subst e;refine Ret.mono (do_ok hin w I (Ctx.lend (L1:=LL m s) H.comm)) fun v w' h=>?_;obtain⟨a,n,c,full,p,s',m',T',rfl,O,hst,H7,I7,g,hb,hn⟩:=h;exact⟨a,n,c,full,p,s',m',T',rfl,O,hst,⟨Ctx.did H H7,I7,hb⟩,g,H7.ext,hn⟩
theorem Aq8{bl:Nat}{w0 w:World}{B:List (Nat × Obj)}{m:Lm}{s:Ld}{T:Nat->Prop}{k:Ak}(L:Led bl w0 w B m s T)(hin:AkIn k) :
  Ret prog 9 #[ptr bl,.agg (BQ k).toArray] w fun v w'=>∃a n c full p s' m' T',v=.agg #[.int .i64 p.e,.slice a n c]/\OS a n c 1 full (p.n.map Eb)/\CN s k s' p/\Led bl w0 w' (ent a 2 full++B) m' s' T'/\Grows T T' w/\Ext (Dy m s) w w':=by
 refine Ret.mono (Ala L hin) fun v w' h=>?_;obtain⟨a,n,c,full,p,s',m',T',h1,h2,h3,h4,h5,h6,-⟩:=h;exact⟨a,n,c,full,p,s',m',T',h1,h2,h3,h4,h5,h6⟩
abbrev ak(kd a b x w u id:Int):Ak:=⟨kd,a,b,x,w,u,id⟩
abbrev yA0:List Ac:=[⟨5,0⟩,⟨0,0⟩]
abbrev yA1:List Ac:=[⟨0,0⟩,⟨5,0⟩]
abbrev yD0:List Du:=[⟨1,0,1,9,2,3,false⟩]
abbrev yD1:List Du:=[⟨1,0,1,4,2,3,false⟩]
abbrev yE0:List Ed:=[⟨0,1,9,-2⟩,⟨2,0,5,0⟩,⟨0,2,4503599627370496,0⟩,⟨2,1,0,0⟩,⟨1,2,4503599627370496,0⟩]
def snil:Ld:=⟨0,[],[],0,[],0⟩
abbrev znil:StZ:=⟨none,0,none,0,none,0,[]⟩
def addF(k:Ak)(p:Rp):Int:=if p.e=0/\k.kd=2 then k.x else 0
def subF(k:Ak)(p:Rp):Int:=if p.e=0/\k.kd=3 then k.x else 0
theorem Led.drop{bl:Nat}{w0 w:World}{B:List (Nat × Obj)}{m:Lm}{s:Ld}{T:Nat->Prop}(L:Led bl w0 w B m s T):Led bl w0 w [] m s T:=⟨L.H.right,L.I,L.e⟩
theorem Led.call{bl:Nat}{w0 w w':World}{B:List (Nat × Obj)}{m:Lm}{s:Ld}{T:Nat->Prop}(L:Led bl w0 w B m s T)(hx:Ext [] w w'):Led bl w0 w' B m s T:=L.next ((Ctx.start w []).call hx)
theorem Led.low{bl:Nat}{w0 w:World}{B:List (Nat × Obj)}{m:Lm}{s:Ld}{T:Nat->Prop}(L:Led bl w0 w B m s T):∀x∈Dy m s,x<w.heap.size:=fun x hx=>L.I.low x (L.I.own x hx)
theorem Acg{bl:Nat}{w0 w:World}{B:List (Nat × Obj)}{m:Lm}{s:Ld}{T:Nat->Prop}(L:Led bl w0 w B m s T) :
  Ret prog 12 #[ptr bl] w fun v w'=>Ext [] w w'/\∃z,v=.agg (stC s z).toArray/\StAt w' s z/\StOff s z (fun x=>x<w.heap.size):=by
 obtain⟨H,I,e⟩:=L;subst e;exact Acb w I H.right
theorem Led.nextT{bl:Nat}{w0 w w':World}{B E:List (Nat × Obj)}{m:Lm}{s:Ld}{T:Nat->Prop}(L:Led bl w0 w B m s T)(H:Ctx w [] w' E):Led bl w0 w' (E++B) m s (fun x=>T x\/x∈E.map (fun x=>x.1)) :=
 ⟨by rw[qas];exact Ctx.back (L1:=[]) (L2:=B++LL m s) L.H H,L.I.grow H.ext (by simp) ⟨fun x hx => .inl hx,fun x hx=>hx.imp_right fun h=>by
  obtain⟨y,hy,rfl⟩:=qah.1 h
  exact(H.own y hy).elim (fun h=>by cases h) id⟩ fun x hx=>hx.elim (fun h=>qa7 (L.I.low x h) H.size) fun h=>by
  obtain⟨y,hy,rfl⟩:=qah.1 h
  exact Bd (H.blk y hy),L.e⟩
abbrev DP(k:Nat × Nat):List Value:=[.int .u32 (k.1:Int),.int .u64 (k.2:Int)]
abbrev Dg(x:As):Nat × Nat:=(x.c,x.n)
def K3(ls:List As):List ((Nat × Nat) × Value):=ls.map fun x=>(Dg x,.agg (asC x).toArray)
def Oj(ls:List As):List Value:=(ls.map Dg).flatMap DP
def FR(ls:List As)(k:Nat × Nat):Option As:=ls.find? fun x=>decide (Dg x=k)
def Pi(ls:List As)(x:As):List As:=if ls.length<32 then ls++[x]else(ls++[x]).drop 1
theorem W0(ls:List As)(k:Nat × Nat):GS (K3 ls) k=(FR ls k).map fun x => .agg (asC x).toArray:=by
 unfold GS K3 FR
 induction ls with
 |nil=>rfl
 |cons x ls ih =>
  rw[qay,qb7,qb7]
  by_cases h:Dg x=k
  .rw[qan h];rfl
  .rw[qa2 h];exact ih
theorem Ah9(ls:List As)(x:As):K3 (ls++[x])=K3 ls++[(Dg x,.agg (asC x).toArray)]:=by
 unfold K3;rw[qav];rfl
theorem Aia(x:As)(ls:List As):RJ (K3 (x::ls)) (Dg x)=K3 ls:=by
 show(if Dg x=Dg x then K3 ls else _)=_;rw[if_pos rfl]
theorem Aib(ls:List As)(x:As):Oj (ls++[x])=Oj ls++DP (Dg x):=by
 unfold Oj;rw[qav,qbt];rfl
theorem keyW:KeyOk prog 97 [true,true] DP where
 plain:=by kernel_rfl
 like:=fun _ _=>⟨rfl,rfl,trivial⟩
 inj:=fun x y h=>by
  obtain⟨a,b⟩:=x;obtain⟨c,d⟩:=y;simp only[DP,qdb,Value.int.injEq,true_and,and_true]at h;rw[qc3];omega
def BIn(bs:List (Nat × Obj))(a:Option Addr)(c:Nat)(l:List UInt8):Prop:=∃full,OS a l.length c 1 full (l.map bv)/\∀x∈ent a 5 full,x∈bs
theorem BIn.mono{bs bs':List (Nat × Obj)}{a:Option Addr}{c:Nat}{l:List UInt8}(h:BIn bs a c l)(hs:∀x∈bs,x∈bs'):BIn bs' a c l:=by
 obtain⟨f,O,hb⟩:=h;exact⟨f,O,fun x hx=>hs x (hb x hx)⟩
theorem BIn.rd{w:World}{bs:List (Nat × Obj)}{a:Option Addr}{c:Nat}{l:List UInt8}(h:BIn bs a c l)(hb:∀x∈bs,w.heap[x.1]?=some x.2):Rd w a 1 B8 l/\l.length<=c:=by
 obtain⟨f,O,hs⟩:=h;exact⟨OS.rdB O fun x hx=>hb x (hs x hx),O.le⟩
abbrev JB(bl bm:Nat)(a:Option Addr)(n c:Nat):List Value:=[ptr bl,.map (some bm),.slice a n c]
abbrev FD(bk bl bm:Nat)(o:Obj)(a:Option Addr)(n c:Nat)(full:List Value):List (Nat × Obj):=(bk,Bl 91 (JB bl bm a n c))::(bm,o)::ent a 97 full
structure DkL(bk bl:Nat)(w0 w:World)(E:List (Nat × Obj))(m:Lm)(s:Ld)(T:Nat->Prop)(ls:List As)(bm:Nat)(o:Obj)(a:Option Addr)(oo c:Nat)(full:List Value)(bs:List (Nat × Obj)):Prop where
 L:Led bl w0 w (FD bk bl bm o a ls.length c full++(bs++E)) m s T
 M:NH DP (K3 ls) o
 O:OSo a oo ls.length c 2 full (Oj ls)
 lie:∀x∈ls,(BIn bs x.aA x.cA x.ask/\BIn bs x.aR x.cR x.rep)/\(x.ask.length<=1000/\x.rep.length<=1000)
 tur:∀x∈FD bk bl bm o a ls.length c full,T x.1
 few:ls.length<=32
def Dk(bk bl:Nat)(w0 w:World)(E:List (Nat × Obj))(m:Lm)(s:Ld)(T:Nat->Prop)(ls:List As):Prop:=∃bm o a oo c full bs,DkL bk bl w0 w E m s T ls bm o a oo c full bs
theorem Led.turnB{bl:Nat}{w0 w w':World}{B B' R:List (Nat × Obj)}{m:Lm}{s:Ld}{T:Nat->Prop}(L:Led bl w0 w (B++R) m s T)(hT:∀x∈B,T x.1)(H:Ctx w (B.map (·.1)) w' B'):Led bl w0 w' (B'++R) m s (fun x=>T x\/x∈B'.map (·.1)):=by
 have hold:∀x∈B'.map (·.1),T x\/w.heap.size<=x:=fun x hx=>by
  obtain⟨y,hy,rfl⟩:=qah.1 hx
  rcases H.own y hy with h|h
  .obtain⟨z,hz,hzy⟩:=qah.1 h;exact .inl (hzy ▸ hT z hz)
  .exact .inr h
 refine⟨?_,L.I.grow H.ext (fun x hx=>?_) ⟨fun x hx => .inl hx,fun x hx=>hx.elim .inl (hold x)⟩ fun x hx=>hx.elim (fun h=>qa7 (L.I.low x h) H.size) fun h=>?_,L.e⟩
 .have h1:=Ctx.back (L1:=B) (L2:=R++LL m s) (by have h:=L.H;rw[qas]at h;exact h) H;rw[qas];exact h1
 .obtain⟨y,hy,rfl⟩:=qah.1 hx;exact .inl (hT y hy)
 .obtain⟨y,hy,rfl⟩:=qah.1 h;exact Bd (H.blk y hy)
def Turns(T:Nat->Prop)(w w':World):Prop:=∃S,Ext S w w'/\∀x∈S,T x\/w.heap.size<=x
theorem Turns.of{T:Nat->Prop}{w w':World}{S:List Nat}(h:Ext S w w')(hS:∀x∈S,T x):Turns T w w':=⟨S,h,fun x hx => .inl (hS x hx)⟩
theorem Turns.of0{T:Nat->Prop}{w w':World}(h:Ext [] w w'):Turns T w w':=⟨[],h,fun x hx=>by cases hx⟩
theorem Turns.size{T:Nat->Prop}{w w':World}(h:Turns T w w'):w.heap.size<=w'.heap.size:=h.elim fun _ h=>h.1.size
theorem Turns.trans{T T':Nat->Prop}{w w1 w2:World}(h:Turns T w w1)(g:Grows T T' w)(k:Turns T' w1 w2):Turns T w w2:=by
 obtain⟨S,h1,h2⟩:=h;obtain⟨S',k1,k2⟩:=k;refine⟨S++S',(h1.mono fun x hx=>qao _ hx).trans (k1.mono fun x hx=>qaf _ hx),fun x hx=>(qbc.1 hx).elim (h2 x) fun hx=>(k2 x hx).elim (g.2 x) fun hx => .inr (qa6 h1.size hx)⟩
structure Cpy(x y:As)(B:List (Nat × Obj)):Prop where
 c:y.c=x.c
 n:y.n=x.n
 ask:y.ask=x.ask
 rep:y.rep=x.rep
 lie:∃fA fR,B=ent y.aA 5 fA++ent y.aR 5 fR/\OS y.aA y.ask.length y.cA 1 fA (y.ask.map bv)/\OS y.aR y.rep.length y.cR 1 fR (y.rep.map bv)
theorem Cpy.bin{x y:As}{B:List (Nat × Obj)}(h:Cpy x y B):BIn B y.aA y.cA y.ask/\BIn B y.aR y.cR y.rep:=by
 obtain⟨fA,fR,rfl,OA,OR⟩:=h.lie;exact⟨⟨fA,OA,fun z hz=>qao _ hz⟩,⟨fR,OR,fun z hz=>qaf _ hz⟩⟩
abbrev who1:List Value:=[.int .u32 0,.int .u64 0]
abbrev as0:Value := .agg #[.int .u32 0,.int .u64 0,.slice none 0 0,.slice none 0 0]
def KpJ(w1:World)(S:List Nat)(L0:List (Nat × Obj))(bm:Nat)(o:Obj)(a:Option Addr)(full:List Value)(ls:List As)(x:As):Nat->Env->World->Prop
 |0,_,w'=>Ctx w1 S w' (L0++[(bm,o)]++ent a 97 full)
 |1,e,w'=>∃y B,Cpy x y B/\e.g 17=.agg (asC y).toArray/\Ctx w1 S w' (B++(L0++[(bm,o)])++ent a 97 full)
 |2,e,w'=>∃y B a' oo' c' full',Cpy x y B/\e.g 17=.agg (asC y).toArray/\e.g 24=.slice a' (ls.length+1) c'/\OSo a' oo' (ls.length+1) c' 2 full' (Oj ls++DP (Dg x))/\Ctx w1 S w' (B++(L0++[(bm,o)])++ent a' 97 full')
 |3,e,w'=>∃y B a' oo' c' full' st oE,Cpy x y B/\e.g 17=.agg (asC y).toArray/\e.g 24=.slice a' (ls.length+1) c'/\OSo a' oo' (ls.length+1) c' 2 full' (Oj ls++DP (Dg x))/\e.g 25=.tuple #[as0,.int .i64 st]/\EntK DP (Dg x) st (K3 ls) oE/\Ctx w1 S w' (B++(L0++[(bm,oE)])++ent a' 97 full')
 |4,e,w'=>∃y B a' oo' c' full' st oE,Cpy x y B/\e.g 17=.agg (asC y).toArray/\e.g 24=.slice a' (ls.length+1) c'/\OSo a' oo' (ls.length+1) c' 2 full' (Oj ls++DP (Dg x))/\e.g 26=.int .i64 st/\EntK DP (Dg x) st (K3 ls) oE/\Ctx w1 S w' (B++(L0++[(bm,oE)])++ent a' 97 full')
 |_,e,w'=>∃y B a' oo' c' full' o',Cpy x y B/\e.g 24=.slice a' (ls.length+1) c'/\OSo a' oo' (ls.length+1) c' 2 full' (Oj ls++DP (Dg x))/\NH DP (K3 ls++[(Dg x,.agg (asC y).toArray)]) o'/\Ctx w1 S w' (B++(L0++[(bm,o')])++ent a' 97 full')
theorem Alb{w1:World}{S:List Nat}{L0:List (Nat × Obj)}{bm:Nat}{o:Obj}{a:Option Addr}{full:List Value}{ls:List As}{x:As}(k i:Nat)(v:Value)(e:Env)(w w':World)(hi:i∉[7,14,15,16,17])(h:KpJ w1 S L0 bm o a full ls x k e w)(hx:Ext [] w w'):KpJ w1 S L0 bm o a full ls x k (put e (some (10+i)) v) w':=by
 simp only[qai,qau,or_false,not_or]at hi;have h17:(put e (some (10+i)) v).g 17=e.g 17:=E3 fun h=>by(have h:(17:Nat)=10+i:=h;omega)
 have h24:(put e (some (10+i)) v).g 24=e.g 24:=E3 fun h=>by(have h:(24:Nat)=10+i:=h;omega)
 have h25:(put e (some (10+i)) v).g 25=e.g 25:=E3 fun h=>by(have h:(25:Nat)=10+i:=h;omega)
 have h26:(put e (some (10+i)) v).g 26=e.g 26:=E3 fun h=>by(have h:(26:Nat)=10+i:=h;omega)
 match k,h with
 |0,h=>exact h.call hx
 |1,⟨y,B,g1,g2,g3⟩=>exact⟨y,B,g1,h17.trans g2,g3.call hx⟩
 |2,⟨y,B,a',oo',c',full',g1,g2,g3,g4,g5⟩=>exact⟨y,B,a',oo',c',full',g1,h17.trans g2,h24.trans g3,g4,g5.call hx⟩
 |3,⟨y,B,a',oo',c',full',st,oE,g1,g2,g3,g4,g5,g6,g7⟩=>exact⟨y,B,a',oo',c',full',st,oE,g1,h17.trans g2,h24.trans g3,g4,h25.trans g5,g6,g7.call hx⟩
 |4,⟨y,B,a',oo',c',full',st,oE,g1,g2,g3,g4,g5,g6,g7⟩=>exact⟨y,B,a',oo',c',full',st,oE,g1,h17.trans g2,h24.trans g3,g4,h26.trans g5,g6,g7.call hx⟩
 |k+5,⟨y,B,a',oo',c',full',o',g1,g3,g4,g6,g7⟩=>exact⟨y,B,a',oo',c',full',o',g1,h24.trans g3,g4,g6,g7.call hx⟩
theorem Alc{w1:World}{S:List Nat}{L0:List (Nat × Obj)}{bm:Nat}{o:Obj}{a:Option Addr}{full:List Value}{ls:List As}{x:As}{k:Nat}{e:Env}{w:World}(h:KpJ w1 S L0 bm o a full ls x k e w):∀z∈L0,w.heap[z.1]?=some z.2:=by
 match k,h with
 |0,h=>exact fun z hz=>h.blk z (qao _ (qao _ hz))
 |1,⟨y,B,g1,g2,g3⟩=>exact fun z hz=>g3.blk z (qao _ (qaf _ (qao _ hz)))
 |2,⟨y,B,a',oo',c',full',g1,g2,g3,g4,g5⟩=>exact fun z hz=>g5.blk z (qao _ (qaf _ (qao _ hz)))
 |3,⟨y,B,a',oo',c',full',st,oE,g1,g2,g3,g4,g5,g6,g7⟩=>exact fun z hz=>g7.blk z (qao _ (qaf _ (qao _ hz)))
 |4,⟨y,B,a',oo',c',full',st,oE,g1,g2,g3,g4,g5,g6,g7⟩=>exact fun z hz=>g7.blk z (qao _ (qaf _ (qao _ hz)))
 |k+5,⟨y,B,a',oo',c',full',o',g1,g3,g4,g6,g7⟩=>exact fun z hz=>g7.blk z (qao _ (qaf _ (qao _ hz)))
def Ach:Value->World->Prop:=fun _ _=>True
theorem Lu(S:List Nat):Ada S Ach:=fun _ _ _ _ _=>trivial
theorem Aic{w0 w:World}{S:List Nat}{B L M R:List (Nat × Obj)}(H:Ctx w0 S w (B++(L++M)++R)):Ctx w0 S w ((B++L)++(M++R)):=by
 have h:(B++(L++M)++R)=((B++L)++(M++R)):=by simp only[qas]
 rw[<-h];exact H
theorem Z0{w0 w:World}{S:List Nat}{B L M R:List (Nat × Obj)}(H:Ctx w0 S w ((B++L)++(M++R))):Ctx w0 S w (B++(L++M)++R):=by
 have h:(B++(L++M)++R)=((B++L)++(M++R)):=by simp only[qas]
 rw[h];exact H
structure KpZ where
 a:Option Addr
 oo:Nat
 c:Nat
 full:List Value
 o:Obj
 y:As
 B:List (Nat × Obj)
theorem OSo.head{w:World}{b o n c s p:Nat}{full e l:List Value}{t:TypeId}(h:OSo (some ⟨b,o*s,none⟩) o n c s full (e++l))(hb:w.heap[b]?=some (Bl t full))(hp:p=o*s):∀j v,e[j]?=some v->w.cell? ⟨b,p+j,none⟩=some v:=fun j v hv=>by
 rw[hp];exact h.cell hb (by rw[qcb (qa8.1 hv).1];exact hv)
theorem Aci(x:As)(ls:List As):Oj (x::ls)=DP (Dg x)++Oj ls:=rfl
theorem W1{bk bl:Nat}{w0 w1 w:World}{E:List (Nat × Obj)}{m:Lm}{s:Ld}{T:Nat->Prop}{ls:List As}{bm:Nat}{o:Obj}{a:Option Addr}{oo c:Nat}{full:List Value}{bs:List (Nat × Obj)}(D:DkL bk bl w0 w1 E m s T ls bm o a oo c full bs){x y:As}{B:List (Nat × Obj)}{o9:Obj}{a9:Option Addr}{oo9 n9 c9:Nat}{full9:List Value}{ls9:List As}(H:Ctx w1 ((FD bk bl bm o a ls.length c full).map (·.1)) w (FD bk bl bm o9 a9 n9 c9 full9++B))(hC:Cpy x y B)(hn:n9=ls9.length)(O:OSo a9 oo9 ls9.length c9 2 full9 (Oj ls9))(M:NH DP (K3 ls9) o9)(hsub:∀z∈ls9,z∈ls\/z=y)(hA:x.ask.length<=1000)(hR:x.rep.length<=1000)(hfew:ls9.length<=32:=by omega):∃T',Dk bk bl w0 w E m s T' ls9/\Grows T T' w1/\Turns T w1 w:=by
 subst hn;have hL:=Led.turnB D.L D.tur H;refine⟨fun z=>T z\/z∈(FD bk bl bm o9 a9 ls9.length c9 full9++B).map (·.1),⟨bm,o9,a9,oo9,c9,full9,B++bs,⟨?_,M,O,fun z hz=>?_,fun z hz=>?_,hfew⟩⟩,⟨fun z hz => .inl hz,fun z hz=>hz.elim .inl fun hz=>?_⟩,Turns.of H.ext fun z hz=>?_⟩
 .have h:=hL;simp only[qas]at h |-;exact h
 .rcases hsub z hz with h|rfl
  .obtain⟨⟨h1,h2⟩,h3⟩:=D.lie z h;exact⟨⟨h1.mono fun q hq=>qaf _ hq,h2.mono fun q hq=>qaf _ hq⟩,h3⟩
  .obtain⟨h1,h2⟩:=hC.bin;exact⟨⟨h1.mono fun q hq=>qao _ hq,h2.mono fun q hq=>qao _ hq⟩,by rw[hC.ask];exact hA,by rw[hC.rep];exact hR⟩
 .exact .inr (qah.2 ⟨z,qao _ hz,rfl⟩)
 .obtain⟨q,hq,rfl⟩:=qah.1 hz
  rcases H.own q hq with h|h
  .obtain⟨r,hr,hrq⟩:=qah.1 h;exact .inl (hrq ▸ D.tur r hr)
  .exact .inr h
 .obtain⟨r,hr,hrq⟩:=qah.1 hz;exact hrq ▸ D.tur r hr
theorem Ald{bk bl:Nat}{w0 w:World}{E:List (Nat × Obj)}{m:Lm}{s:Ld}{T:Nat->Prop}{ls:List As}{bm:Nat}{o:Obj}{a:Option Addr}{oo c:Nat}{full:List Value}{bs:List (Nat × Obj)}(D:DkL bk bl w0 w E m s T ls bm o a oo c full bs)(x:As)(X:∀w',Ext ((FD bk bl bm o a ls.length c full).map (·.1)) w w'->AsR w' x)(hA:x.ask.length<=1000)(hR:x.rep.length<=1000)(hf:FR ls (Dg x)=none) :
  Ret prog 59 #[ptr bk,.agg (asC x).toArray] w fun v w'=>v=.tuple #[]/\∃T' y,y.c=x.c/\y.n=x.n/\y.ask=x.ask/\y.rep=x.rep/\Dk bk bl w0 w' E m s T' (Pi ls y)/\Grows T T' w/\Turns T w w':=by
 obtain⟨w1,rfl⟩:=qD w;obtain⟨S,hS⟩:=qD ((FD bk bl bm o a ls.length c full).map (·.1))
 have H:Ctx w1 S w1 (FD bk bl bm o a ls.length c full):=by
  rw[hS];exact Ctx.lend (L1:=FD bk bl bm o a ls.length c full) (L2:=(bs++E)++LL m s) (by have h:=D.L.H;rw[qas]at h;exact h)
 rw[<-hS]at X;have hSe:∀z,z∈(ent a 97 full).map (·.1)->z∈S:=fun z hz=>by rw[hS];exact qaj _ (qaj _ hz)
 have hSm:∀z,z∈[bm]->z∈S:=fun z hz=>by rw[hS,qab.1 hz];exact qaj _ (qak ..)
 have hw1:∀z∈S,z<w1.heap.size:=fun z hz=>by
  rw[hS]at hz;obtain⟨q,hq,rfl⟩:=qah.1 hz;exact Bd (H.blk q hq)
 have hnone:GS (K3 ls) (Dg x)=none:=by rw[W0,hf];rfl
 have hfew:=D.few;refine Au (fn:=f59) func59 U [ptr bk,.agg (asC x).toArray] U (Ae (Bu (asC x) (.agg _) U U H ?_));rintro b3 w - H;refine qA (Ae (Ah TQ U (AG Yy U H at0 U (Ah TR U (AG B6 U H at0 U (BA (DP (Dg x)) Ael OJ ?_))))));refine Bc OJ H ?_;rintro b4 w - H;refine Bn HQ U U U (by exact(by simp[AY])) H at0 U ?_;rintro w H;refine qA ?_;replace H:Ctx w1 S w ([(b4,Bl 97 (DP (Dg x))),(b3,Bl 99 (asC x)),(bk,Bl 91 (JB bl bm a ls.length c))]++[(bm,o)]++ent a 97 full):=H;have hsz:∀q∈S,q<w.heap.size:=fun q hq=>qa7 (hw1 q hq) H.size
 refine DV 536869888 (α:=KpZ) (fun _=>[]) (fun z w'=>Ctx w1 S w' (z.B++([(b4,Bl 97 (DP (Dg x))),(b3,Bl 99 (asC x))]++([(bk,Bl 91 (JB bl bm z.a (ls.length+1) z.c)),(bm,z.o)]++ent z.a 97 z.full)))/\Cpy x z.y z.B/\OSo z.a z.oo (ls.length+1) z.c 2 z.full (Oj ls++DP (Dg x))/\NH DP (K3 ls++[(Dg x,.agg (asC z.y).toArray)]) z.o) U ?_ ?_
 .skip
  refine Adb (n:=18) (N:=21) (anc:=Ac9 18 [[],[0],[0,1],[0,1,2],[],[],[],[6],[],[8],[8,9],[8,9,10],[],[12],[6,7,8,9,10,11,12,13],[0,1,2,3,4,6,7,8,9,10,11,12,13,14],[0,1,2,3,4,6,7,8,9,10,11,12,13,14,15],[0,1,2,3,4,6,7,8,9,10,11,12,13,14,15,16]]) S (fun i=>if i=17 then 999 else 10+i) [isV (ptr bk),isV (ptr bk),isV (.pointer (some ⟨bk,0+1,none⟩)),isV (.map (some bm)),isV (.agg (DP (Dg x)).toArray),isV (ptr bk),isV (.agg (asC x).toArray),Ach,isV (ptr bk),isV (ptr bk),isV (.pointer (some ⟨bk,0+2,none⟩)),isV (.slice a ls.length c),isV (.agg (DP (Dg x)).toArray),nsV w 97 1 (DP (Dg x)),Ach,Ach,Ach,Ach] [7,14,15,16,17] (KpJ w1 S [(b4,Bl 97 (DP (Dg x))),(b3,Bl 99 (asC x)),(bk,Bl 91 (JB bl bm a ls.length c))] bm o a full ls x) (show Tryz.prog.follows .mixedOrders=true by kernel_rfl) U (NJ _) (fun i j _ _ h=>by have h:(if i=17 then 999 else 10+i:Nat)=(if j=17 then 999 else 10+j:Nat):=h;split at h <;> split at h <;> omega) ⟨Gj _ _,Gj _ _,Gj _ _,Gj _ _,Gj _ _,Gj _ _,Gj _ _,Lu _,Gj _ _,Gj _ _,Gj _ _,Gj _ _,Gj _ _,Ai7 hsz _ _ _,Lu _,Lu _,Lu _,Lu _,trivial⟩ (fun k i v e w w' hi hic h hx=>by have h17:i≠17:=fun h=>hic (by rw[h];decide);show KpJ _ _ _ _ _ _ _ _ _ _ (put e (some (if i=17 then 999 else 10+i)) v) w';rw[if_neg h17];exact Alb k i v e w w' hic h hx) H.drew ?_ ?_ ?_
  .rintro q o' e' w' hq hic ho hold hg hx ⟨k,HJ⟩;have hin:∀t:Nat,t<10->∀j,j<18->t≠(fun i=>if i=17 then 999 else 10+i) j:=fun t ht j hj=>by dsimp only;split <;> omega
   have g0:e'.g 0=ptr bk:=(hold 0 (hin 0 (by decide))).trans rfl;have g3:e'.g 3=ptr b3:=(hold 3 (hin 3 (by decide))).trans rfl;have g4:e'.g 4=ptr b4:=(hold 4 (hin 4 (by decide))).trans rfl;have hJb:=Alc HJ;have hbk:=hJb (bk,_) (qaj _ (qaj _ (qak ..)));have hb3:=hJb (b3,_) (qaj _ (qak ..));have hb4:=hJb (b4,_) (qak ..);have hcs:q=0\/q=1\/q=2\/q=3\/q=4\/q=5\/q=6\/q=7\/q=8\/q=9\/q=10\/q=11\/q=12\/q=13\/q=14\/q=15\/q=16\/q=17:=by omega
   rcases hcs with rfl|rfl|rfl|rfl|rfl|rfl|rfl|rfl|rfl|rfl|rfl|rfl|rfl|rfl|rfl|rfl|rfl|rfl
   .cases qag ho;exact C7 _ g0 (Ab ⟨_,.refl _ _,rfl,rfl⟩)
   .cases qag ho;exact A9 (hg 0 (by decide)) (Ab ⟨_,.refl _ _,rfl,rfl⟩)
   .cases qag ho;exact Ah (off:=1) (by kernel_rfl) (hg 1 (by decide)) (Ab ⟨_,.refl _ _,rfl,rfl⟩)
   .cases qag ho;exact Bb Yz (hg 2 (by decide)) (show w'.cell? ⟨bk,0+1,none⟩=some (.map (some bm))by rw[Aj hbk];rfl) (Ab ⟨_,.refl _ _,rfl,rfl⟩)
   .cases qag ho;exact C9 (DP (Dg x)) OC HQ g4 U (CX (b:=b4) (t:=97) (l:=DP (Dg x)) hb4 0 (DP (Dg x)) U) (Ab ⟨_,.refl _ _,rfl,rfl⟩)
   .cases qag ho;exact C7 _ g0 (Ab ⟨_,.refl _ _,rfl,rfl⟩)
   .cases qag ho;exact C9 (asC x) Adi Ix g3 U (CX (b:=b3) (t:=99) (l:=asC x) hb3 0 (asC x) U) (Ab ⟨_,.refl _ _,rfl,rfl⟩)
   .exact absurd (by decide) hic
   .cases qag ho;exact C7 _ g0 (Ab ⟨_,.refl _ _,rfl,rfl⟩)
   .cases qag ho;exact A9 (hg 8 (by decide)) (Ab ⟨_,.refl _ _,rfl,rfl⟩)
   .cases qag ho;exact Ah (off:=2) (by kernel_rfl) (hg 9 (by decide)) (Ab ⟨_,.refl _ _,rfl,rfl⟩)
   .cases qag ho;exact Bb Vm (hg 10 (by decide)) (show w'.cell? ⟨bk,0+2,none⟩=some (.slice a ls.length c)by rw[Aj hbk];rfl) (Ab ⟨_,.refl _ _,rfl,rfl⟩)
   .cases qag ho;exact C9 (DP (Dg x)) OC HQ g4 U (CX (b:=b4) (t:=97) (l:=DP (Dg x)) hb4 0 (DP (Dg x)) U) (Ab ⟨_,.refl _ _,rfl,rfl⟩)
   .cases qag ho;refine Cp (DP (Dg x)) (.agg (DP (Dg x)).toArray) OE HQ OJ U (hg 12 (by decide)) U U (Ctx.start w' []) ?_;intro b13 w2 hb13 H13;exact Ab ⟨_,H13.ext,rfl,b13,rfl,H13.get at0,by rw[<-hb13];exact qa6 (Ext.drew [] w).size hx.size⟩
   .exact absurd (by decide) hic
   .exact absurd (by decide) hic
   .exact absurd (by decide) hic
   .exact absurd (by decide) hic
  .intro k i o' e' w' hk ho hold hg hx HJ
   rcases k with _|_|_|_|_|k
   .cases hk;cases qag ho;have HJ':Ctx w1 S w' ([(b4,Bl 97 (DP (Dg x))),(b3,Bl 99 (asC x)),(bk,Bl 91 (JB bl bm a ls.length c))]++[(bm,o)]++ent a 97 full):=HJ;refine Al qB (Aht x _ (X _ HJ'.ext)) ?_ ?_
    .show[e'.g 16]=_;rw[show e'.g 16=.agg (asC x).toArray from hg 6 (by decide)]
    .rintro v w2 ⟨y,B,rfl,O⟩;have H5:=Ctx.back (L1:=[]) (L2:=[(b4,Bl 97 (DP (Dg x))),(b3,Bl 99 (asC x)),(bk,Bl 91 (JB bl bm a ls.length c))]++[(bm,o)]++ent a 97 full) HJ' O.H;rw[<-qas]at H5;exact Ab ⟨_,O.H.ext.mono (by simp),rfl,trivial,y,B,⟨O.c,O.n,O.ask,O.rep,O.lie⟩,Fc _ _ _,H5⟩
   .cases hk;cases qag ho;obtain⟨y,B,g1,g2,g3⟩:=HJ;obtain⟨b13,h13,hb13,-⟩:=hg 13 (by decide);have HL:=Ctx.lend (L1:=ent a 97 full) g3.comm;refine Xd (L:=[]) U OE OE HQ by_97 OJ U (hg 11 (by decide)) h13 HL D.O (new:=DP (Dg x)) U (by simp[AY]) (fun j v hv=>⟨_,rfl,by rw[Go.GV.add_none,qaz,Aj hb13];exact hv⟩) ?_;intro a' o9 c' full' w2 H2 O2;have H3:=(Ctx.back (L1:=ent a 97 full) g3.comm H2).comm;exact Ab ⟨_,H2.ext.mono hSe,rfl,trivial,y,B,a',o9,c',full',g1,(E3 (by decide)).trans g2,Fc _ _ _,O2,H3⟩
   .cases hk;cases qag ho;obtain⟨y,B,a',oo',c',full',g1,g2,g3,g4,g5⟩:=HJ;have G5:=Aic g5;refine TH (Dg x) (z:=as0) U keyW YC Aeq (hg 3 (by decide)) (hg 4 (by decide)) (Ctx.in' G5) at0 D.M hnone ?_;intro st oE w2 hE H2;have H3:=Z0 (Ctx.mid G5 H2);exact Ab ⟨_,H2.ext.mono hSm,rfl,trivial,y,B,a',oo',c',full',st,oE,g1,(E3 (by decide)).trans g2,(E3 (by decide)).trans g3,g4,Fc _ _ _,hE,H3⟩
   .cases hk;cases qag ho;obtain⟨y,B,a',oo',c',full',st,oE,g1,g2,g3,g4,g5,g6,g7⟩:=HJ;exact AH g5 U (Ab ⟨_,.refl _ _,rfl,trivial,y,B,a',oo',c',full',st,oE,g1,(E3 (by decide)).trans g2,(E3 (by decide)).trans g3,g4,Fc _ _ _,g6,g7⟩)
   .cases hk;cases qag ho;obtain⟨y,B,a',oo',c',full',st,oE,g1,g2,g3,g4,g5,g6,g7⟩:=HJ;have G7:=Aic g7;refine Ql (.agg (asC y).toArray) U (hg 3 (by decide)) g5 g2 (Ctx.in' G7) at0 g6 ?_;intro o9 w2 hM H2;have H3:=Z0 (Ctx.mid G7 H2);exact Ab ⟨e'.g 999,H2.ext.mono hSm,(G3 U).symm,trivial,y,B,a',oo',c',full',o9,g1,g3,g4,hM,H3⟩
   .simp at hk
  .intro e' w' hds hold hg hx HJ;obtain⟨y,B,a',oo',c',full',o9,g1,g3,g4,hM,g7⟩:=HJ
   have G7:Ctx w1 S w' ((B++[(b4,Bl 97 (DP (Dg x))),(b3,Bl 99 (asC x))])++([(bk,Bl 91 (JB bl bm a ls.length c))]++([(bm,o9)]++ent a' 97 full'))):=by
    have h:=g7;simp only[qas,qck,qca]at h |-;exact h
   refine A9 (hg 5 (by decide)) (Ah (off:=2) (by kernel_rfl) (Fc _ _ _) ?_);refine Cb (.slice a' (ls.length+1) c') Amg (Fc _ _ _) (((E3 (by decide)).trans (E3 (by decide))).trans g3) U (Ctx.in' G7) at0 (by show 0+2<3;decide) fun w4 H8=>Ab ?_;refine⟨⟨a',oo',c',full',o9,y,B⟩,hds,trivial,?_,g1,g4,hM⟩;have H9:=Ctx.mid G7 H8;simp only[qas,qck,qca]at H9 |-;exact H9
 .rintro⟨a9,oo9,c9,full9,o9,y,B⟩ j2 w ⟨H,hC,O,M⟩;dsimp only at H hC O M;(try dsimp only);have hcE:Dg y=Dg x:=by unfold Dg;rw[hC.c,hC.n]
  have G0:Ctx w1 S w (([(b4,Bl 97 (DP (Dg x))),(b3,Bl 99 (asC x))]++((bk,Bl 91 (JB bl bm a9 (ls.length+1) c9))::(bm,o9)::ent a9 97 full9))++B):=by
   have h:=H.comm;simp only[qck,qca]at h |-;exact h
  replace H:Ctx w1 S w ((b4,Bl 97 (DP (Dg x)))::(b3,Bl 99 (asC x))::(bk,Bl 91 (JB bl bm a9 (ls.length+1) c9))::(bm,o9)::(ent a9 97 full9++B)):=by
   have h:=G0;simp only[qck,qca]at h |-;exact h
  clear G0;rw[<-hcE,<-Aib]at O;rw[<-hcE,<-Ah9]at M;have hlen:(ls++[y]).length=ls.length+1:=qat ..;refine Ae (A4 U (A9 U (Ah MU U (AG Vm U H at2 U (Be OE U (C8 U U (qA (Aw _ U ?_ ?_))))))))
  .intro h1;replace h1:=AM h1;have hl32:ls.length=32:=by omega
   obtain⟨x0,ls',rfl⟩:∃x0 ls',ls=x0::ls':=by
    cases ls with
    |nil=>exact absurd hl32 (by decide)
    |cons a l=>exact⟨a,l,rfl⟩
   obtain⟨ba,rfl⟩:∃ba,a9=some ⟨ba,oo9*2,none⟩:=by
    cases a9 with
    |none=>exact absurd (O.none' rfl).1 (by have:=O.le;omega)
    |some p=>exact⟨p.block,by rw[<-O.pos p rfl]⟩
   have hc9:33<=c9:=by have:=O.le;omega
   refine Ej 10 Br U U (BE U (AZ U (A6 TO U (Cj Yz U (by rintro _ rfl;exact H.drew) at2 U ?_))));refine BE U (AZ U (A6 MU U (Cj Vm U (by rintro _ rfl;exact H.drew) at2 U ?_)));refine Bi OE HQ U U ?_;refine G8 _ OC HQ U U (by rintro _ rfl;exact((OSo.head (by have h:=O;rw[qck,Aci]at h;exact h) (H.drew.get at4) (by simp)))) ?_;refine BS ?_;replace H:=H.drew;refine Xc (Dg x0) U keyW YC U U H at3 M ?_;rintro o10 w hM10 H;refine qA (A0 (A4 U (A4 U (A9 U (Ah MU U (AG Vm U H at2 U (Ow U OE HQ U U ?_)))))));refine A9 U (Ah MU U (Cb (.slice _ _ _) Amg U U U H at2 (by(simp;done)) ?_));rintro w H;refine Ab (CV U U ?_);rw[qck,Aia]at hM10
   have hcut:MG (some ⟨ba,oo9*2,none⟩) c9 1 2=some ⟨ba,oo9*2+1*2,none⟩:=by
    unfold MG;rw[if_neg (by omega)];simp[Go.GV.add_none]
   have O9:=OSo.cut (n:=(x0::ls').length) O (by omega);rw[hcut]at O9;have h32:(ls'++[y]).length=32:=by rw[qat];exact hl32
   obtain⟨T',h1,h2⟩:=W1 (ls9:=ls'++[y]) (B:=B) (oo9:=oo9+1) (c9:=c9 - 1) (n9:=(x0::ls').length) (a9:=some ⟨ba,oo9*2+1*2,none⟩) (full9:=full9) (o9:=o10) D (by rw[<-hS];have h:=H.tail.tail;rw[show Int.toNat 1=1 from rfl,hcut]at h;exact h) hC (by rw[h32];exact hl32) (by rw[h32,<-hl32];exact O9) hM10 (fun z hz=>(qbc.1 hz).elim (fun h => .inl (qaj _ h)) fun h => .inr (qab.1 h)) hA hR;refine⟨rfl,T',y,hC.c,hC.n,hC.ask,hC.rep,?_,h2⟩;rw[Pi,if_neg (by omega)];exact h1
  .intro h1;replace h1:=AN h1;refine Ay (CV U U ?_);obtain⟨T',h2,h3⟩:=W1 (ls9:=ls++[y]) D (by rw[<-hS];exact H.tail.tail) hC hlen.symm (by rw[hlen];exact O) M (fun z hz=>(qbc.1 hz).elim .inl fun h => .inr (qab.1 h)) hA hR;refine⟨rfl,T',y,hC.c,hC.n,hC.ask,hC.rep,?_,h3⟩;rw[Pi,if_pos (by omega)];exact h2
theorem Hy{l:List Int}{e:Int}(he:0<=e/\e<=255)(hl:l.length<=29):(0<=(rp l e).e/\(rp l e).e<=255)/\(rp l e).n.length<=29:=by
 unfold rp
 split
 .exact⟨by dsimp only;omega,hl⟩
 .exact⟨he,by dsimp only;rw[List.length_nil];omega⟩
def M6(p:Rp):Prop:=(0<=p.e/\p.e<=255)/\p.n.length<=29
theorem Dz{c:Prop}[Decidable c]{p q:Rp}(h1:M6 p)(h2:M6 q):M6 (if c then p else q):=by
 split
 .exact h1
 .exact h2
theorem Jd{l:List Int}(h:l.length<=29):M6 ⟨0,l⟩:=⟨⟨qa3 0,(by decide:(0:Int)<=255)⟩,h⟩
theorem Hh{e:Int}(h:0<=e/\e<=255:=by decide):M6 ⟨e,[]⟩:=⟨h,(by decide:0<=29)⟩
def Nz(e:Int):Prop:=0<=e/\e<=255
theorem FM{c:Prop}[Decidable c]{p q:Int}(h1:Nz p)(h2:Nz q):Nz (if c then p else q):=by
 split
 .exact h1
 .exact h2
theorem E8{e:Int}(h:0<=e/\e<=255:=by decide):Nz e:=h
theorem W3(ds:List Du)(k:Int)(b:Bool):Nz (LM ds k b):=by
 unfold LM
 cases CQ ds k with
 |none=>exact(E8:Nz 11)
 |some d=>exact FM E8 E8
theorem Aid(ds:List Du)(k:Int):Nz (Pp ds k):=by
 unfold Pp
 cases CQ ds k with
 |none=>exact(E8:Nz 11)
 |some d=>exact(E8:Nz 0)
theorem Rj{s s':Ld}{k:Ak}{p:Rp}(h:CN s k s' p):(0<=p.e/\p.e<=255)/\p.n.length<=29:=by
 by_cases hk:k.kd=10\/k.kd=11
 .unfold CN at h;rw[if_pos hk]at h
  rcases h with⟨-,-,rfl⟩|⟨-,r,-,-,rfl⟩
  .exact Hh
  .exact Jd (by decide:3<=29)
 .obtain⟨-,rfl⟩:=Wz h hk;show M6 (FC s k);unfold FC;refine Dz (Hy (FM E8 E8) (by decide:1<=29)) ?_;refine Dz (Hy (by unfold GH;exact FM E8 (FM E8 (FM E8 E8))) (by decide:2<=29)) ?_;refine Dz (Hy (by unfold Gg;exact FM E8 (FM E8 (FM E8 E8))) (by decide:2<=29)) ?_;refine Dz (Hy (by unfold M1;exact FM E8 (FM E8 E8)) (by decide:2<=29)) ?_;refine Dz (Dz (Hh) (Dz (Hh) (Hy (by unfold J8;exact FM E8 (FM E8 (FM E8 E8))) (by decide:1<=29)))) ?_;refine Dz (Hy (W3 _ _ _) (by decide:0<=29)) (Dz (Hy (W3 _ _ _) (by decide:0<=29)) ?_);refine Dz (Hy (Aid _ _) (by decide:0<=29)) (Dz (Dz (Hh) (Jd (by decide:1<=29))) ?_);refine Dz (Dz (Jd (by decide:2<=29)) (Hh)) (Dz (Dz (Jd (by decide:1<=29)) (Hh)) ?_);refine Dz ?_ (Dz ?_ (Hh))
  .cases CQ s.ds k.id with
   |none=>exact Hh
   |some d=>exact Jd (by decide:6<=29)
  .cases Uz s k.id with
   |none=>exact Hh
   |some r =>
    show M6 (Kh r k.b);unfold Kh;exact Dz (Hh) (Dz (Jd (by decide:5<=29)) (Dz (Jd (by decide:1<=29)) (Jd (by decide:6<=29))))
theorem Aq9{w:World}(a b:Option Addr)(c d n m:Nat)(x y:List UInt8)(Rx:Rd w a 1 B8 x)(Ry:Rd w b 1 B8 y)(hn:x.length=n)(hm:y.length=m) :
  Ret prog 57 #[.slice a n c,.slice b m d] w fun v w'=>v=.bool (decide (x=y))/\w=w':=by
 subst hn hm;refine Au (fn:=f57) func57 U [.slice a x.length c,.slice b y.length d] U (Ae (Ai U (qA (Ae (Ap U (JJ (l:=x) De Hr NO U Rx ?_))))));refine Ap U (JJ (l:=y) De Hr NO U Ry ?_);refine UP (l:=x) (m:=y) U U U (Ai U (qA (A5 (AB (v:=(.bool _)) U U U ?_))));exact⟨rfl,rfl⟩
theorem Aie{n:Nat}(h:n<18446744073709551616):I64 (sgN 9223372036854775808 n):=by
 unfold sgN I64
 split <;> omega
theorem Ale(l:List UInt8):AkIn (Ig l):=by
 have h1:=Abt l 12;have h2:=Abt l 13;have h3:=Rh (CU l 14 2) (RM l 14);have h4:=Aie (Wc l 16);have h5:=RM l 24;have h6:=Aie (Wc l 26);have h7:=Wc l 34;unfold I64 at h4 h6;refine⟨?_,?_,?_,?_,?_,?_,?_⟩ <;> (unfold Ig;dsimp only) <;> (try unfold I64) <;> omega
theorem XZ{l:List UInt8}(h:DZ l=true):gaK l=Ig l/\gaE l=0/\gaC l=CU l 0 4/\gaN l=CU l 4 8:=by
 unfold gaK gaE gaC gaN;rw[h];exact⟨rfl,rfl,rfl,rfl⟩
theorem U6{l:List UInt8}(h:DZ l=false):gaE l=5:=by
 unfold gaE;rw[h];rfl
def HV(s:Ld)(ls:List As)(l:List UInt8)(s':Ld)(ls':List As)(r:List UInt8):Prop :=
 if DZ l=false then s'=s/\ls'=ls/\r=Kg 0 0 5 []
 else match FR ls (gaC l,gaN l)with
  |some x=>s'=s/\ls'=ls/\r=if x.ask=l then x.rep else Kg (gaC l) (gaN l) 15 []
  |none=>∃p y,CN s (Ig l) s' p/\r=Kg (gaC l) (gaN l) p.e p.n/\y.c=gaC l/\y.n=gaN l/\y.ask=l/\y.rep=r/\ls'=Pi ls y
theorem Led.right{bl:Nat}{w0 w:World}{X B:List (Nat × Obj)}{m:Lm}{s:Ld}{T:Nat->Prop}(L:Led bl w0 w (X++B) m s T):Led bl w0 w B m s T:=⟨by have h:=L.H;rw[qas]at h;exact h.right,L.I,L.e⟩
theorem Led.in2{bl:Nat}{w0 w:World}{F D R E:List (Nat × Obj)}{m:Lm}{s:Ld}{T:Nat->Prop}(L:Led bl w0 w (F++(D++(R++E))) m s T):Led bl w0 w (D++(R++(F++E))) m s T:=by
 refine⟨L.H.perm ?_,L.I,L.e⟩;refine List.Perm.append_right _ (qcv.trans ?_);rw[qas,qas];exact qbs _ (qbs _ qcv)
theorem DkL.next{bk bl:Nat}{w0 w w':World}{E F:List (Nat × Obj)}{m:Lm}{s:Ld}{T:Nat->Prop}{ls:List As}{bm:Nat}{o:Obj}{a:Option Addr}{oo c:Nat}{full:List Value}{bs:List (Nat × Obj)}(D:DkL bk bl w0 w E m s T ls bm o a oo c full bs)(H:Ctx w [] w' F):DkL bk bl w0 w' (F++E) m s T ls bm o a oo c full bs :=
 ⟨(D.L.next H).in2,D.M,D.O,D.lie,D.tur,D.few⟩
theorem DkL.call{bk bl:Nat}{w0 w w':World}{E:List (Nat × Obj)}{m:Lm}{s:Ld}{T:Nat->Prop}{ls:List As}{bm:Nat}{o:Obj}{a:Option Addr}{oo c:Nat}{full:List Value}{bs:List (Nat × Obj)}(D:DkL bk bl w0 w E m s T ls bm o a oo c full bs)(hx:Ext [] w w'):DkL bk bl w0 w' E m s T ls bm o a oo c full bs :=
 ⟨D.L.call hx,D.M,D.O,D.lie,D.tur,D.few⟩
theorem DkL.own{bk bl:Nat}{w0 w:World}{E:List (Nat × Obj)}{m:Lm}{s:Ld}{T:Nat->Prop}{ls:List As}{bm:Nat}{o:Obj}{a:Option Addr}{oo c:Nat}{full:List Value}{bs:List (Nat × Obj)}(D:DkL bk bl w0 w E m s T ls bm o a oo c full bs):∀x∈FD bk bl bm o a ls.length c full++(bs++E),w.heap[x.1]?=some x.2 :=
 fun x hx=>D.L.H.blk x (qao _ hx)
theorem Led.offB{bl:Nat}{w0 w w':World}{B R:List (Nat × Obj)}{m:Lm}{s:Ld}{T:Nat->Prop}(L:Led bl w0 w (B++R) m s T)(hx:Ext (B.map (·.1)) w w'):∀x∈R,w'.heap[x.1]?=some x.2:=fun x h=>by
 have H:=L.H;rw[qas]at H;refine hx.to (H.blk x (qaf _ (qao _ h))) fun hm=>?_;obtain⟨y,hy,hyx⟩:=qah.1 hm;exact(qcd.1 H.nd).2.2 y hy x (qao _ h) hyx
abbrev asZ:As:=⟨0,0,[],[],none,0,none,0⟩
theorem W4(ls:List As)(k:Nat × Nat):(GS (K3 ls) k).getD as0=.agg (asC ((FR ls k).getD asZ)).toArray/\(GS (K3 ls) k).isSome=(FR ls k).isSome:=by
 rw[W0]
 cases FR ls k with
 |none=>exact⟨rfl,rfl⟩
 |some x=>exact⟨rfl,rfl⟩
theorem N0{ls:List As}{k:Nat × Nat}{x:As}(h:FR ls k=some x):x∈ls/\Dg x=k:=by
 unfold FR at h;have h2:=List.find?_some (p:=fun x=>decide (Dg x=k)) h;exact⟨List.mem_of_find?_eq_some h,qba h2⟩
def Z3(bk bl:Nat)(w0 w w':World)(E:List (Nat × Obj))(s:Ld)(T:Nat->Prop)(ls:List As)(l:List UInt8)(v:Value):Prop :=
 ∃r a c full m' s' T' ls',v=.slice a r.length c/\OS a r.length c 1 full (r.map bv)/\HV s ls l s' ls' r/\Dk bk bl w0 w' (ent a 5 full++E) m' s' T' ls'/\Grows T T' w/\Turns T w w'
theorem GK{w w':World}{v:Value}{r:List UInt8}(F:Fresh w w' 5 1 v (r.map bv)):∃a c full,v=.slice a r.length c/\OS a r.length c 1 full (r.map bv)/\Ctx w [] w' (ent a 5 full):=by
 obtain⟨a,n,c,full,rfl,O,h⟩:=F.ex;obtain rfl:n=r.length:=by have:=O.llen;rw[qal]at this;omega
 exact⟨a,c,full,rfl,O,by have:=(Ctx.start w []).callEnt F.ext h Fu;rw[qca]at this;exact this⟩
theorem DkL.fin{bk bl:Nat}{w0 w1 w w':World}{E:List (Nat × Obj)}{m:Lm}{s:Ld}{T:Nat->Prop}{ls:List As}{bm:Nat}{o:Obj}{a:Option Addr}{oo c:Nat}{full:List Value}{bs:List (Nat × Obj)}(D:DkL bk bl w0 w1 E m s T ls bm o a oo c full bs){l r:List UInt8}{a':Option Addr}{c':Nat}{full':List Value}(hx:Ext [] w1 w)(O:OS a' r.length c' 1 full' (r.map bv))(H:Ctx w [] w' (ent a' 5 full'))(h:HV s ls l s ls r):Z3 bk bl w0 w1 w' E s T ls l (.slice a' r.length c') :=
 ⟨r,a',c',full',m,s,T,ls,rfl,O,h,⟨bm,o,a,oo,c,full,bs,(D.call hx).next H⟩,Grows.refl _ _,.of0 (hx.trans H.ext)⟩
theorem Aif{bk bl:Nat}{w0 w:World}{E:List (Nat × Obj)}{m:Lm}{s:Ld}{T:Nat->Prop}{ls:List As}{bm:Nat}{o:Obj}{a:Option Addr}{oo c:Nat}{full:List Value}{bs:List (Nat × Obj)}(D:DkL bk bl w0 w E m s T ls bm o a oo c full bs){ab:Option Addr}{cb:Nat}{l:List UInt8}(hB:BIn E ab cb l)(hl:l.length<=1000) :
  Ret prog 17 #[ptr bk,.slice ab l.length cb] w fun v w'=>Z3 bk bl w0 w w' E s T ls l v:=by
 obtain⟨w1,rfl,H⟩:=qE w;have hbk:w1.heap[bk]?=some (Bl 91 (JB bl bm a ls.length c)):=D.own (bk,_) (qak ..);have hbm:w1.heap[bm]?=some o:=D.own (bm,_) (qaj _ (qak ..));have hE:∀x∈E,w1.heap[x.1]?=some x.2:=fun x hx=>D.own x (qaf _ (qaf _ hx));obtain⟨R0,hcb⟩:=hB.rd hE
 have hc4:gaC l<4294967296:=by
  unfold gaC;cases DZ l
  .exact(by decide:0<4294967296)
  .exact fld4 l 0
 have hn8:gaN l<18446744073709551616:=by
  unfold gaN;cases DZ l
  .exact(by decide:0<18446744073709551616)
  .exact Wc l 4
 refine Au (fn:=Tryz.f17) func17 U [ptr bk,.slice ab l.length cb] U (Ae (Am U (qA (Ax (Ae (A4 U (Cw Amj U ?_)))))));refine qA (FE U (Ay (Aa (Ae (Ap U (Al qB (Ab1 ab cb _ l _ (R0.ext0 H.ext) U hcb) U ?_))))));rintro v w ⟨rfl,hx⟩;replace H:=H.call hx;refine Cr U (AH U U (AH U U (AH U U (AH U U (Bc IZ H ?_)))));rintro b7 w - H;refine Ad U (Ad U (Bn FP U U U (by exact(by simp[AY])) H at0 U ?_));rintro w H;refine Ad U (qA (Ax (Ae (Af U (CK U U (qA (Aw _ U ?_ ?_)))))))
 .intro h1;replace h1:=CY h1
  have hno:DZ l=false:=by
   cases h:DZ l with
   |false=>rfl
   |true=>exact absurd (XZ h).2.1 h1
  rw[U6 hno];refine Ae (BA (DP (0,0)) Ael OJ ?_);refine BA [.int .i64 5,.slice none 0 0] Sv KX ?_;have H5:=H;refine Al qB (Oi 0 0 5 none 0 0 [] _ .nil U (by decide) (by decide) (by decide) (by decide)) U ?_;rintro v w F;obtain⟨a6,c6,f6,rfl,O6,H6⟩:=GK F;refine Am U (qA (A5 (Av (AB (v:=(.slice _ _ _)) U U U ?_))));exact D.fin H5.ext O6 H6 (by unfold HV;rw[if_pos hno];exact⟨rfl,rfl,rfl⟩)
 .intro h1;replace h1:=CZ h1
  have hyes:DZ l=true:=by
   cases h:DZ l with
   |true=>rfl
   |false=>exact absurd (U6 h) (by omega)
  obtain⟨hK,hE0,-,-⟩:=XZ hyes;have hg:=W4 ls (gaC l,gaN l);refine Ay (Aa (Ae (Af U (Af U (BA (DP (gaC l,gaN l)) Ael OJ ?_)))));refine Bc OJ H ?_;rintro b9 w - H;refine Bn HQ U U U (by exact(by simp[AY])) H at0 U ?_;rintro w H;refine qA (Ax (Ck [([0,1,2,3,4,5,6,7,8],9),([],10),([],11)] (fun z=>(Ext [] w1 z/\z.heap[b9]?=some (Bl 97 (DP (gaC l,gaN l))))) [10,11] Br (⟨H.drew.ext,H.drew.get at0⟩) ?_));refine AD U U ?_;refine BG U (Ba U (Ao TO U (B0 Yz U (fun _ hx=>(by rw[Aj (hx.1.to hbk (by simp))];rfl)) ?_)));refine G9 _ OC HQ U U (fun _ hx=>(CX (b:=b9) (t:=97) (l:=DP (gaC l,gaN l)) hx.2 0 (DP (gaC l,gaN l)) rfl)) (Vj (gaC l,gaN l) U keyW YC Aeq U U (fun z hx=>hx.1.to hbm (by simp)) D.M ?_);rw[hg.1,hg.2];refine DH U (Bs U U (Bs U U (AU ?_)));replace H:=H.drew;refine Bc Vs H ?_;rintro b10 w - H
  refine Ab (BH (⟨H.ext,H.get at1⟩) (AD U U ?_));refine AU (Bn Ix U U U (by exact(by simp[AY])) H at0 U ?_);rintro w H;refine Ab (Bz U (AD U U ?_));refine AU (Ai U (Ab (Bz U (BF (Ae (A2 U (qA (Aw _ U ?_ ?_))))))))
  .intro h2;obtain⟨x,hf⟩:=Option.isSome_iff_exists.1 h2;rw[hf,qef]at H;obtain⟨⟨hxA,hxR⟩,hx1,hx2⟩:=D.lie x (N0 hf).1;have RA:=(hxA.rd (fun z hz=>D.own z (qaf _ (qao _ hz)))).1;have RR:=(hxR.rd (fun z hz=>D.own z (qaf _ (qao _ hz)))).1
   have hst:HV s ls l s ls (if x.ask=l then x.rep else Kg (gaC l) (gaN l) 15 []):=by
    unfold HV;rw[if_neg (by rw[hyes];decide),hf];exact⟨rfl,rfl,rfl⟩
   refine Ax (Ae (Ah MV U (AG Js U H at0 U (Ap U (Al qB (Aq9 x.aA ab x.cA cb _ _ x.ask l (RA.ext0 H.ext) (R0.ext0 H.ext) U U) U ?_)))));rintro v w ⟨rfl,rfl⟩;refine qA (Aw _ U ?_ ?_)
   .intro h3;refine Ae (Ah MW U (AG Js U H at0 U ?_));have H5:=H;refine Al qB (Nu x.aR x.cR _ x.rep _ (RR.ext0 H.ext) U) U ?_;rintro v w ⟨F,-⟩;obtain⟨a6,c6,f6,rfl,O6,H6⟩:=GK F;refine Am U (qA (A5 (Av (Av (AB (v:=(.slice _ _ _)) U U U ?_)))));rw[if_pos (qba h3)]at hst;exact D.fin H5.ext O6 H6 hst
   .intro h3;refine Ay (Aa (Ae (Cg OC HQ U H at1 U (BA [.int .i64 15,.slice none 0 0] Sv KX ?_))));have H5:=H;refine Al qB (Oi (gaC l) (gaN l) 15 none 0 0 [] _ .nil U (by decide) (by decide) hc4 hn8) U ?_;rintro v w F;obtain⟨a6,c6,f6,rfl,O6,H6⟩:=GK F;refine Am U (qA (A5 (Av (AB (v:=(.slice _ _ _)) U U U ?_))));rw[if_neg (qbn h3)]at hst;exact D.fin H5.ext O6 H6 hst
  .intro h2
   have hf:FR ls (gaC l,gaN l)=none:=by
    cases h:FR ls (gaC l,gaN l)with
    |none=>rfl
    |some x=>rw[h]at h2;cases h2
   rw[hf,hK]at H;replace H:Ctx w1 [] w [(b10,Bl 99 (asC asZ)),(b9,Bl 97 (DP (gaC l,gaN l))),(b7,Bl 25 (BQ (Ig l)))]:=H;refine Ay (Aa (Ck [([0,1,2,3,4,5],6),([],7),([],8)] (fun z=>(z.heap[b9]?=some (Bl 97 (DP (gaC l,gaN l)))/\z.heap[b7]?=some (Bl 25 (BQ (Ig l)))/\z.heap[bk]?=some (Bl 91 (JB bl bm a ls.length c)))) [] Br (⟨H.drew.get at1,H.drew.get at2,H.drew.ext.to hbk (by simp)⟩) ?_));refine AD U U ?_;refine G9 _ OC HQ U U (fun _ hx=>(CX (b:=b9) (t:=97) (l:=DP (gaC l,gaN l)) hx.1 0 (DP (gaC l,gaN l)) rfl)) (BG U (Ba U (Ao YB U (B0 Aly U (fun _ hx=>(by rw[Aj hx.2.2];rfl)) ?_))));refine G9 _ Kn FP U U (fun _ hx=>(CX (b:=b7) (t:=25) (l:=BQ (Ig l)) hx.2.1 0 (BQ (Ig l)) rfl)) (AU ?_);replace H:=H.drew;have Hb:=H;refine Al qB (Aq8 (D.L.next H) (Ale l)) U ?_;rintro v w ⟨a2,n2,c2,full2,p,s2,m2,T2,rfl,O2,hst,L2,g2,hx2⟩
   have h9:w.heap[b9]?=some (Bl 97 (DP (gaC l,gaN l))):=L2.H.blk (b9,_) (qao _ (qaf _ (qao _ (qaj _ (qak ..)))));have h7:w.heap[b7]?=some (Bl 25 (BQ (Ig l))):=L2.H.blk (b7,_) (qao _ (qaf _ (qao _ (qaj _ (qaj _ (qak ..))))));have hbk2:w.heap[bk]?=some (Bl 91 (JB bl bm a ls.length c)):=L2.H.blk (bk,_) (qao _ (qaf _ (qaf _ (qak ..))));obtain⟨hpe,hpn⟩:=Rj hst;have hx3:Ext (Dy m s) w1 w:=(Hb.ext.mono fun _ h=>by cases h).trans hx2;obtain rfl:n2=p.n.length:=by(have:=O2.llen;rw[qal]at this;omega)
   have R2:Rd w a2 1 I1 p.n:=OS.rd1 (f:=Eb) (t:=2) O2 (fun y hy=>L2.H.blk y (qao _ (qao _ hy)));obtain⟨r,hr⟩:=qD (Kg (gaC l) (gaN l) p.e p.n);have hrl:r.length<=1000:=by(rw[hr,Nw];omega)
   refine Ab (BH (⟨h9,h7,hbk2⟩) (AD U U ?_));refine AU (Al qB (Oi (gaC l) (gaN l) p.e a2 _ c2 p.n _ R2 U hpn hpe hc4 hn8) U ?_);rintro v w F;rw[<-hr]at F;obtain⟨a6,c6,f6,rfl,O6,H6⟩:=GK F;have D3:DkL bk bl w0 w (ent a6 5 f6++E) m2 s2 T2 ls bm o a oo c full bs:=⟨(L2.right.right.next H6).in2,D.M,D.O,D.lie,fun z hz=>g2.1 _ (D.tur z hz),D.few⟩;have hsz:w1.heap.size<=w.heap.size:=qa6 Hb.size (qa6 hx2.size H6.size);refine Ab (BH (⟨H6.ext.to h9 (by simp),H6.ext.to h7 (by simp),H6.ext.to hbk2 (by simp)⟩) ?_);refine AD U U (AU (Am U (Ab (BH (⟨H6.ext.to h9 (by simp),H6.ext.to h7 (by simp),H6.ext.to hbk2 (by simp)⟩) ?_))));refine BF (Ae (A4 U (Af U (Af U (Ap U (Ap U (BA (asC ⟨gaC l,gaN l,l,r,ab,cb,a6,c6⟩) pl_99 Vs ?_)))))))
   refine Al qB (Ald D3 ⟨gaC l,gaN l,l,r,ab,cb,a6,c6⟩ (fun w' hx=>⟨(hB.rd fun z hz=>D3.L.offB hx z (qaf _ (qaf _ hz))).1,OS.rdB O6 (fun z hz=>D3.L.offB hx z (qaf _ (qao _ hz))),hcb,O6.le⟩) hl hrl hf) U ?_;rintro v w ⟨rfl,T3,y,hy1,hy2,hy3,hy4,K,g3,t3⟩;refine qA (Ae (Ap U (Am U (qA (A5 (AB (v:=(.slice _ _ _)) U U U ?_))))));refine⟨r,a6,c6,f6,m2,s2,T3,Pi ls y,rfl,O6,?_,K,((Grows.refl T w1).trans g2 Hb.size).trans g3 hsz,(Turns.of (hx3.trans (H6.ext.mono fun _ h=>by cases h)) D.L.I.own).trans ((Grows.refl T w1).trans g2 Hb.size) t3⟩;unfold HV;rw[if_neg (by rw[hyes];decide),hf];exact⟨p,y,hst,hr,hy1,hy2,hy3,hy4,rfl⟩
theorem Rl(w:World):Ret prog 14 #[] w fun v w'=>∃bk bl m T,v=ptr bk/\Dk bk bl w w' [] m s00 T []:=by
 obtain⟨w1,rfl,H⟩:=qE w;refine Au (fn:=f14) func14 U [] U (Ae (Cn U (qA (Ae (Al qB (Ak8 _) U ?_)))));rintro v w ⟨m,rfl,H2,I2⟩;clear H;obtain⟨w2,hw2⟩:=qD w;rw[<-hw2]at H2 I2 |-;have L0:Led m.bl w1 w2 [] m s00 (fun x=>x∈Dy m s00):=⟨H2,I2,rfl⟩;have H:=Ctx.start w2 [];refine Vg DP U H ?_;rintro b2 o2 w hM2 H;refine BA [ptr m.bl,.map (some b2),.slice none 0 0] pl_91 zc_91 (Bu [ptr m.bl,.map (some b2),.slice none 0 0] (.agg _) U U H ?_);rintro b4 w - H;refine Cn U (qA (A5 (AB (v:=(.pointer _)) U U U ?_)));refine⟨b4,m.bl,m,_,rfl,b2,o2,none,0,0,[],[],⟨L0.nextT H,hM2,OSo.nil,(fun x hx=>by cases hx),(fun x hx=>Or.inr (qah.2 ⟨x,hx,rfl⟩)),qaq _⟩⟩
theorem Alf{α:Type}{enc:α->List Value}{s:Nat}:∀{xs:List α} {i j:Nat} {x:α} {v:Value},(∀x∈xs,(enc x).length=s)->xs[i]?=some x->(enc x)[j]?=some v->j<s->(xs.flatMap enc)[i*s+j]?=some v:=by
 intro xs
 induction xs with
 |nil=>intro i j x v _ hx;cases hx
 |cons y xs ih =>
  intro i j x v hs hx hv hj;rw[qbz];have hy:=hs y (qak ..)
  cases i with
  |zero =>
   cases hx;rw[qc0,qaz,qcb (by omega)];exact hv
  |succ i =>
   rw[qbj,Nat.one_mul,qbv (by omega),hy,show i*s+s+j - s=i*s+j by omega];exact ih (fun z hz=>hs z (qaj _ hz)) hx hv hj
theorem OSo.rd{α:Type}{w:World}{a:Option Addr}{o n c s:Nat}{t:TypeId}{full:List Value}{enc:α->List Value}{xs:List α}(h:OSo a o n c s full (xs.flatMap enc))(hb:∀x∈ent a t full,w.heap[x.1]?=some x.2)(hs:∀x∈xs,(enc x).length=s)(h0:0<s):Rd w a s enc xs:=by
 cases a with
 |none =>
  cases xs with
  |nil=>exact Rd.nil
  |cons x xs =>
   exfalso;have h1:=h.llen;have h2:=h.none' rfl;have h3:=h.le;have h4:n=0:=by omega
   have h5:=hs x (by simp);subst h4;simp only[qbz,qat,qc0]at h1;omega
 |some p =>
  have hz:=h.pos p rfl;obtain⟨b,q,sp⟩:=p;simp only[Addr.mk.injEq,true_and]at hz;obtain⟨rfl,rfl⟩:=hz;refine⟨fun _=>⟨b,o*s,rfl⟩,fun i x hx j v hv hj=>?_⟩;have hbb:=hb (b,Bl t full) (qak ..);show w.cell? ⟨b,o*s+i*s+j,none⟩=some v;rw[qcm];exact h.cell hbb (Alf hs hx hv hj)
abbrev stA(s:Ld)(z:StZ)(a:Option Addr)(n c:Nat):List Value:=[.int .i64 s.day,.slice z.aA s.acs.length z.cA,.slice z.aD s.ds.length z.cD,.int .u64 s.nx,.slice z.aR s.rn.length z.cR,.int .u64 s.no,.slice a n c]
abbrev stZ:List Value:=[.int .i64 0,.slice none 0 0,.slice none 0 0,.int .u64 0,.slice none 0 0,.int .u64 0,.slice none 0 0]
theorem Ol{ls:List As}{x:As}(h:x∈ls):∃y,FR ls (Dg x)=some y/\y∈ls:=by
 cases hf:FR ls (Dg x)with
 |none=>exact absurd (qeo.1 hf x h) (by simp)
 |some y=>exact⟨y,rfl,(N0 hf).1⟩
def DQ(x:As):Nat × Nat × List UInt8 × List UInt8:=(x.c,x.n,x.ask,x.rep)
def U7(ls:List As)(x:As):As:=(FR ls (Dg x)).getD asZ
structure DsZ where
 i:Nat
 a:Option Addr
 c:Nat
 full:List Value
 ys:List As
 bb:List (Nat × Obj)
theorem Ctx.ins{w0 w:World}{S:List Nat}{B X Y:List (Nat × Obj)}(H:Ctx w0 S w (B++(X++Y))):Ctx w0 S w (X++(B++Y)):=H.perm (qbp _ _ _)
theorem To{bk bl:Nat}{w0 w:World}{E:List (Nat × Obj)}{m:Lm}{s:Ld}{T:Nat->Prop}{ls:List As}(K:Dk bk bl w0 w E m s T ls) :
  Ret prog 19 #[ptr bk] w fun v w'=>Ext [] w w'/\∃z a n c,v=.agg (stA s z a n c).toArray/\StAt w' s z/\∃ys:List As,n=ys.length/\ys.map DQ=ls.map (fun x=>DQ (U7 ls x))/\Rd w' a 4 asC ys/\∀y∈ys,AsR w' y:=by
 obtain⟨bm,o,a,oo,c,full,bs,D⟩:=K;obtain⟨w1,rfl,H⟩:=qE w;have hall:∀x∈FD bk bl bm o a ls.length c full++(bs++E),w1.heap[x.1]?=some x.2:=D.own;have hbk:w1.heap[bk]?=some (Bl 91 (JB bl bm a ls.length c)):=D.own (bk,_) (qak ..);refine Au (fn:=Tryz.f19) func19 U [ptr bk] U (Ae (Bc YE H ?_));rintro b2 w - H;refine qA (Ax (Ae (A4 U (Cw Amj U ?_))));refine qA (FE U (Ay (Aa (Ae (A4 U (A9 U (Ah YB U (Bb Aly U ((by rw[Aj (H.ext.to hbk (by simp))];rfl)) ?_))))))));have Hb:=H;refine Al qB (Acg (D.L.call H.ext)) U ?_;rintro v ws ⟨hx,z,rfl,Z,ZO⟩;replace H:=H.call hx;have hws:Ext [] w1 ws:=H.ext;replace H:=Ctx.lend (L1:=[_]) (L2:=[]) H;refine Bc YE H ?_;rintro b3 w - H;refine Bn OH U U U (by exact(by simp[AY])) H at0 U ?_;rintro w H;refine qA (Ax ?_)
 have hall2:∀w',Ext [b2] ws w'->∀x∈FD bk bl bm o a ls.length c full++(bs++E),w'.heap[x.1]?=some x.2:=fun w' h x hx=>by
  have h1:=hall x hx;refine h.to (hws.to h1 (by simp)) fun hm=>?_;have h2:=Bd h1;rw[qab.1 hm]at h2;exact(Hb.own _ (qak ..)).elim (fun h=>by cases h) (fun h=>absurd h2 (Nat.not_lt.2 h))
 replace H:Ctx ws [b2] _ [(b3,Bl 42 (stA s z none 0 0)),(b2,_)]:=H;have hws2:w1.heap.size<=b2:=(Hb.own _ (qak ..)).elim (fun h=>by cases h) id;refine Ae (A4 U (A9 U (Ah MU U (Bb Vm U ((by rw[Aj (hall2 _ H.ext (bk,_) (qak ..))];rfl)) ?_))));refine Be OE U (Af U (qA (A1 (Bw 68718952480 (α:=DsZ) (fun t=>[(19,.int .i64 (t.i:Int))]) (fun t w'=>t.i<=ls.length/\Ctx ws [b2] w' ([(b3,Bl 42 (stA s z t.a t.i t.c)),(b2,Bl 42 stZ)]++(t.bb++ent t.a 99 t.full))/\OS t.a t.i t.c 4 t.full (t.ys.flatMap asC)/\t.ys.map DQ=(ls.take t.i).map (fun x=>DQ (U7 ls x))/\∀y∈t.ys,BIn t.bb y.aA y.cA y.ask/\BIn t.bb y.aR y.cR y.rep) (fun t=>ls.length - t.i) ⟨0,none,0,[],[],[]⟩ U ?_ ?_ ?_))))
 .exact⟨rfl,trivial⟩
 .exact⟨qaq _,H,OS.nil,rfl,fun y hy=>by cases hy⟩
 .clear H;rintro⟨i,a3,c3,full3,ys,bb⟩ j w ⟨hi,H,O3,hcs,hbs⟩;dsimp only at hi H O3 hcs hbs;dsimp only;refine Ae (Bm U U (qA (Ax (Aw _ U ?_ ?_))))
  .intro h2;replace h2:=AM h2;have hfew:=D.few;obtain⟨x,hx⟩:=AE (l:=ls) (i:=i);have hk2:(ls.map Dg)[i]?=some (Dg x):=by rw[qa1,hx];rfl
   obtain⟨y,hf,hy⟩:=Ol (qac hx);have RW:∀w',Ext [b2] ws w'->Rd w' a 2 DP (ls.map Dg):=fun w' h=>OSo.rd (t:=97) D.O (fun q hq=>hall2 w' h q (qao _ (qaj _ (qaj _ hq)))) (fun _ _=>rfl) (by decide);have hlm:(ls.map Dg).length=ls.length:=qal ..;refine Ay (Aa (Ax (A1 (Ae (Bg (RW _ H.ext) OE HQ U U (by omega) ?_)))));refine C9 _ OC HQ U U (((RW _ H.ext).row hk2 U)) (Bc OJ H ?_);rintro b5 w - H;refine Bn HQ U U U (by exact(by simp[AY])) H at0 U ?_;rintro w H;refine qA ?_;have hg:=W4 ls (Dg x);rw[hf,qef]at hg;obtain⟨⟨hyA,hyR⟩,hy1,hy2⟩:=D.lie y hy;replace H:Ctx ws [b2] w ([(b5,Bl 97 (DP (Dg x))),(b3,Bl 42 (stA s z a3 i c3)),(b2,Bl 42 stZ)]++(bb++ent a3 99 full3)):=H;have hxi:=hx;clear hx
   refine Ft [([0,1,2,3,4,5,6,7],8),([],9),([],10),([11],12)] (fun q=>(Ext [b2] ws q/\q.heap[b3]?=some (Bl 42 (stA s z a3 i c3))/\q.heap[b5]?=some (Bl 97 (DP (Dg x))))) [12] Br (⟨H.drew.ext,H.drew.get at1,H.drew.get at0⟩) ?_;refine AD U U (Ao Py U (B0 Adh U (fun _ hx=>(by rw[Aj hx.2.1];rfl)) ?_));refine BG U (Ba U (Ao TO U (B0 Yz U (fun _ hx=>(by rw[Aj (hall2 _ hx.1 (bk,_) (qak ..))];rfl)) ?_)));refine G9 _ OC HQ U U (fun _ hx=>(CX (b:=b5) (t:=97) (l:=DP (Dg x)) hx.2.2 0 (DP (Dg x)) rfl)) ?_;refine ZY (Dg x) U keyW YC Aeq U U (fun q hx=>hall2 q hx.1 (bm,_) (qaj _ (qak ..))) D.M ?_;rw[hg.1];refine AU ?_;replace H:=H.drew
   refine Al qB (Aht y _ ⟨(hyA.rd fun q hq=>hall2 _ H.ext q (qaf _ (qao _ hq))).1,(hyR.rd fun q hq=>hall2 _ H.ext q (qaf _ (qao _ hq))).1,(hyA.rd fun q hq=>hall2 _ H.ext q (qaf _ (qao _ hq))).2,(hyR.rd fun q hq=>hall2 _ H.ext q (qaf _ (qao _ hq))).2⟩) U ?_;rintro v w ⟨y2,B2,rfl,O2⟩;replace H:Ctx ws [b2] w ([(b5,Bl 97 (DP (Dg x))),(b3,Bl 42 (stA s z a3 i c3)),(b2,Bl 42 stZ)]++((B2++bb)++ent a3 99 full3)):=by(rw[qas];exact Ctx.ins (Ctx.back (L1:=[]) H O2.H))
   refine Ab (BH (⟨H.ext,H.get at1,H.get at0⟩) (AD U U ?_));refine AU (Cp _ (.agg _) IW Ix Vs U U U U H ?_);rintro b32 w - H;refine Ab (BH (⟨H.ext,H.get at2,H.get at1⟩) (AD U U ?_));refine AU (Cy (L:=_::_::_::(B2++bb)) IW IW Ix by_99 Vs U U U H O3 U (by simp[AY]) ?_);rintro a9 c9 full9 w H O9;refine Ab (BH (⟨H.ext,H.get at1,H.get at0⟩) (AD U U ?_));refine Ao Py U (AU (Cb (.slice _ _ _) sz_40 U U U H at1 (by(simp;done)) ?_));rintro w H;refine Ab (Bz U (BF (A8 (Aa (A0 (Az U U ?_))))));refine Af U (qA ?_);have hfx:U7 ls x=y:=by unfold U7;rw[hf];rfl
   refine⟨⟨i+1,a9,c9,full9,ys++[y2],B2++bb⟩,rfl,⟨rfl,trivial⟩,⟨by dsimp only;omega,H.tail,?_,?_,fun y' hy'=>?_⟩,by dsimp only;omega⟩
   .dsimp only;rw[qbt,qeq];exact O9
   .dsimp only;rw[qb6,hxi,qav,qav,hcs];show _++[DQ y2]=_++[DQ (U7 ls x)];rw[hfx,DQ,DQ,O2.c,O2.n,O2.ask,O2.rep]
   .dsimp only at hy' |-
    rcases qbc.1 hy' with h|h
    .exact⟨(hbs y' h).1.mono fun q hq=>qaf _ hq,(hbs y' h).2.mono fun q hq=>qaf _ hq⟩
    .obtain rfl:=qab.1 h;obtain⟨fA,fR,rfl,OA,OR⟩:=O2.lie;exact⟨⟨fA,OA,fun q hq=>qao _ (qao _ hq)⟩,⟨fR,OR,fun q hq=>qao _ (qaf _ hq)⟩⟩
  .intro h2;replace h2:=AN h2;obtain rfl:i=ls.length:=by omega
   refine Bt (An (An (AK (Aa (Ae (Cg Vl OH U H at0 U (Bn OH U U U (by exact(by simp[AY])) H at1 U ?_)))))));rintro w H;refine qA (A5 (JI U U U Vl OH H at1 U ?_));have H5:Ctx ws [b2] w ([(b3,Bl 42 (stA s z a3 ls.length c3)),(b2,Bl 42 (stA s z a3 ls.length c3))]++(bb++ent a3 99 full3)):=H;have hbbk:∀q∈bb,w.heap[q.1]?=some q.2:=fun q hq=>H5.blk q (qaf _ (qao _ hq))
   have hyl:ys.length=ls.length:=by
    have h:=qaa List.length hcs;rw[qal,qal,qbm]at h;exact h
   rw[qbm]at hcs;refine⟨hws.then H.ext (fun x hx => .inr (by rw[qab.1 hx];exact hws2)),z,a3,_,c3,rfl,Z.ext H.ext (ZO.mono fun x hx=>by rw[qab.1 hx];exact Hb.lt at0),ys,hyl.symm,hcs,OS.rd (t:=99) O3 (fun q hq=>H5.blk q (qaf _ (qaf _ hq))) (fun _ _=>rfl) (by decide),fun y hy=>?_⟩;obtain⟨h1,h2⟩:=hbs y hy;exact⟨(h1.rd hbbk).1,(h2.rd hbbk).1,(h1.rd hbbk).2,(h2.rd hbbk).2⟩
theorem Kl{a:Option Addr}{n c:Nat}{full:List Value}{l:List UInt8}(x k:Nat)(w:World)(H0:Ctx w ((ent a 5 full).map (·.1)) w (ent a 5 full))(O0:OS a n c 1 full (l.map bv))(_:x<18446744073709551616)(hk:k<=8:=by decide)(hn:n<=100000:=by decide):
  Ret prog 53 #[.slice a n c,.int .u64 (x:Int),.int .i64 (k:Int)] w fun v w'=>∃a' c' full',v=.slice a' (n+k) c'/\OS a' (n+k) c' 1 full' ((l++Co x k).map bv)/\Ctx w ((ent a 5 full).map (·.1)) w' (ent a' 5 full'):=by
 obtain⟨w0,rfl⟩:=qD w;obtain⟨S,hS⟩:=qD ((ent a 5 full).map (·.1));have H:Ctx w0 S w0 (ent a 5 full):=by rw[hS];exact H0
 rw[<-hS];refine Au (fn:=f53) func53 U [.slice a n c,.int .u64 (x:Int),.int .i64 (k:Int)] U (Ae (Am U (qA (Ax (Ae (Af U (Bo U U ?_)))))));refine Ad U (qA (A1 (Bw 8387713 (α:=Nat × Option Addr × Nat × List Value) (fun z=>[(7,.int .i64 ((k:Int) - 1 - z.1)),(0,.slice z.2.1 (n+z.1) z.2.2.1)]) (fun z w'=>z.1<=k/\Ctx w0 S w' (ent z.2.1 5 z.2.2.2)/\OS z.2.1 (n+z.1) z.2.2.1 1 z.2.2.2 ((l++(Co x k).take z.1).map bv)) (fun z=>k - z.1) (0,a,c,full) U ?_ ?_ ?_)))
 .exact⟨qaa (Value.int .i64) (by omega),rfl,trivial⟩
 .exact⟨qaq _,H,by simpa using O0⟩
 .clear H;rintro⟨i,a7,c7,full7⟩ j w ⟨hi,H,O⟩;dsimp only at hi H O;dsimp only;refine Ax (Ae (Af U (CM U U (qA (Aw _ U ?_ ?_)))))
  .intro h2;replace h2:=AM h2;have hik:i<k:=by omega
   refine Ay (Aa (Ax (A1 (A0 (Ap U (Af U (Af U (D0 U U ?_))))))));rw[show(8:Int)*((k:Int) - 1 - (i:Int))=((8*(k - 1 - i):Nat):Int)from by omega];refine D5 U Ho Q1 (EJ U U ?_);refine Oy U U Dc Hr ?_;rw[Oc];refine Cp _ (.int _ _) De IK Vr U U U U H ?_;rintro b21 w - H;refine Cy (L:=[]) De De IK by_5 Vr U U U H O U (by simp[AY]) ?_;rintro a9 c9 full9 w H O;refine Am U (Ab (A8 (Aa (A0 (Af U (Bo U U ?_))))));refine Ad U (qA ?_);refine⟨(i+1,a9,c9,full9),rfl,⟨qaa (Value.int .i64) (by dsimp only;omega),rfl,trivial⟩,⟨by dsimp only;omega,H,?_⟩,by dsimp only;omega⟩;dsimp only;have O':OS a9 (n+(i+1)) c9 1 full9 ((l++(Co x k).take i).map bv++[UInt8.ofNat (x / 2 ^ (8*(k - 1 - i)))].map bv):=O
   rw[<-qav,qas,<-Td hik]at O';exact O'
  .intro h2;replace h2:=AN h2;obtain rfl:i=k:=by omega
   refine Bt (An (An (AK (Aa (Ae (Ap U (Am U (qA (A5 (AB (v:=(.slice _ _ _)) U U U ?_))))))))));have hl:(Co x i).take i=Co x i:=qc2 (by rw[Cz];exact qam _);rw[hl]at O;exact⟨_,_,_,rfl,O,H⟩
theorem W5{x:Int}(h:0<=x/\x<=255):[Value.int .u8 x]=(Co (w64 x) 1).map bv:=by
 obtain⟨n,rfl⟩:∃n:Nat,x=n:=⟨x.toNat,by omega⟩;rw[Kj];show[Value.int .u8 (n:Int)]=[bv (UInt8.ofNat (n / 2 ^ 0))];rw[<-Oc]
 congr 2
 omega
theorem Aig{x:Int}:Co (w64 x % 65536) 2=Co (w64 x) 2:=by
 unfold Co;apply qbo;intro i hi;rw[qa5]at hi;apply UInt8.toNat_inj.1;have h2:i=0\/i=1:=by omega
 rcases h2 with rfl|rfl <;> simp[UInt8.toNat_ofNat'] <;> omega
theorem Aih{a:Option Addr}{n c:Nat}{full:List Value}{l:List UInt8}(x:Int)(k:Nat)(w:World)(H0:Ctx w ((ent a 5 full).map (·.1)) w (ent a 5 full))(O0:OS a n c 1 full (l.map bv))(hx:0<=x/\x<18446744073709551616:=by omega)(hk:k<=8:=by decide)(hn:n<=100000:=by decide):
  Ret prog 53 #[.slice a n c,.int .u64 x,.int .i64 (k:Int)] w fun v w'=>∃a' c' full',v=.slice a' (n+k) c'/\OS a' (n+k) c' 1 full' ((l++Co (w64 x) k).map bv)/\Ctx w ((ent a 5 full).map (·.1)) w' (ent a' 5 full'):=by
 obtain⟨m,rfl⟩:∃m:Nat,x=m:=⟨x.toNat,by omega⟩;rw[Kj];exact Kl m k w H0 O0 (by omega) (hk:=hk) (hn:=hn)
theorem Rm(c n:Nat)(k:Ak)(w:World)(hc:c<4294967296)(hn:n<18446744073709551616)(h:MayP k) :
  Ret prog 15 #[.int .u32 (c:Int),.int .u64 (n:Int),.agg (BQ k).toArray] w fun v w'=>∃s,v=.tuple #[s,.int .i64 0]/\Fresh w w' 5 1 s ((EK c n k).map bv):=by
 obtain⟨w0,rfl,H⟩:=qE w;obtain⟨h1,h2,h3,h4,h5,h6,h7⟩:=h;refine Au (fn:=Tryz.f15) func15 U [.int .u32 (c:Int),.int .u64 (n:Int),.agg (BQ k).toArray] U (Ae (Bu (BQ k) (.agg _) U U H ?_));rintro b5 w - H;refine Am U (Ad U (qA (Ax (Ae (Ci (α:=Unit) 137438952960 (fun _=>[(36,.bool ((((((decide (k.a<0) || decide (k.a>255)) || decide (k.b < -32768)) || decide (k.b>32767)) || decide (k.w<0)) || decide (k.w>65535))))]) (fun _ w'=>Ctx w0 [] w' [(b5,Bl 25 (BQ k))]) U ?_ ?_)))))
 .refine Ah EF U (AG Cc U H at0 U (Bm U U (A2 U (AR 12 U ?_ ?_))))
  .intro h1;replace h1:=AM h1;refine Ag U (Ag U (Ag U (AA U (.bool _) U (A2 U (Ag U (Ag U (Ag U (AA U (.bool _) U (A2 U ?_)))))))));refine Ag U (Ag U (Ag U (AA U (.bool _) U (A2 U (Ag U (Ag U (Ag U (AA U (.bool _) U (A2 U ?_)))))))));refine Ag U (Ag U (Ag U (AA U (.bool _) U (Ab ?_))));exact⟨rfl,(),rfl,⟨qaa Value.bool (by(rw[qad];simp only[qbf,qar,true_iff];omega)),trivial⟩,H⟩
  .intro h2;replace h2:=AN h2;refine Ah EF U (AG Cc U H at0 U (C8 U U (AJ U (.bool _) U (A2 U (AR 17 U ?_ ?_)))))
   .intro h3;replace h3:=AM h3;refine Ag U (Ag U (Ag U (AA U (.bool _) U (A2 U (Ag U (Ag U (Ag U (AA U (.bool _) U (A2 U ?_)))))))));refine Ag U (Ag U (Ag U (AA U (.bool _) U (A2 U (Ag U (Ag U (Ag U (AA U (.bool _) U (Ab ?_)))))))));exact⟨rfl,(),rfl,⟨qaa Value.bool (by(rw[qad];simp only[qbf,qar,true_iff];omega)),trivial⟩,H⟩
   .intro h4;replace h4:=AN h4;refine Ah HZ U (AG Cc U H at0 U (Bm U U (AJ U (.bool _) U (A2 U (AR 22 U ?_ ?_)))))
    .intro h5;replace h5:=AM h5;refine Ag U (Ag U (Ag U (AA U (.bool _) U (A2 U (Ag U (Ag U (Ag U (AA U (.bool _) U (A2 U ?_)))))))));refine Ag U (Ag U (Ag U (AA U (.bool _) U (Ab ?_))));exact⟨rfl,(),rfl,⟨qaa Value.bool (by(rw[qad];simp only[qbf,qar,true_iff];omega)),trivial⟩,H⟩
    .intro h6;replace h6:=AN h6;refine Ah HZ U (AG Cc U H at0 U (C8 U U (AJ U (.bool _) U (A2 U (AR 27 U ?_ ?_)))))
     .intro h7;replace h7:=AM h7;refine Ag U (Ag U (Ag U (AA U (.bool _) U (A2 U (Ag U (Ag U (Ag U (AA U (.bool _) U (Ab ?_)))))))));exact⟨rfl,(),rfl,⟨qaa Value.bool (by(rw[qad];simp only[qbf,qar,true_iff];omega)),trivial⟩,H⟩
     .intro h8;replace h8:=AN h8;refine Ah JQ U (AG B4 U H at0 U (Bm U U (AJ U (.bool _) U (A2 U (AR 32 U ?_ ?_)))))
      .intro h9;replace h9:=AM h9;refine Ag U (Ag U (Ag U (AA U (.bool _) U (Ab ?_))));exact⟨rfl,(),rfl,⟨qaa Value.bool (by(rw[qad];simp only[qbf,qar,true_iff];omega)),trivial⟩,H⟩
      .intro h10;replace h10:=AN h10;refine Ah JQ U (AG B4 U H at0 U (C8 U U (AJ U (.bool _) U (Ab ?_))));exact⟨rfl,(),rfl,⟨qaa Value.bool (by(rw[qad];simp only[qbf,qar];omega)),trivial⟩,H⟩
 rintro - j36 w H;refine Aw _ U ?_ ?_
 .intro g1;exfalso;simp at g1;omega
 .intro g1;clear g1;replace H:Ctx w0 [] w (ent none 5 []++[(b5,Bl 25 (BQ k))]):=H;refine Ay (Aa (Ae (Af U (D5 U Vq Dc ?_))));refine Al qB (Kl (l:=[]) c 4 _ (Ctx.lend H) OS.nil (by omega)) U ?_;rintro v w ⟨a39,c39,f39,rfl,O,H7⟩;replace H:=Ctx.back H H7;clear H7;refine Am U (qA (Ae (Ap U (Af U (Al qB (Kl n 8 _ (Ctx.lend H) O hn) U ?_)))));rintro v w ⟨a42,c42,f42,rfl,O,H7⟩;replace H:=Ctx.back H H7;clear H7;refine Am U (qA ?_);replace H:Ctx w0 [] w ([(b5,Bl 25 (BQ k))]++ent a42 5 f42):=H.comm;obtain⟨l4,hl4⟩:=qD (Co c 4++Co n 8);replace O:OS a42 12 c42 1 f42 (l4.map bv):=by rw[hl4];simpa using O
  refine Ae (Ap U (Ah JP U (AG Kv U H at0 U (Ah EF U (AG Cc U H at0 U (Mf U U Ho Hr ?_))))));refine Ef [.int .u8 k.kd,.int .u8 k.a] De IK Vr H ?_;rintro b49 w - H;refine Cy (L:=[_]) De De IK by_5 Vr U U U H O U (by simp[AY]) ?_;rintro a50 c50 f50 w H O;refine Am U (qA ?_);obtain⟨l5,hl5⟩:=qD (l4++Co (w64 k.kd) 1++Co (w64 k.a) 1)
  replace O:OS a50 14 c50 1 f50 (l5.map bv):=by
   have hO:l4.map bv++[Value.int .u8 k.kd,Value.int .u8 k.a]=l5.map bv:=by
    rw[hl5,qav,qav,<-W5 (x:=k.kd) (by omega),<-W5 (x:=k.a) h2,qas];rfl
   rw[<-hO];exact O
  replace H:=H.comm;refine Ae (Ap U (Ah HZ U (Bb Cc U ((by rw[Aj (H.comm.get at0)];rfl)) ?_)));refine Es U Ho Dc ?_;rw[Hx];refine Iq U U U (ha:=Lt _) (hb:=by decide) ?_;rw[show w64 k.b &&& 65535=w64 k.b % 65536 from Nat.and_two_pow_sub_one_eq_mod _ 16];refine Al qB (Kl (w64 k.b % 65536) 2 _ (Ctx.lend H) O (by omega)) U ?_;rintro v w ⟨a56,c56,f56,rfl,O,H7⟩;rw[Aig]at O;replace H:=Ctx.back H H7;clear H7;refine Am U (qA (Ae (Ap U (Ah L6 U (Bb B4 U ((by rw[Aj (H.comm.get at0)];rfl)) ?_)))));refine Es U LJ Dc ?_;rw[Hx];refine Al qB (Kl (w64 k.x) 8 _ (Ctx.lend H) O (Lt _)) U ?_;rintro v w ⟨a61,c61,f61,rfl,O,H7⟩;replace H:=Ctx.back H H7;clear H7;refine Am U (qA (Ae (Ap U (Ah JQ U (Bb B4 U ((by rw[Aj (H.comm.get at0)];rfl)) ?_)))));refine Es U LJ Dc ?_;rw[Hx]
  refine Al qB (Kl (w64 k.w) 2 _ (Ctx.lend H) O (Lt _)) U ?_;rintro v w ⟨a66,c66,f66,rfl,O,H7⟩;replace H:=Ctx.back H H7;clear H7;refine Am U (qA (Ae (Ap U (Ah JR U (Bb B4 U ((by rw[Aj (H.comm.get at0)];rfl)) ?_)))));refine Es U LJ Dc ?_;rw[Hx];refine Al qB (Kl (w64 k.u) 8 _ (Ctx.lend H) O (Lt _)) U ?_;rintro v w ⟨a71,c71,f71,rfl,O,H7⟩;replace H:=Ctx.back H H7;clear H7;refine Am U (qA (Ae (Ap U (Ah IY U (Bb B6 U ((by rw[Aj (H.comm.get at0)];rfl)) ?_)))));refine Al qB (Aih k.id 8 _ (Ctx.lend H) O) U ?_;rintro v w ⟨a75,c75,f75,rfl,O,H7⟩;replace H:=Ctx.back H H7;clear H7;refine Am U (Ad U (qA (A5 (Cf (v1:=(.slice _ _ _)) (v2:=(.int _ _)) U U U U ?_))));refine⟨_,rfl,?_⟩
  have hfin:EK c n k=l5++Co (w64 k.b) 2++Co (w64 k.x) 8++Co (w64 k.w) 2++Co (w64 k.u) 8++Co (w64 k.id) 8:=by
   unfold EK;rw[hl5,hl4];simp only[qas,qa0]
  rw[hfin];exact Ctx.fresh (L:=[_]) H.comm O
theorem Aii{l:List UInt8}{p i:Nat}{b:UInt8}(h:l[p+i]?=some b):numN ((l.drop p).take (i+1))=numN ((l.drop p).take i)*256+b.toNat:=by
 rw[Ee (l:=l.drop p) (i:=i) (by rw[qct];exact h),Od]
theorem FN(a:Option Addr)(c m:Nat)(l:List UInt8)(p k:Nat)(w:World)(R:Rd w a 1 B8 l)(hml:l.length=m)(hm:m<=100000:=by omega)(hp:p+k<=l.length:=by omega)(hk:k<=8:=by decide):
  Ret prog 54 #[.slice a m c,.int .i64 (p:Int),.int .i64 (k:Int)] w fun v w'=>v=.int .u64 (CU l p k:Int)/\Ext [] w w':=by
 subst hml;obtain⟨w0,rfl,H⟩:=qE w;refine Au (fn:=f54) func54 U [.slice a l.length c,.int .i64 (p:Int),.int .i64 (k:Int)] U (Ae (Ad U (qA (Ae (Ad U (qA (Ax (Ae (Ad U (qA ?_))))))))));refine A1 (Bw 16777088 (α:=Nat) (fun i=>[(8,.int .i64 (i:Int)),(7,.int .u64 (CU l p i:Int))]) (fun i w'=>i<=k/\Ctx w0 [] w' []) (fun i=>k - i) 0 U ?_ ?_ ?_)
 .exact⟨rfl,rfl,trivial⟩
 .exact⟨qaq _,H⟩
 .clear H;rintro i j w ⟨hi,H⟩;refine Ax (Ae (Af U (Af U (Bm U U (qA (Aw _ U ?_ ?_))))))
  .intro h1;replace h1:=AM h1;have hik:i<k:=by omega
   obtain⟨b,hb⟩:=AE (l:=l) (i:=p+i);have hlt:CU l p i<256 ^ i:=QX l p i;have hpw:(256:Nat) ^ i<=256 ^ 7:=qdi (by decide) (by omega);have hp7:(256:Nat) ^ 7=72057594037927936:=by decide
   have hbl:b.toNat<256:=P9 b;have hstep:CU l p (i+1)=CU l p i*256+b.toNat:=Aii hb;refine Ay (Aa (Ax (A1 (A0 (Af U (GP U U U (by omega) (by omega) ?_))))));refine Ap U (Af U (Af U (Az U U ?_)));rw[show(p:Int)+(i:Int)=((p+i:Nat):Int)by omega];refine Bg (R.ext0 H.ext) De IK U U (by rfl) (Bb Kv U (((R.ext0 H.ext).one (f:=bv) hb)) ?_);refine D5 U Hr Dc (h1:=show(0:Int)<=(b.toNat:Int)by omega) (h2:=show(b.toNat:Int)<=_ by omega) (EI U U ?_);refine Ad U (Ab (A8 (Aa (A0 (Af U (Az U U ?_))))));refine Ad U (qA ?_);exact⟨i+1,rfl,⟨rfl,qaa (Value.int .u64) (by rw[hstep];omega),trivial⟩,⟨by omega,H⟩,by omega⟩
  .intro h1;replace h1:=AN h1;obtain rfl:i=k:=by omega
   refine Bt (An (An (AK (Aa (Ae (Af U (Ad U (qA (A5 (AB (v:=(.int _ _)) U U U ?_))))))))));exact⟨rfl,H.ext⟩
theorem Tp(a:Option Addr)(c m:Nat)(l:List UInt8)(cl n:Nat)(e:Int)(w:World)(R:Rd w a 1 B8 l)(hml:l.length=m)(hl:l=Kg cl n e [])(he:0<=e/\e<=255:=by decide)(hcl:cl<4294967296:=by decide)(hn:n<18446744073709551616:=by decide):
  Ret prog 52 #[.slice a m c] w fun v w'=>v=.tuple #[.int .u32 (cl:Int),.int .u64 (n:Int),.agg #[.int .i64 e,.slice none 0 0],.int .i64 0]/\Ext [] w w':=by
 obtain⟨en,rfl⟩:∃en:Nat,e=en:=⟨e.toNat,by omega⟩;have h14:l.length=14:=by rw[hl,Nw];rfl
 obtain rfl:m=14:=by omega
 have f0:CU l 0 4=cl:=(HN (pre:=[]) (n:=cl) (k:=4) (post:=Co n 8++(Co (w64 en) 1++(Co 0 1++JA []))) (by rw[hl];rfl) rfl).trans (qbr (by omega));have f4:CU l 4 8=n:=(HN (pre:=Co cl 4) (n:=n) (k:=8) (post:=Co (w64 en) 1++(Co 0 1++JA [])) (by rw[hl];rfl) (by rw[Cz])).trans (qbr (by omega))
 have h12:∃b:UInt8,l[12]?=some b/\(b.toNat:Int)=en:=by
  refine⟨UInt8.ofNat (w64 en / 2 ^ 0),?_,?_⟩
  .rw[hl];unfold Kg;rw[qbv (by rw[Cz];decide),Cz,qbv (by rw[Cz];decide),Cz];rfl
  .rw[Kj,UInt8.toNat_ofNat'];omega
 have h13:l[13]?=some (0:UInt8):=by
  rw[hl];unfold Kg;rw[qbv (by rw[Cz];decide),Cz,qbv (by rw[Cz];decide),Cz,qbv (by rw[Cz];decide),Cz];rfl
 obtain⟨eb,h12,heb⟩:=h12;obtain⟨w0,rfl,H⟩:=qE w;have c13:∀{w:World},Ext [] w0 w->w.cell? ⟨(adr a).block,(adr a).off+13*1,none⟩=some (Value.int .u8 0):=fun hx=>(R.ext0 hx).one (f:=bv) h13;have c12:∀{w:World},Ext [] w0 w->w.cell? ⟨(adr a).block,(adr a).off+12*1,none⟩=some (Value.int .u8 (en:Int)):=fun hx=>((R.ext0 hx).one (f:=bv) h12).trans (by show some (Value.int .u8 (eb.toNat:Int))=_;rw[heb]);refine Au (fn:=f52) func52 U [.slice a 14 c] U (Ae (Ad U (Ad U (Bc KX H ?_))));rintro b4 w - H;refine Ad U (qA (Ax (Ae (Ap U (Be De U (Bm U U (A2 U (Ap U (Bg (R.ext0 H.ext) De IK U U (by omega) ?_)))))))));refine Bb Kv U ((c13 H.ext)) (C8 U U (AJ U (.bool _) U (A2 U (Ap U (Be De U (Ap U (Bg (R.ext0 H.ext) De IK U U (by omega) ?_)))))))
 refine Bb Kv U ((c13 H.ext)) (Di U Hr Ho ?_);refine D0 U U (Az U U ?_);refine CK U U (AJ U (.bool _) U (qA (FE U (Ay (Aa (Ae (Ap U (Bg (R.ext0 H.ext) De IK U U (by omega) ?_))))))));refine Bb Kv U ((c12 H.ext)) (Di U Hr Ami ?_);refine BA [.int .i64 (en:Int),.slice none 0 0] Sv KX (Bc KX H ?_);rintro b6 w - H;refine Bn Jv U U U (by simp[AY]) H at0 U ?_;rintro w H;refine qA (Ax (Ae (Ad U (qA (A1 (Bw 9007182074871936 (α:=Unit) (fun _=>[(7,.int .i64 0)]) (fun _ w'=>Ctx w0 [] w' [(b6,Bl 33 [.int .i64 (en:Int),.slice none 0 0]),(b4,Bl 33 [.int .i64 0,.slice none 0 0])]) (fun _=>0) () U ?_ ?_ ?_))))))
 .exact⟨rfl,trivial⟩
 .exact H
 .clear H;rintro - j w H;refine Ax (Ae (Af U (Ap U (Bg (R.ext0 H.ext) De IK U U (by omega) ?_))));refine Bb Kv U ((c13 H.ext)) (Di U Hr Ho ?_);refine Bm U U (qA (FE U (Bt (An (An (AK (Aa (Ck [([0,3,5],1),([2],4),([6,7],8),([],9)] (fun z=>(Ext [] w0 z/\z.heap[b6]?=some (Bl 33 [.int .i64 (en:Int),.slice none 0 0]))) [8,9] Br (⟨H.drew.ext,H.drew.get at0⟩) ?_))))))));refine AD U U ?_;refine B3 U (B3 U (G9 _ Ss Jv U U (fun _ hx=>(CX (b:=b6) (t:=33) (l:=[.int .i64 (en:Int),.slice none 0 0]) hx.2 0 [.int .i64 (en:Int),.slice none 0 0] rfl)) ?_));refine AU ?_;replace H:=H.drew;refine Al qB (FN a c 14 l 0 4 _ (R.ext0 H.ext) h14 (hm:=by decide)) U ?_;rintro v w ⟨rfl,hx54⟩;replace H:=H.call hx54;rw[f0];refine Ab (BH (⟨H.ext,H.get at0⟩) (AD U U ?_))
  refine PY U U Dc Vq (by omega) (AU (Al qB (FN a c 14 l 4 8 _ (R.ext0 H.ext) h14 (hm:=by decide)) U ?_));rintro v w ⟨rfl,hx57⟩;replace H:=H.call hx57;rw[f4];refine Ab (BH (⟨H.ext,H.get at0⟩) (AD U U ?_));refine Fs U (Fs U (AU (Bn Jv U U U (by simp[AY]) H at1 U ?_)));rintro w H;refine Ab (Bz U (AD U U ?_));refine AU (Ad U (Ab (Bz U (BF (A5 (JN U U (show _=(.int _ _)from rfl) (show _=(.int _ _)from rfl) U Ss Jv H at1 U (show _=(.int _ _)from rfl) ?_))))));exact⟨rfl,H.ext⟩
theorem Rn(c n:Nat)(k:Ak)(w:World)(h:MayB k)(hc:c<4294967296:=by decide)(hn:n<18446744073709551616:=by decide):
  Ret prog 51 #[.int .u32 (c:Int),.int .u64 (n:Int),.agg (BQ k).toArray] w fun v w'=>Fresh w w' 5 1 v ((EK c n k).map bv):=by
 obtain⟨w0,rfl,H⟩:=qE w;refine Au (fn:=f51) func51 U [.int .u32 (c:Int),.int .u64 (n:Int),.agg (BQ k).toArray] U (Ae (Bu (BQ k) (.agg _) U U H ?_));rintro b3 w - H;refine Am U (qA (Ae (Af U (Af U (Cg Kn FP U H at0 U ?_)))));have H5:=H;refine Al qB (Rm c n k _ hc hn h.p) U ?_;rintro v w ⟨s,rfl,F⟩;obtain⟨a6,c6,f6,rfl,O6,H6⟩:=GK F;refine Cr U (AH U U (AH U U (Am U (Ad U (qA (Ae (Ap U (Am U (qA ?_)))))))));refine A5 (AB (v:=(.slice _ _ _)) U U U ?_);exact Fresh.since F H5.ext
theorem U8{c n:Nat}{k:Ak}(h:MayB k)(hc:c<4294967296:=by decide)(hn:n<18446744073709551616:=by decide):DZ (EK c n k)=true/\gaC (EK c n k)=c/\gaN (EK c n k)=n/\Ig (EK c n k)=k:=by
 obtain⟨h1,h2,h3,h4⟩:=Aks hc hn h;obtain⟨-,-,h5,h6⟩:=XZ h1;exact⟨h1,h5.trans h2,h6.trans h3,h4⟩
theorem Tq{s s':Ld}{ls ls':List As}{l r:List UInt8}(h:HV s ls l s' ls' r)(hi:DZ l=true)(hf:FR ls (gaC l,gaN l)=none):∃p y,CN s (Ig l) s' p/\r=Kg (gaC l) (gaN l) p.e p.n/\y.c=gaC l/\y.n=gaN l/\y.ask=l/\y.rep=r/\ls'=Pi ls y:=by
 unfold HV at h;rw[if_neg (by rw[hi];decide),hf]at h;exact h
theorem Om{s s':Ld}{ls ls':List As}{l r:List UInt8}{x:As}(h:HV s ls l s' ls' r)(hi:DZ l=true)(hf:FR ls (gaC l,gaN l)=some x):s'=s/\ls'=ls/\r=if x.ask=l then x.rep else Kg (gaC l) (gaN l) 15 []:=by
 unfold HV at h;rw[if_neg (by rw[hi];decide),hf]at h;exact h
theorem Acj{s s':Ld}{ls ls':List As}{l r:List UInt8}(h:HV s ls l s' ls' r)(hi:DZ l=false):s'=s/\ls'=ls/\r=Kg 0 0 5 []:=by
 unfold HV at h;rw[if_pos hi]at h;exact h
theorem Dk.next{bk bl:Nat}{w0 w w':World}{E F:List (Nat × Obj)}{m:Lm}{s:Ld}{T:Nat->Prop}{ls:List As}(K:Dk bk bl w0 w E m s T ls)(H:Ctx w [] w' F):Dk bk bl w0 w' (F++E) m s T ls:=by
 obtain⟨bm,o,a,oo,c,full,bs,D⟩:=K;exact⟨bm,o,a,oo,c,full,bs,D.next H⟩
theorem Dk.call{bk bl:Nat}{w0 w w':World}{E:List (Nat × Obj)}{m:Lm}{s:Ld}{T:Nat->Prop}{ls:List As}(K:Dk bk bl w0 w E m s T ls)(h:Ext [] w w'):Dk bk bl w0 w' E m s T ls:=by
 obtain⟨bm,o,a,oo,c,full,bs,D⟩:=K;exact⟨bm,o,a,oo,c,full,bs,D.call h⟩
theorem Dk.own{bk bl:Nat}{w0 w:World}{E:List (Nat × Obj)}{m:Lm}{s:Ld}{T:Nat->Prop}{ls:List As}(K:Dk bk bl w0 w E m s T ls):∀x∈E,w.heap[x.1]?=some x.2:=by
 obtain⟨bm,o,a,oo,c,full,bs,D⟩:=K;exact fun x hx=>D.own x (qaf _ (qaf _ hx))
theorem Dk.ext{bk bl:Nat}{w0 w:World}{E:List (Nat × Obj)}{m:Lm}{s:Ld}{T:Nat->Prop}{ls:List As}(K:Dk bk bl w0 w E m s T ls):Ext [] w0 w:=by
 obtain⟨bm,o,a,oo,c,full,bs,D⟩:=K;exact D.L.H.ext
theorem do_in{bk bl:Nat}{w0 w:World}{E:List (Nat × Obj)}{m:Lm}{s:Ld}{T:Nat->Prop}{ls:List As}(K:Dk bk bl w0 w E m s T ls){a:Option Addr}{c:Nat}{l:List UInt8}(hB:BIn E a c l)(hl:l.length<=1000) :
  Ret prog 17 #[ptr bk,.slice a l.length c] w fun v w'=>Z3 bk bl w0 w w' E s T ls l v:=by
 obtain⟨bm,o,a,oo,c,full,bs,D⟩:=K;exact Aif D hB hl
theorem PB{bk bl:Nat}{w0 w w':World}{E:List (Nat × Obj)}{m:Lm}{s:Ld}{T:Nat->Prop}{ls:List As}(K:Dk bk bl w0 w E m s T ls){a:Option Addr}{c:Nat}{full:List Value}{l:List UInt8}(H:Ctx w [] w' (ent a 5 full))(O:OS a l.length c 1 full (l.map bv))(hl:l.length<=1000:=by omega):
  Ret prog 17 #[ptr bk,.slice a l.length c] w' fun v w''=>Z3 bk bl w0 w' w'' (ent a 5 full++E) s T ls l v :=
 do_in (K.next H) ⟨full,O,fun _ h=>qao _ h⟩ hl
theorem W6{x:As}{k:Nat × Nat}(h:Dg x=k):FR [x] k=some x:=by
 unfold FR;rw[List.find?_cons_of_pos (by rw[h];exact qan rfl)]
abbrev kO:Ak:=⟨1,0,0,0,0,0,0⟩
abbrev kB:Ak:=⟨10,0,0,0,0,0,0⟩
theorem U9:MayB kO:=⟨by decide,by decide,by decide,by decide,by decide,by decide,by decide⟩
theorem Aij:MayB kB:=⟨by decide,by decide,by decide,by decide,by decide,by decide,by decide⟩
abbrev s1:Ld:=⟨0,[a00],[],1,[],0⟩
theorem Ack{s':Ld}{p:Rp}(h:CN s00 kO s' p):s'=s1/\p=⟨0,[0]⟩:=by
 obtain⟨h1,h2⟩:=Wz h (by decide);exact⟨h1,h2⟩
theorem Ya{s':Ld}{ls':List As}{l r:List UInt8}(h:HV s00 [] l s' ls' r)(e:l=EK 1 1 kO):s'=s1/\r=Kg 1 1 0 [0]/\∃y,ls'=[y]/\Dg y=(1,1)/\y.ask=l/\y.rep=r:=by
 obtain⟨h1,h2,h3,h4⟩:=U8 (c:=1) (n:=1) U9;rw[<-e]at h1 h2 h3 h4;obtain⟨p,y,hs,hr,hc,hn,ha,hp,hl⟩:=Tq h h1 rfl;rw[h4]at hs;obtain⟨rfl,rfl⟩:=Ack hs;rw[h2,h3]at hr;exact⟨rfl,hr,y,hl,by unfold Dg;rw[hc,hn,h2,h3],ha,hp⟩
theorem Ro(w:World):Ret prog 13 #[] w fun v w'=>v=.bool true/\Ext [] w w':=by
 obtain⟨w0,rfl⟩:=qD w;obtain⟨l1,e1⟩:=qD (EK 1 1 kO);obtain⟨l3,e3⟩:=qD (EK 1 1 kB);have g1:=U8 (c:=1) (n:=1) U9;have g3:=U8 (c:=1) (n:=1) Aij;have n1:=Nv 1 1 kO;have n3:=Nv 1 1 kB;rw[<-e1]at g1 n1;rw[<-e3]at g3 n3
 have hne:l1≠l3:=fun h=>by
  have h2:=g3.2.2.2;rw[<-h,g1.2.2.2]at h2;cases h2
 have H:=Ctx.start w0 [];refine Au (fn:=f13) func13 U [] U (Ae (Ai U (qA (Ae (Al qB (Rl _) U ?_)))));rintro v w ⟨bk,bl,m0,T0,rfl,K⟩;refine Cn U (qA (Ae (A4 U (BA (BQ kO) OG IZ ?_))));refine Al qB (Rn 1 1 kO _ U9) U ?_;rintro v w F;rw[<-e1]at F;obtain⟨a15,c15,f15,rfl,O15,H15⟩:=GK F;refine Al qB (PB K H15 O15) U ?_;rintro v w ⟨r1,a16,c16,f16,m2,s2,T2,ls2,rfl,O16,S,K,-⟩;obtain⟨rfl,hr1,y,rfl,hky,hya,hyr⟩:=Ya S e1;refine Am U (qA (Ae (A4 U (BA (BQ kO) OG IZ ?_))));refine Al qB (Rn 1 1 kO _ U9) U ?_;rintro v w F;rw[<-e1]at F;obtain⟨a19,c19,f19,rfl,O19,H19⟩:=GK F;refine Al qB (PB K H19 O19) U ?_;rintro v w ⟨r2,a20,c20,f20,m3,s3,T3,ls3,rfl,O20,S,K,-⟩
 obtain⟨rfl,rfl,hr2⟩:=Om S g1.1 (W6 (by rw[g1.2.1,g1.2.2.1];exact hky));rw[if_pos hya,hyr]at hr2;subst hr2;refine Am U (qA (Ae (A4 U (BA (BQ kB) OG IZ ?_))));refine Al qB (Rn 1 1 kB _ Aij) U ?_;rintro v w F;rw[<-e3]at F;obtain⟨a24,c24,f24,rfl,O24,H24⟩:=GK F;have fy:FR [y] (gaC l3,gaN l3)=some y:=W6 (by rw[g3.2.1,g3.2.2.1];exact hky);refine Al qB (PB K H24 O24) U ?_;rintro v w ⟨r3,a25,c25,f25,m4,s4,T4,ls4,rfl,O25,S,K,-⟩;obtain⟨rfl,rfl,hr3⟩:=Om S g3.1 fy;rw[if_neg (by rw[hya];exact hne),g3.2.1,g3.2.2.1]at hr3;refine Al qB (Tp a25 c25 _ r3 1 1 15 _ (OS.rdB O25 (fun x hx=>K.own x (qao _ hx))) U hr3) U ?_;rintro v w ⟨rfl,hx⟩;replace K:=K.call hx;replace H:=Ctx.start w [];refine Cr U (AH U U (AH U U (AH U U (AH U U (Bc KX H ?_)))))
 rintro b6 w - H;refine Ad U (Ad U (Bn Jv U U U (by exact(by simp[AY])) H at0 U ?_));rintro w H;refine Ad U (qA ?_)
 replace K:=K.next H
 replace H:=Ctx.start w [];refine Ae (A4 U (Cp _ (.int _ _) De IK Vr U U U U H ?_));rintro b33 w - H;refine Al qB (PB (a:=some ⟨b33,0,none⟩) (c:=1) (full:=[.int .u8 1]) (l:=[1]) K H ⟨(fun p hp=>by cases hp;rfl),(fun h=>by cases h),rfl,qam _,rfl⟩ (hl:=by decide)) U ?_;rintro v w ⟨r4,a34,c34,f34,m5,s5,T5,ls5,rfl,O34,S,K,-⟩;obtain⟨rfl,rfl,hr4⟩:=Acj S rfl;refine Al qB (Tp a34 c34 _ r4 0 0 5 _ (OS.rdB O34 (fun x hx=>K.own x (qao _ hx))) U hr4) U ?_;rintro v w ⟨rfl,hx⟩;replace K:=K.call hx;replace H:=Ctx.start w [];refine Cr U (AH U U (AH U U (AH U U (AH U U (Bc KX H ?_)))));rintro b10 w - H;refine Ad U (Ad U (Bn Jv U U U (by exact(by simp[AY])) H at0 U ?_));rintro w H;refine Ad U (qA ?_)
 replace K:=K.next H
 replace H:=Ctx.start w [];have h10:w.heap[b10]?=some (Bl 33 [.int .i64 5,.slice none 0 0]):=K.own (b10,_) (qao _ (qak ..));have h6:w.heap[b6]?=some (Bl 33 [.int .i64 15,.slice none 0 0]):=K.own (b6,_) (qaf _ (qaf _ (qaf _ (qao _ (qak ..)))));have R16:Rd w a16 1 B8 r2:=OS.rdB O16 (fun x hx=>K.own x (qaf _ (qaf _ (qaf _ (qaf _ (qaf _ (qaf _ (qaf _ (qaf _ (qao _ hx))))))))));have R20:Rd w a20 1 B8 r2:=OS.rdB O20 (fun x hx=>K.own x (qaf _ (qaf _ (qaf _ (qaf _ (qaf _ (qaf _ (qao _ hx))))))))
 have h22:r2.length=22:=by rw[hr1,Nw];rfl
 refine Ae (Ap U (JJ (l:=r2) De Hr NO U R16 ?_));refine Ap U (JJ (l:=r2) De Hr NO U R20 ?_);refine UP (l:=r2) (m:=r2) U U U ?_;rw[show decide (r2=r2)=true from qan rfl,h22];refine A2 U (Ap U (Be De U (C3 U U (AA U (.bool _) U (A2 U (A4 U (Al qB (To K) U ?_)))))));rintro v w ⟨hx,z,a52,n52,c52,rfl,Z,-⟩;have hE:=(Dk.ext K).trans hx;replace h6:=hx.to h6 (by simp);replace h10:=hx.to h10 (by simp);replace H:=Ctx.start w [];refine ZZ (off:=1) (v := .slice z.aA 1 z.cA) U U U (Be EQ U (C3 U U (AA U (.bool _) U (A2 U (Af U (C3 U U (AA U (.bool _) U (A2 U (Ah MS U (Bb Sr U ((by rw[Aj h6];rfl)) ?_))))))))));refine C3 U U (AA U (.bool _) U (A2 U (Af U (C3 U U (AA U (.bool _) U (A2 U (Ah MS U (Bb Sr U ((by rw[Aj h10];rfl)) ?_))))))))
 refine C3 U U (AA U (.bool _) U (Ai U (qA (A5 (AB (v:=(.bool _)) U U U ?_)))));exact⟨rfl,hE⟩
theorem Alg{la lb:List As}(h:la.map DQ=lb.map DQ){i:Nat}{x y:As}(hx:la[i]?=some x)(hy:lb[i]?=some y):x.c=y.c/\x.n=y.n/\x.ask=y.ask/\x.rep=y.rep:=by
 have h1:=qaa (fun l:List (Nat × Nat × List UInt8 × List UInt8)=>l[i]?) h;simp only[qa1,hx,hy,qcz,qb3,DQ,qc3]at h1;exact h1
theorem Acl(a b:Option Addr)(c d:Nat)(la lb:List As)(w:World)(h:la.map DQ=lb.map DQ)(hl:la.length<=1000)(Ra:Rd w a 4 asC la)(Rb:Rd w b 4 asC lb)(hA:∀y∈la,AsR w y)(hB:∀y∈lb,AsR w y) :
  Ret prog 60 #[.slice a la.length c,.slice b lb.length d] w fun v w'=>v=.bool true/\Ext [] w w':=by
 have hlen:lb.length=la.length:=by
  have:=qaa List.length h;rw[qal,qal]at this;exact this.symm
 rw[hlen];obtain⟨w0,rfl,H⟩:=qE w;refine Au (fn:=f60) func60 U [.slice a la.length c,.slice b la.length d] U (Ae (Ai U (qA (Ax (Ae (Ap U (Be IW U (Ap U (Be IW U (CK U U ?_))))))))));rw[show(!decide ((la.length:Int)=(la.length:Int)))=false from by simp];refine qA (FE U (Ay (Aa (Ax (Ae (Ad U (qA (A1 (Bw 2361183241434822604848 (α:=Nat) (fun i=>[(5,.int .i64 (i:Int))]) (fun i w'=>i<=la.length/\Ctx w0 [] w' []) (fun i=>la.length - i) 0 U ?_ ?_ ?_)))))))))
 .exact⟨rfl,trivial⟩
 .exact⟨qaq _,H⟩
 .clear H;rintro i j w ⟨hi,H⟩;refine Ax (Ae (Af U (Ap U (Be IW U (Bm U U (qA (Aw _ U ?_ ?_)))))))
  .intro h2;replace h2:=AM h2;obtain⟨x,hxi⟩:=AE (l:=la) (i:=i);obtain⟨y,hyi⟩:=AE (l:=lb) (i:=i);obtain⟨e1,e2,e3,e4⟩:=Alg h hxi hyi;have Xa:=hA x (qac hxi);have Xb:=hB y (qac hyi);have hl2:y.ask.length=x.ask.length:=by rw[e3]
   have hl3:y.rep.length=x.rep.length:=by rw[e4]
   refine Ay (Aa (Ax (A1 (DT (fun x=>x=_) Br U ?_))));refine Ca U (AX U (BL Ra IW Ix U U (by rfl) ?_));refine A6 TQ U (BX Yy U (by rintro _ rfl;exact(((Ra.ext0 H.drew.ext).fld hxi rfl (j:=0) rfl))) ?_);refine Ca U (AX U (BL Rb IW Ix U U (by omega) ?_));refine A6 TQ U (BX Yy U (by rintro _ rfl;exact(((Rb.ext0 H.drew.ext).fld hyi rfl (j:=0) rfl))) ?_);refine Ox U U ?_;rw[show(!decide ((x.c:Int)=(y.c:Int)))=false from by rw[e1];simp];refine CW U (Ca U (AX U (BL Ra IW Ix U U (by rfl) ?_)));refine A6 TR U (BX B6 U (by rintro _ rfl;exact(((Ra.ext0 H.drew.ext).fld hxi rfl (j:=1) rfl))) ?_);refine Ca U (AX U (BL Rb IW Ix U U (by omega) ?_));refine A6 TR U (BX B6 U (by rintro _ rfl;exact(((Rb.ext0 H.drew.ext).fld hyi rfl (j:=1) rfl))) ?_)
   refine Ox U U ?_;rw[show(!decide ((x.n:Int)=(y.n:Int)))=false from by rw[e2];simp];refine Gh U (.bool _) U (CW U (Ca U (AX U (BL Ra IW Ix U U (by rfl) ?_))));refine A6 MV U (BX Js U (by rintro _ rfl;exact(((Ra.ext0 H.drew.ext).fld hxi rfl (j:=2) rfl))) ?_);refine TD (l:=x.ask) U De Hr NO U (by rintro _ rfl;exact Xa.A.ext0 H.drew.ext) ?_;refine Ca U (AX U (BL Rb IW Ix U U (by omega) ?_));refine A6 MV U (BX Js U (by rintro _ rfl;exact(((Rb.ext0 H.drew.ext).fld hyi rfl (j:=2) rfl))) ?_);refine TD (l:=y.ask) U De Hr NO U (by rintro _ rfl;exact Xb.A.ext0 H.drew.ext) ?_;refine Yp (l:=x.ask) (m:=y.ask) U U U ?_;rw[show(!decide (x.ask=y.ask))=false from by rw[e3];simp];refine Gh U (.bool _) U (CW U (Ca U (AX U (BL Ra IW Ix U U (by rfl) ?_))))
   refine A6 MW U (BX Js U (by rintro _ rfl;exact(((Ra.ext0 H.drew.ext).fld hxi rfl (j:=3) rfl))) ?_);refine TD (l:=x.rep) U De Hr NO U (by rintro _ rfl;exact Xa.R.ext0 H.drew.ext) ?_;refine Ca U (AX U (BL Rb IW Ix U U (by omega) ?_));refine A6 MW U (BX Js U (by rintro _ rfl;exact(((Rb.ext0 H.drew.ext).fld hyi rfl (j:=3) rfl))) ?_);refine TD (l:=y.rep) U De Hr NO U (by rintro _ rfl;exact Xb.R.ext0 H.drew.ext) ?_;refine Yp (l:=x.rep) (m:=y.rep) U U U ?_;rw[show(!decide (x.rep=y.rep))=false from by rw[e4];simp];refine Gh U (.bool _) U (BS ?_);rintro _ rfl;replace H:=H.drew;refine Aw _ U ?_ ?_
   .intro h3;cases h3
   .intro h3;refine Ay (A8 (Aa (A0 (Af U (Az U U ?_)))));refine Ad U (qA ?_);exact⟨i+1,rfl,⟨rfl,trivial⟩,⟨by omega,H⟩,by omega⟩
  .intro h2;replace h2:=AN h2;refine Bt (An (An (AK (Aa (Ae (Ai U (qA (A5 (AB (v:=(.bool _)) U U U ?_)))))))));exact⟨rfl,H.ext⟩
theorem Acm{s:Ld}{z y:StZ}(a b:Option Addr)(c d:Nat)(la lb:List As)(w:World)(hok:s.Ok)(Z:StAt w s z)(Y:StAt w s y)(h:la.map DQ=lb.map DQ)(hl:la.length<=1000)(Ra:Rd w a 4 asC la)(Rb:Rd w b 4 asC lb)(hA:∀y∈la,AsR w y)(hB:∀y∈lb,AsR w y) :
  Ret prog 18 #[.agg (stA s z a la.length c).toArray,.agg (stA s y b lb.length d).toArray] w fun v w'=>v=.bool true/\Ext [] w w':=by
 have h16:=(Cv.1 hok.ac).1;have h64:=(FA hok.du).1;have h4:=hok.kept.1;obtain⟨w0,rfl,H⟩:=qE w;refine Au (fn:=Tryz.f18) func18 U [.agg (stA s z a la.length c).toArray,.agg (stA s y b lb.length d).toArray] U (Ae (Bu (stA s z a la.length c) (.agg _) U U H ?_));rintro b2 w - H;refine Bu (stA s y b lb.length d) (.agg _) U U H ?_;rintro b3 w - H;refine Ai U (qA (Ae (Cg Vl OH U H at1 U (Cg Vl OH U H at0 U (Al qB (Ah8 (u := .slice a la.length c) (u2 := .slice b lb.length d) _ (Z.ext0 H.ext) (Y.ext0 H.ext) (fun r hr=>U5 (hok.may r hr))) U ?_)))));rintro v w ⟨rfl,hx⟩;replace H:=H.call hx
 refine A2 U (Ah Py U (AG Adh U H at1 U (Ah Py U (AG Adh U H at0 U (Al qB (Acl a b c d la lb _ h hl (Ra.ext0 H.ext) (Rb.ext0 H.ext) (fun y hy=>(hA y hy).ext0 H.ext) (fun y hy=>(hB y hy).ext0 H.ext)) U ?_)))));rintro v w ⟨rfl,hx⟩;replace H:=H.call hx;refine AA U (.bool _) U (Ai U (qA (A5 (AB (v:=(.bool _)) U U U ?_))));exact⟨rfl,H.ext⟩
end Go.Proofs.YtffclglpjlcojaaGreat
