/- Part 10 of the proof. -/
import Derived.Test.YtffclglpjlcojaaGreatPart9
set_option maxRecDepth 20000
set_option maxHeartbeats 8000000
namespace Go.Proofs.YtffclglpjlcojaaGreat
open Go.GV Go.Proofs.Tryz
attribute [local irreducible] AG W Wq Wt
theorem perm5{α:Type}{a b c d e:α}{r:List α}:(a::b::c::d::e::r).Perm (d::a::e::b::c::r) :=
 (qbq (l₁:=[a,b,c]) (l₂:=e::r)).trans (((qbq (l₁:=[b,c]) (l₂:=r)).cons _).cons _)
def nrm(k:Nat)(f:Nat->Int):Nat->Int:=fun i=>if i<k then f i else 0
def BitN(x r:Nat):Prop:=x<2 ^ r/\(0<x->2 ^ r<=2*x)/\(x=0->r=0)
theorem Acg{x r q:Nat}(h:BitN x r)(k:BitN x q):r<=q:=by
 rcases qcw x with e|e
 .rw[h.2.2 e];exact qaj _
 .have h1:=h.2.1 e;have h2:=k.1
  rcases qap q r with h3|h3
  .have h4:2 ^ (q+1)<=2 ^ r:=Nat.pow_le_pow_right (by decide) h3;rw[Nat.pow_succ]at h4;omega
  .exact h3
def Uk(es:List Ed):Nat->Nat->Prop
 |0,m=>m=0
 |i+1,m=>∃m0 r,Uk es i m0/\BitN (Ck es i).toNat r/\m=max m0 r
theorem Ul{es:List Ed}:∀{i m q:Nat},Uk es i m->Uk es i q->m=q
 |0,_,_,h,k=>h.trans k.symm
 |i+1,_,_,⟨m0,r,h1,h2,h3⟩,⟨q0,s,k1,k2,k3⟩=>by
  have h4:=Ul h1 k1;have h5:=Acg h2 k2;have h6:=Acg k2 h2;omega
inductive Fills (es:List Ed) (n:Nat):(Nat->Int)->(Nat->Int)->(Nat->Int)->(Nat->Int)->(Nat->Int)->(Nat->Int)->Prop
 |stop {x p ov x' p' ov':Nat->Int} (h:Py es n (nrm es.length x) (nrm n p) ov false x' p' ov'):Fills es n x p ov x' p' ov'
 |go {x p ov x1 p1 ov1 x' p' ov':Nat->Int} (h:Py es n (nrm es.length x) (nrm n p) ov true x1 p1 ov1) (k:Fills es n x1 p1 ov1 x' p' ov'):Fills es n x p ov x' p' ov'
theorem Y2{es:List Ed}{n:Nat}{x p ov x' p' ov':Nat->Int}(h:Fills es n x p ov x' p' ov'):∀{x2 p2 ov2:Nat->Int},Fills es n x p ov x2 p2 ov2->x'=x2/\p'=p2:=by
 induction h with
 |stop h =>
  intro x2 p2 ov2 k
  cases k with
  |stop k=>exact⟨(K5 h k).2.1,(K5 h k).2.2.1⟩
  |go k _=>have:=(K5 h k).1;cases this
 |go h _ ih =>
  intro x2 p2 ov2 k
  cases k with
  |stop k=>have:=(K5 h k).1;cases this
  |go k k2 =>
   obtain⟨-,rfl,rfl,rfl⟩:=K5 h k;exact ih k2
def Np(es:List Ed)(n:Nat):Nat->(Nat->Int)->(Nat->Int)->(Nat->Int)->(Nat->Int)->Prop
 |0,x,p,xf,pf=>xf=x/\pf=p
 |j+1,x,p,xf,pf=>∃x1 x' p' ov',x1=JU (grE (n:Int) es) (FO es j) x p/\Fills (esC es (FO es j)) n x1 p (BD (grE (n:Int) es) x1) x' p' ov'/\Np es n j x' p' xf pf
theorem PD{es:List Ed}{n:Nat}:∀{j:Nat} {x p xf pf xg pg:Nat->Int},Np es n j x p xf pf->Np es n j x p xg pg->xf=xg/\pf=pg
 |0,_,_,_,_,_,_,⟨h1,h2⟩,⟨k1,k2⟩=>⟨h1.trans k1.symm,h2.trans k2.symm⟩
 |j+1,_,_,_,_,_,_,⟨x1,x',p',ov',h1,h2,h3⟩,⟨y1,y',q',ow',k1,k2,k3⟩=>by
  subst h1 k1;obtain⟨rfl,rfl⟩:=Y2 h2 k2;exact PD h3 k3
def WT(es:List Ed)(n:Nat)(x p:Nat->Int):Prop:=∃m,Uk es es.length m/\Np es n m (fun _=>0) (fun _=>0) x p
theorem Ach{es:List Ed}{n:Nat}{x p x' p':Nat->Int}(h:WT es n x p)(k:WT es n x' p'):x=x'/\p=p':=by
 obtain⟨m,h1,h2⟩:=h;obtain⟨q,k1,k2⟩:=k;obtain rfl:=Ul h1 k1;exact PD h2 k2
theorem Um(f:Nat->Int)(n:Nat):∃f1:Nat->Int,f1=nrm n f/\BZ f n=BZ f1 n/\flE (tab f1 n)=f1/\EQ (tab f1 n)=f1/\∀i,i<n->f1 i=f i:=by
 refine⟨fun i=>if i<n then f i else 0,rfl,qbl fun i hi=>by dsimp only;rw[if_pos (qa6.1 hi)],?_,?_,fun i hi=>if_pos hi⟩
 all_goals
  funext i
  first|unfold flE|unfold EQ
  rcases qap i n with h|h
  .rw[Bs (BW h)]
  .rw[qbk,qa9 (by rw[Di];exact h)];exact(if_neg (by omega)).symm
theorem Aci{g:Gr}{cap x y p:Nat->Int}(h:Fine g cap x p)(hy:∀i,i<g.E->y i=x i):Fine g cap y p:=by
 refine⟨fun i hi=>by rw[hy i hi];exact h.in' i hi,fun a ha hr=>h.fit a ha ?_⟩;unfold CB at hr |-;rw[hy _ (by omega)]at hr;exact hr
theorem Alg{w:World}{bs bf bp bo:Nat}{N n:Nat}{ae:Option Addr}{ce:Nat}{kk:Int}{es:List Ed}{x p ov:Nat->Int}{full:List Value}{g:Gr}{cap:Nat->Int}(hn:es.length=n)(hg:grE (N:Int) es=g)(hcap:∀i,i<n->Ck es i=cap i)(H0:Ctx w ((SL bs bf bp bo N ae n ce kk x p ov full).map (·.1)) w (SL bs bf bp bo N ae n ce kk x p ov full))(O:OS ae n ce 4 full (es.flatMap CJ))(hr:C2 (N:Int) es=true)(hF:Fine g cap x p)(hov:∀v,v<N->ov v=BD g x v)(hpb:∀v,v<N -> -1073741824<=p v/\p v<=1073741824) :
  Ret prog 145 #[ptr bs] w fun v w'=>∃(b:Bool) (x' p' ov':Nat->Int) (kk':Int),v=.bool b/\Ctx w ((SL bs bf bp bo N ae n ce kk x p ov full).map (·.1)) w' (SL bs bf bp bo N ae n ce kk' x' p' ov' full)/\Fine g cap x' p'/\(∀v,v<N->ov' v=BD g x' v)/\(∀v,v<N -> -1073741824<=p' v/\p' v<=1073741824) /\
   (b=false->∀v,v<N->BD g x' v<=0)/\(b=true->Im g x'+1<=Im g x)/\Py es N (nrm es.length x) (nrm N p) ov b x' p' ov':=by
 subst hn hg;obtain⟨x1,hx9,hx1,hxn,-,hxe⟩:=Um x es.length;obtain⟨p1,hp9,hp1,-,hpn,hpe⟩:=Um p N;have hgo:=JF hr;have hsl:SL bs bf bp bo N ae es.length ce kk x p ov full=SL bs bf bp bo N ae es.length ce kk x1 p1 ov full:=by unfold SL;rw[hx1,hp1]
 have hF1:Fine (grE (N:Int) es) (Ck es) x1 p1:=Pv hgo (Aci (Nj hF hcap) hxe) hpe;have hov1:∀v,BD (grE (N:Int) es) x1 v=BD (grE (N:Int) es) x v:=fun v=>LG hxe v;have hex:Im (grE (N:Int) es) x1=Im (grE (N:Int) es) x:=C3 fun v _=>by rw[hov1]
 rw[hsl]at H0 |-;refine Ret.mono (Afs H0 O hr hF1 (fun v hv=>by rw[hov1];exact hov v hv) (fun v hv=>by rw[hpe v hv];exact hpb v hv) hxn hpn) ?_;rintro v w' ⟨b,x',p',ov',kk',h1,h2,h3,h4,h5,h6,h7,h8⟩;exact⟨b,x',p',ov',kk',h1,h2,Nj h3 fun i hi=>(hcap i hi).symm,h4,h5,h6,(fun h=>by rw[<-hex];exact h7 h),by rw[<-hx9,<-hp9];exact h8⟩
theorem Acj(g:Gr)(v:Nat):BD g (fun _=>0) v=0:=by
 have:BD g (fun _=>0) v=BC (fun _=>0) g.E:=C3 fun i _=>by rw[Int.mul_zero]
 rw[this,Hh]
structure PSt where
 j:Nat
 full:List Value
 x:Nat->Int
 p:Nat->Int
 ov:Nat->Int
 kk:Int
structure FSt where
 x:Nat->Int
 p:Nat->Int
 ov:Nat->Int
 kk:Int
theorem Af7(N:Nat)(a:Option Addr)(c:Nat)(es:List Ed)(w:World)(R:Rd w a 4 CJ es)(hr:C2 (N:Int) es=true) :
  Ret prog 117 #[DV (N:Int) a es.length c] w fun v w'=>∃(bf bp:Nat) (x p:Nat->Int) (k:Int),v=.tuple #[TJ (some ⟨bf,0,none⟩) (some ⟨bp,0,none⟩) es.length es.length N N,.int .i64 k,.int .i64 0]/\Fine (grE (N:Int) es) (Ck es) x p/\(∀v,v<N->BD (grE (N:Int) es) x v=0)/\(∀v,v<N -> -1073741824<=p v/\p v<=1073741824)/\WT es N x p/\Ctx w [] w' [(bf,Bl 2 (BZ x es.length)),(bp,Bl 2 (BZ p N))]:=by
 obtain⟨w0,rfl,H⟩:=qE w;obtain⟨hN1,hN40,hn200,hall,-⟩:=CM hr;have hI:I64 (N:Int):=by unfold I64;omega
 refine Ay (fn:=f117) func117 U [DV (N:Int) a es.length c] U (Ad (Br [.int .i64 (N:Int),.slice a es.length c] (.agg _) U U H ?_));rintro b1 w - H;refine AU So H ?_;rintro b2 w - H;refine Ae U (Ae U (qA (RU (Ao (Ad (Cj C7 Cp U H at1 U (Al qB (M4 (N:Int) a es.length c es _ (R.ext0 H.ext) U hI) U ?_)))))));rintro v w ⟨rfl,hx11⟩;replace H:=H.call hx11;refine BE U (qA (An _ U ?_ ?_))
 .intro h1;replace h1:=B7 h1;rw[hr]at h1;cases h1
 .intro h1;replace h1:=B9 h1;refine Aq (Aa (DQ 8589918240 (α:=Nat × Nat × Nat × Nat × Nat × Nat × List Value) (fun z=>[(5,ptr z.1)]) (fun z w'=>OS (some ⟨z.2.2.2.2.1,0,none⟩) es.length z.2.2.2.2.2.1 4 z.2.2.2.2.2.2 (es.flatMap CJ)/\Ctx w0 [] w' [(z.2.1,Bl 2 (BZ (fun _=>0) es.length)),(z.2.2.2.1,Bl 2 (BZ (fun _=>0) N)),(z.2.2.2.2.1,Bl 158 z.2.2.2.2.2.2),(z.1,Bl 217 (SC N (some ⟨z.2.2.2.2.1,0,none⟩) es.length z.2.2.2.2.2.1 z.2.1 z.2.2.1 z.2.2.2.1 0)),(z.2.2.1,Bl 2 (BZ (fun _=>0) N)),(b2,Bl 125 [.slice none 0 0,.slice none 0 0]),(b1,Bl 123 [.int .i64 (N:Int),.slice a es.length c])]) U ?_ ?_))
  .skip
   have hb1:=H.get at1;refine XC (n:=19) (anc:=Hs) Bk.b (Ahq es.length es) (fun i=>14+i) (TU b1 N es.length a c) (Ht N es.length) (show Tryz.prog.follows .mixedOrders=true by kernel_rfl) U ?_ (fun i j _ _ h=>by have h:14+i=14+j:=h;omega) (fun i k b B=>sStab b1 N es.length a c i k b B) ?_ ?_
   .intro k hk;have:k=0\/k=1\/k=2\/k=3\/k=4\/k=5\/k=6\/k=7\/k=8\/k=9\/k=10\/k=11\/k=12\/k=13\/k=14\/k=15\/k=16\/k=17\/k=18:=by omega
    simp[Hs];omega
   .intro i o e' w' B hi ho hold hsl hx hbl hgd;have h4:e'.g 1=ptr b1:=(hold 1 fun j hj h=>by have h:1=14+j:=h;omega).trans rfl;have hc4:w'.heap[b1]?=some (Bl 123 [.int .i64 (N:Int),.slice a es.length c]):=hx.to (by exact hb1) (by simp);have hcs:i=0\/i=1\/i=2\/i=3\/i=4\/i=5\/i=6\/i=7\/i=8\/i=9\/i=10\/i=11\/i=12\/i=13\/i=14\/i=15\/i=16\/i=17\/i=18:=by omega
    have hpure:∀{v:Value},Ht N es.length i=none->i≠5->TU b1 N es.length a c i (Ki B i default)=v->AQB Bk.b (Ahq es.length es) (fun i=>14+i) (TU b1 N es.length a c) (Ht N es.length) i e' w' B (put e' (some (14+i)) v) w':=fun h1 h5 h2=>⟨default,fun h=>absurd h h5,fun ob h=>(by rw[h1]at h;cases h),.refl _ _,by rw[h2]⟩
    rcases hcs with rfl|rfl|rfl|rfl|rfl|rfl|rfl|rfl|rfl|rfl|rfl|rfl|rfl|rfl|rfl|rfl|rfl|rfl|rfl
    .cases qam ho;exact Ah (by kernel_rfl) h4 (Ab (hpure U (by decide) U))
    .cases qam ho;exact Bc Cd (hsl 0 (by simp[Hs])) (by rw[Aj hc4];rfl) (Ab (hpure U (by decide) U))
    .cases qam ho;refine GA C8 C9 (Ctx.start w' []) fun b w2 H O=>?_;have hbb:=H.blk (b,_) (qai ..);exact Ab ⟨⟨b,0,[]⟩,(fun h=>by cases h),fun ob h=>(by obtain rfl:=qam h;exact⟨(H.own _ (qai ..)).elim (fun h=>by cases h) id,hbb⟩),H.ext,rfl⟩
    .cases qam ho;exact Ah (by kernel_rfl) h4 (Ab (hpure U (by decide) U))
    .cases qam ho;exact Bc D7 (hsl 3 (by simp[Hs])) (by rw[Aj hc4];rfl) (Ab (hpure U (by decide) U))
    .cases qam ho;have h16:e'.g 16=.slice (some ⟨(B 2).b,0,none⟩) 0 0:=hsl 2 (by simp[Hs]);have h18:e'.g 18=.slice a es.length c:=hsl 4 (by simp[Hs])
     by_cases hn:es.length=0
     .rw[hn]at h18;exact Tu U C8 C8 C9 h16 h18 (Ab ⟨default,fun _ => .inl hn,fun ob h=>(by simp[Ht,hn]at h),.refl _ _,by simp[TU,sQ,hn,Ki]⟩)
     .refine UZ U C8 C8 C9 Vi FZ U (es.flatMap CJ) h16 h18 (EY fun _ _=>rfl) (Rd.app (R.ext0 ((H.ext.trans (Ext.drew [] _)).trans hx)) (fun _ _=>rfl) (by decide)) fun b c' full' w2 hb hx2 hbl2 O2=>?_;exact Ab ⟨⟨b,c',full'⟩,fun _ => .inr O2,fun ob h=>(by simp only[Ht,hn]at h;simp at h;subst h;exact⟨by dsimp only;omega,by dsimp only;rw[Jd];exact hbl2⟩),hx2,by simp[TU,sQ,hn,Ki]⟩
    .cases qam ho;refine Bx [.int .i64 (N:Int),.slice (some ⟨(sQ es.length B).b,0,none⟩) es.length (sQ es.length B).c] Aki Ks (hl:=?_) (Ab (hpure U (by decide) U));show Instr.fill _ _ [(0,e'.g 15),(1,e'.g 19)]=_;rw[show e'.g 15=.int .i64 (N:Int)from hsl 1 (by simp[Hs]),show e'.g 19=.slice (some ⟨(sQ es.length B).b,0,none⟩) es.length (sQ es.length B).c from hsl 5 (by simp[Hs])];rfl
    .cases qam ho;exact Ah (by kernel_rfl) h4 (Ab (hpure U (by decide) U))
    .cases qam ho;exact Bc D7 (hsl 7 (by simp[Hs])) (by rw[Aj hc4];rfl) (Ab (hpure U (by decide) U))
    .cases qam ho;exact Ba C8 (hsl 8 (by simp[Hs])) (Ab (hpure U (by decide) U))
    .cases qam ho;refine HI AV B2 LB E5 (hsl 9 (by simp[Hs])) (hsl 9 (by simp[Hs])) (Ctx.start w' []) fun b w2 hb H=>?_;have hbb:=H.get at0;rw[show((es.length:Nat):Int).toNat=es.length from rfl,Fe]at hbb;exact Ab ⟨⟨b,0,[]⟩,(fun h=>by cases h),fun ob h=>(by obtain rfl:=qam h;exact⟨by dsimp only;omega,hbb⟩),H.ext,rfl⟩
    .cases qam ho;exact Ah (by kernel_rfl) h4 (Ab (hpure U (by decide) U))
    .cases qam ho;exact Bc Cd (hsl 11 (by simp[Hs])) (by rw[Aj hc4];rfl) (Ab (hpure U (by decide) U))
    .cases qam ho;refine HI AV B2 LB E5 (hsl 12 (by simp[Hs])) (hsl 12 (by simp[Hs])) (Ctx.start w' []) fun b w2 hb H=>?_;have hbb:=H.get at0;rw[show((N:Nat):Int).toNat=N from rfl,Fe]at hbb;exact Ab ⟨⟨b,0,[]⟩,(fun h=>by cases h),fun ob h=>(by obtain rfl:=qam h;exact⟨by dsimp only;omega,hbb⟩),H.ext,rfl⟩
    .cases qam ho;exact Ah (by kernel_rfl) h4 (Ab (hpure U (by decide) U))
    .cases qam ho;exact Bc Cd (hsl 14 (by simp[Hs])) (by rw[Aj hc4];rfl) (Ab (hpure U (by decide) U))
    .cases qam ho;refine HI AV B2 LB E5 (hsl 15 (by simp[Hs])) (hsl 15 (by simp[Hs])) (Ctx.start w' []) fun b w2 hb H=>?_;have hbb:=H.get at0;rw[show((N:Nat):Int).toNat=N from rfl,Fe]at hbb;exact Ab ⟨⟨b,0,[]⟩,(fun h=>by cases h),fun ob h=>(by obtain rfl:=qam h;exact⟨by dsimp only;omega,hbb⟩),H.ext,rfl⟩
    .cases qam ho;refine Bx (sSC N es.length B) Akj Akp (hl:=?_) (Ab (hpure U (by decide) U));show Instr.fill _ _ [(0,e'.g 20),(1,e'.g 24),(2,e'.g 27),(3,e'.g 30)]=_;rw[show e'.g 20=.agg #[.int .i64 (N:Int),.slice (some ⟨(sQ es.length B).b,0,none⟩) es.length (sQ es.length B).c]from hsl 6 (by simp[Hs]),show e'.g 24=.slice (some ⟨(B 10).b,0,none⟩) es.length es.length from hsl 10 (by simp[Hs]),show e'.g 27=.slice (some ⟨(B 13).b,0,none⟩) N N from hsl 13 (by simp[Hs]),show e'.g 30=.slice (some ⟨(B 16).b,0,none⟩) N N from hsl 16 (by simp[Hs])];rfl
    .cases qam ho;refine Br (sSC N es.length B) (.agg _) (hsl 17 (by simp[Hs])) U (Ctx.start w' []) fun b w2 hb H=>?_;exact Ab ⟨⟨b,0,[]⟩,(fun h=>by cases h),fun ob h=>(by obtain rfl:=qam h;exact⟨by dsimp only;omega,H.get at0⟩),H.ext,rfl⟩
   .intro o e' w' B ho A;have hl1:=AY hb1;have hl2:=AY (H.get at0);have h9:w.drew.heap.size=w.heap.size:=rfl
    obtain⟨iq,hiq,hqb,hqh,hqo,O5⟩:∃iq,(iq=2\/iq=5)/\(sQ es.length B).b=(B iq).b/\w'.heap[(B iq).b]?=some (Bl 158 (sQ es.length B).f)/\(Ht N es.length iq≠none)/\OS (some ⟨(sQ es.length B).b,0,none⟩) es.length (sQ es.length B).c 4 (sQ es.length B).f (es.flatMap CJ):=by
     by_cases hn:es.length=0
     .have he:es=[]:=qbt hn;have hsq:sQ es.length B=⟨(B 2).b,0,[]⟩:=if_pos hn;rw[hsq];refine⟨2,.inl rfl,rfl,(A.blk 2 _ (by omega) trivial (show Ht N es.length 2=some _ from rfl)).1,by simp[Ht],?_⟩;subst he;exact⟨(fun q hq=>by injection hq with hq;subst hq;rfl),(fun h=>by cases h),rfl,qan _,rfl⟩
     .have hsq:sQ es.length B=B 5:=if_neg hn;have ho5:Ht N es.length 5=some fun B=>Bl 158 (B 5).f:=by simp[Ht,hn]
      rw[hsq];exact⟨5,.inr rfl,rfl,(A.blk 5 _ (by omega) trivial ho5).1,by rw[ho5];simp,(A.good 5 (by omega) trivial rfl).resolve_left hn⟩
    have hiq19:iq<19:=by omega
    have ob10:Ht N es.length 10≠none:=by simp[Ht]
    have ob13:Ht N es.length 13≠none:=by simp[Ht]
    have ob16:Ht N es.length 16≠none:=by simp[Ht]
    have ob18:Ht N es.length 18≠none:=by simp[Ht]
    have hne:=fun i j hi hj hij oi oj=>A.ne i j hi hj hij trivial trivial oi oj;have k10:=A.blk 10 _ (by omega) trivial (show Ht N es.length 10=some _ from rfl);have k13:=A.blk 13 _ (by omega) trivial (show Ht N es.length 13=some _ from rfl);have k16:=A.blk 16 _ (by omega) trivial (show Ht N es.length 16=some _ from rfl);have k18:=A.blk 18 _ (by omega) trivial (show Ht N es.length 18=some _ from rfl)
    have kq:w.heap.size<=(B iq).b:=by
     cases hoq:Ht N es.length iq with
     |none=>exact absurd hoq hqo
     |some ob=>exact(A.blk iq ob hiq19 trivial hoq).2
    have hs0:=H.size;have n10_16:=hne 10 16 (by omega) (by omega) (by omega) ob10 ob16;have n10_q:=hne 10 iq (by omega) hiq19 (by omega) ob10 hqo;have n10_18:=hne 10 18 (by omega) (by omega) (by omega) ob10 ob18;have n10_13:=hne 10 13 (by omega) (by omega) (by omega) ob10 ob13;have n16_q:=hne 16 iq (by omega) hiq19 (by omega) ob16 hqo;have n16_18:=hne 16 18 (by omega) (by omega) (by omega) ob16 ob18;have n16_13:=hne 16 13 (by omega) (by omega) (by omega) ob16 ob13;have nq_18:=hne iq 18 hiq19 (by omega) (by omega) hqo ob18;have nq_13:=hne iq 13 hiq19 (by omega) (by omega) hqo ob13;have n18_13:=hne 18 13 (by omega) (by omega) (by omega) ob18 ob13;have n12:=H.ne at0 at1 (by decide);have hb20:=(H.own _ (qai ..)).elim (fun h=>by cases h) id;have hb10:=(H.own _ (qah _ (qai ..))).elim (fun h=>by cases h) id
    have Hc:Ctx w0 [] w' [((B 10).b,Bl 2 (BZ (fun _=>0) es.length)),((B 16).b,Bl 2 (BZ (fun _=>0) N)),((B iq).b,Bl 158 (sQ es.length B).f),((B 18).b,Bl 217 (sSC N es.length B)),((B 13).b,Bl 2 (BZ (fun _=>0) N)),(b2,Bl 125 [.slice none 0 0,.slice none 0 0]),(b1,Bl 123 [.int .i64 (N:Int),.slice a es.length c])]:=by
     refine⟨(H.ext.trans (Ext.drew [] _)).trans A.ext,fun x hx=>?_,?_,fun x hx => .inr ?_⟩
     .simp only[qae,qaq,or_false]at hx
      rcases hx with rfl|rfl|rfl|rfl|rfl|rfl|rfl
      .exact k10.1
      .exact k16.1
      .exact hqh
      .exact k18.1
      .exact k13.1
      .exact A.ext.to (H.get at0) (by simp)
      .exact A.ext.to hb1 (by simp)
     .simp only[qbf,qae,qaq,or_false,forall_eq_or_imp,forall_eq,List.Pairwise.nil,false_imp_iff,implies_true,and_true];refine⟨⟨n10_16,n10_q,n10_18,n10_13,?_,?_⟩,⟨n16_q,n16_18,n16_13,?_,?_⟩,⟨nq_18,nq_13,?_,?_⟩,⟨n18_13,?_,?_⟩,⟨?_,?_⟩,n12⟩ <;> omega
     .simp only[qae,qaq,or_false]at hx
      rcases hx with rfl|rfl|rfl|rfl|rfl|rfl|rfl <;> (dsimp only;omega)
    cases qam ho;refine CX U (ptr (B 18).b) (A.slot 18 (by omega) trivial) (Ab ⟨((B 18).b,(B 10).b,(B 13).b,(B 16).b,(sQ es.length B).b,(sQ es.length B).c,(sQ es.length B).f),A.ds,⟨rfl,trivial⟩,O5,?_⟩);dsimp only;rw[hqb];have hsc:sSC N es.length B=SC N (some ⟨(B iq).b,0,none⟩) es.length (sQ es.length B).c (B 10).b (B 13).b (B 16).b 0:=by unfold sSC;rw[hqb]
    rw[hsc]at Hc;exact Hc
  .rintro⟨bs,bf,bp,bo,q,ce,full⟩ j w ⟨O,H⟩;dsimp only at O H;dsimp only;obtain⟨g,hg⟩:=qD (grE (N:Int) es);have hgE:g.E=es.length:=by rw[hg];rfl
   have hgN:g.N=N:=by rw[hg];rfl
   have hgo:g.Ok:=by rw[hg];exact JF hr
   have hcb:=NZ hr;rw[<-hg];refine Ad (Ae U (qA (Ao (Ad (Ah CE U (AB D7 U H at6 U (Ba C8 U (Af U (qA ?_)))))))));refine A1 (Bt 72057525318451648 (α:=Nat × Nat × List Value) (fun t=>[(36,.int .i64 (t.1:Int)),(6,.int .i64 (t.2.1:Int))]) (fun t w'=>t.1<=es.length/\OS (some ⟨q,0,none⟩) es.length ce 4 t.2.2 ((esC es (JI (Ck es) (fun _=>0) t.1)).flatMap CJ)/\(∀j,j<t.1->(Ck es j).toNat<2 ^ t.2.1)/\t.2.1<=64/\Uk es t.1 t.2.1/\Ctx w0 [] w' [(bf,Bl 2 (BZ (fun _=>0) es.length)),(bo,Bl 2 (BZ (fun _=>0) N)),(q,Bl 158 t.2.2),(bs,Bl 217 (SC N (some ⟨q,0,none⟩) es.length ce bf bp bo 0)),(bp,Bl 2 (BZ (fun _=>0) N)),(b2,Bl 125 [.slice none 0 0,.slice none 0 0]),(b1,Bl 123 [.int .i64 (N:Int),.slice a es.length c])]) (fun t=>es.length - t.1) (0,0,full) U ?_ ?_ ?_)
   .exact⟨rfl,rfl,trivial⟩
   .refine⟨qaj _,?_,fun j h=>absurd h (qa7 _),by dsimp only;omega,rfl,H⟩;rw[KZ (d:=Ck es) fun i _=>by unfold JI;rw[if_neg (qa7 _)],Px];exact O
   .rintro⟨i,m,full⟩ j w ⟨hi,O,hm,hm6,hbt,H⟩;dsimp only at hi O hm hm6 hbt H;dsimp only;refine Ad (Bm U U (qA (Ao (An _ U ?_ ?_))))
    .intro h2;replace h2:=AM h2;have hil:i<es.length:=by omega
     obtain⟨e,he⟩:=AA (h:=hil);have hee:=EP (hall e (qac he));obtain⟨cc,hcc⟩:∃cc:Nat,e.cap=cc:=⟨e.cap.toNat,by omega⟩;have henc:CJ e=[.int .i64 e.f,.int .i64 e.t,.int .i64 (cc:Int),.int .i64 e.cost]:=by unfold CJ;rw[hcc]
     have hOl:=O.len;have hOe:=O.le;refine Aq (Aa (Ao (A1 (Ad (Af U (Be R C8 C9 U U (by rfl) ?_))))));refine BQ _ GD C9 U U (Rd.rowE (R.ext0 H.ext) he henc U) (AU FZ H ?_);rintro b8 w - H;refine Ae U (Bj C9 U U U (by simp[AZ]) H at0 U ?_);rintro w H;refine qA (Ad (Ax U (AE U (Ah Hf U (Ah CE U (AB D7 U H at4 U (Af U (Bn C8 C9 U U ?_))))))));refine Ah E3 U (Ct (.int _ _) B2 U U U H at3 (by omega) ?_);rintro w H;refine qA (A0 (Af U (Ah E3 U (AB Bw U H at0 U (DX U XJ Fk ?_)))));refine Al qB (TT cc (by omega) _) U ?_;rintro v w ⟨r,rfl,hr1,hr2,hr3,hr4,rfl⟩;refine KQ U U U (Ae U (Ab (A8 (Aa (A0 (Az U U ?_))))));refine Af U (qA ?_);rw[show 0+((i:Int)).toNat*4+2=i*4+2 by omega]at H
     have O1:=OS.setf O (y:=edC es (JI (Ck es) (fun _=>0) (i+1)) i) (j:=2) (v := .int .i64 0) (fun _=>rfl) (JH (c:=JI (Ck es) (fun _=>0) i) hil) (by decide) (by unfold edC CJ JI;dsimp only;rw[if_pos (by omega)];rfl);rw[WB rfl (fun j _ hj=>WE hj)]at O1;have hce:Ck es i=(cc:Int):=by unfold Ck;rw[Bs he,hcc]
     refine⟨(i+1,max m r,full.set (i*4+2) (.int .i64 0)),rfl,⟨rfl,qaa (Value.int .i64) (by dsimp only;omega),trivial⟩,⟨by dsimp only;omega,O1,fun j hj=>?_,by dsimp only;omega,⟨m,r,hbt,by rw[hce];exact⟨hr1,hr3,hr4⟩,rfl⟩,H.tail⟩,by dsimp only;omega⟩;dsimp only at hj |-
     by_cases ej:j=i
     .subst ej;rw[hce];exact qaw (by omega) (Nat.pow_le_pow_right (by decide) (Nat.le_max_right m r))
     .exact qaw (hm j (by omega)) (Nat.pow_le_pow_right (by decide) (Nat.le_max_left m r))
    .intro h2;replace h2:=AN h2;obtain rfl:i=es.length:=by omega
     rw[KZ (d:=FO es m) fun i hi=>by unfold JI FO;rw[if_pos hi,Nat.div_eq_of_lt (hm i hi)];rfl]at O;refine Bp (Am (Am (AO (Aa (Ad (Af U (Ae U (qA (Ao (RS (Aa (Ao (A1 (Bt 147429837401600557568 (α:=PSt) (fun t=>[(9,.int .i64 (t.j:Int))]) (fun t w'=>t.j<=64/\OS (some ⟨q,0,none⟩) es.length ce 4 t.full ((esC es (FO es t.j)).flatMap CJ)/\Fine g (FO es t.j) t.x t.p/\(∀v,v<N->BD g t.x v=0)/\(∀v,v<N->t.ov v=0)/\(∀v,v<N -> -1073741824<=t.p v/\t.p v<=1073741824)/\(∀xf pf,Np es N t.j t.x t.p xf pf->Np es N m (fun _=>0) (fun _=>0) xf pf)/\Ctx w0 [] w' [(bf,Bl 2 (BZ (t.x) es.length)),(bo,Bl 2 (BZ (t.ov) N)),(q,Bl 158 t.full),(bs,Bl 217 (SC N (some ⟨q,0,none⟩) es.length ce bf bp bo t.kk)),(bp,Bl 2 (BZ (t.p) N)),(b2,Bl 125 [.slice none 0 0,.slice none 0 0]),(b1,Bl 123 [.int .i64 (N:Int),.slice a es.length c])]) (fun t=>t.j) ⟨m,full,fun _=>0,fun _=>0,fun _=>0,0⟩ U ?_ ?_ ?_))))))))))))))
     .exact⟨rfl,trivial⟩
     .refine⟨hm6,O,⟨fun i hi=>⟨qax _,(NY hr m i (by omega)).1⟩,fun a ha hra=>?_⟩,fun v _=>Acj g v,fun _ _=>rfl,fun _ _=>⟨by dsimp only;omega,by dsimp only;omega⟩,(fun _ _ h=>h),H⟩;exfalso;unfold CB at hra;have hai:a / 2<es.length:=by omega
      have hk0:FO es m (a / 2)=0:=by unfold FO;rw[Nat.div_eq_of_lt (hm _ hai)];rfl
      dsimp only at hra;rw[hk0]at hra
      split at hra <;> omega
     .rintro⟨j,full,x,p,ov,kk⟩ jj w ⟨hj6,O,hF,hx0,hov,hpb,hph,H⟩;dsimp only at hj6 O hF hx0 hov hpb hph H;dsimp only
      rcases j with _|j
      .skip
       refine A1 (Ao (Ad (Af U (Bu U U ?_))));refine Ae U (qA (Ad (Af U (Bm U U (qA (An _ U ?_ ?_))))))
       .intro h3;replace h3:=AM h3;refine Bp (Am (F3 U (Am (AO (Aa (Cq [([0,1,2,3,4,5,6,7,8,9,10,11,12],13),([14],15)] (fun z=>z.heap[bs]?=some (Bl 217 (SC N (some ⟨q,0,none⟩) es.length ce bf bp bo kk))) [] Bq (H.drew.get at3) ?_))))));refine AH U U (BF U (Bg U (Ap EV U (B3 BN U (fun _ hx=>(by rw[Aj hx];rfl)) ?_))));refine BF U (Bg U (Ap EW U (B3 BN U (fun _ hx=>(by rw[Aj hx];rfl)) ?_)));refine OJ [.slice (some ⟨bf,0,none⟩) es.length es.length,.slice (some ⟨bp,0,none⟩) N N] U Aaa So (hl:=U) ?_;refine BF U (Bg U (Ap Pc U (B3 Cd U (fun _ hx=>(by rw[Aj hx];rfl)) ?_)));refine AR ?_;replace H:=H.drew;refine Bj Kr U U U (by simp[AZ]) H at5 U ?_;rintro w H;refine Ab (BM (H.get at3) (AH U U ?_))
        refine KS U U (AR (Ae U (Ab (BM (H.get at3) (BG (A7 (Xw (Aes U U U OX Kr H at5 U (show _=(.int _ _)from rfl) (show _=(.int _ _)from rfl) ?_))))))));refine⟨bf,bp,x,p,kk,rfl,Nj hF fun i hi=>(XY hr i (by omega)).symm,hx0,hpb,⟨m,hbt,hph x p ⟨rfl,rfl⟩⟩,H.sub (fun y hy=>?_) ?_⟩
        .simp only[qae,qaq,or_false]at hy
         rcases hy with rfl|rfl
         .exact qac (i:=0) U
         .exact qac (i:=4) U
        .simp only[qbf,qab,forall_eq,qaq,false_imp_iff,implies_true,List.Pairwise.nil,and_true];exact H.ne at0 at4 (by decide)
       .intro h3;replace h3:=AN h3;omega
      .skip
       refine A1 (Ao (Ad (Af U (Bu U U ?_))));rw[show((j+1:Nat):Int) - 1=(j:Int)by omega];refine Ae U (qA (Ad (Af U (Bm U U (qA (An _ U ?_ ?_))))))
       .intro h3;replace h3:=AM h3;omega
       .intro h3;replace h3:=AN h3;have hF1:=Pn hF (cap':=FO es j) fun i _=>QJ es j i;obtain⟨x1,hx1⟩:=qD (JU g (FO es j) x p);refine Aq (Aa (Ad (Ax U (Cj C7 Cp U H at6 U (Af U (Al qB (Abi (bf:=bf) (bo:=bo) (ae:=some ⟨q,0,none⟩) (Ctx.lend (L1:=[_,_,_]) (L2:=[_,_,_,_]) H) O (H.get at3) (GR (L:=[_,_,_]) H.nd (x:=(bs,_)) (qac (i:=0) U)) (H.get at4) (GR (L:=[_,_,_]) H.nd (x:=(bp,_)) (qac (i:=1) U)) (R.ext0 H.ext) (fun hne hm=>by have h7:=Rd.lt R hne (fun x _=>⟨_,rfl⟩) (by decide);have h8:=(Ctx.left (L:=[_,_,_]) (L':=[_,_,_,_]) H).own;obtain⟨y,hy,he⟩:=qag.1 hm;rcases h8 y hy with h|h;cases h;omega) hr (fun i _=>QJ es j i) (by rw[<-hg];exact hF) (by rw[<-hg];exact hx0) hov hpb) U ?_))))));rintro rv w ⟨rfl,full',O',H2⟩;rw[<-hg]at H2;replace H:=Ctx.back (L1:=[_,_,_]) (L2:=[_,_,_,_]) H H2
        refine qA (A1 ?_);rw[<-hx1]at hF1 H;refine Bt 110680464442257309696 (α:=FSt) (fun _=>[]) (fun t w'=>Fine g (FO es j) t.x t.p/\(∀v,v<N->t.ov v=BD g t.x v)/\(∀v,v<N -> -1073741824<=t.p v/\t.p v<=1073741824)/\(∀xf pf ovf,Fills (esC es (FO es j)) N t.x t.p t.ov xf pf ovf->Fills (esC es (FO es j)) N x1 p (BD g x1) xf pf ovf)/\Ctx w0 [] w' [(bf,Bl 2 (BZ (t.x) es.length)),(bo,Bl 2 (BZ (t.ov) N)),(q,Bl 158 full'),(bs,Bl 217 (SC N (some ⟨q,0,none⟩) es.length ce bf bp bo t.kk)),(bp,Bl 2 (BZ (t.p) N)),(b2,Bl 125 [.slice none 0 0,.slice none 0 0]),(b1,Bl 123 [.int .i64 (N:Int),.slice a es.length c])]) (fun t=>(Im g t.x).toNat) ⟨x1,p,BD g x1,kk⟩ U ?_ ?_ ?_
        .exact trivial
        .exact⟨hF1,fun _ _=>rfl,hpb,(fun _ _ _ h=>h),H⟩
        .rintro⟨x,p,ov,kk⟩ jj2 w ⟨hF,hov,hpb,hfl,H⟩;dsimp only at hF hov hpb hfl H;dsimp only;refine Ao (Ad (Ax U ?_));have Hq:=H.perm perm5;refine Al qB (Alg (bs:=bs) (bf:=bf) (bp:=bp) (bo:=bo) (N:=N) (n:=es.length) (ae:=some ⟨q,0,none⟩) (ce:=ce) (es:=esC es (FO es j)) (g:=g) (cap:=FO es j) (JG es _) (by rw[grE_C,<-hg]) (fun i hi=>Ak1 hi) (Ctx.lend (L1:=[_,_,_,_,_]) (L2:=[_,_]) Hq) O' (WC hr (NY hr j)) hF hov hpb) U ?_;rintro rv w ⟨b,x',p',ov',kk',rfl,H2,hF',hov',hpb',hb0,hb1,hfr⟩;replace H:=(Ctx.back (L1:=[_,_,_,_,_]) (L2:=[_,_]) Hq H2).perm perm5.symm;refine qA (An _ U ?_ ?_)
         .intro h4;refine Aq (Aa (A1 (Aq (A8 (Aa ?_)))));have h5:=hb1 h4;have h6:=XN g x';exact⟨⟨x',p',ov',kk'⟩,rfl,trivial,⟨hF',hov',hpb',fun xf pf ovf h=>hfl xf pf ovf (.go (h4 ▸ hfr) h),H⟩,by dsimp only;omega⟩
         .intro h4;refine Bp (Am (Am (AO (A8 (Aa ?_)))));have hz:∀v,v<N->BD g x' v=0:=fun v hv=>TH hgo (fun u hu=>hb0 h4 u (by omega)) v (by omega);exact⟨⟨j,full',x',p',ov',kk'⟩,rfl,⟨rfl,trivial⟩,⟨by dsimp only;omega,O',hF',hz,fun v hv=>(hov' v hv).trans (hz v hv),hpb',fun xf pf h=>hph xf pf ⟨x1,x',p',ov',by rw[<-hg];exact hx1,by rw[<-hg];exact hfl _ _ _ (.stop (h4 ▸ hfr)),h⟩,H⟩,by dsimp only;omega⟩
theorem WU{N:Int}{es:List Ed}{pot:List Int}(hr:C2 N es=true){k:Nat}(hk:k<2*es.length):Aa0 N es pot (k:Int)=(grE N es).len (EQ pot) k:=by
 obtain⟨e,he,hE,-⟩:=Sy hr hk;unfold Aa0 Gr.len Gr.c Gr.u Gr.v;rw[hE];unfold I8
 rcases Nat.mod_two_eq_zero_or_one k with h|h
 .rw[if_pos h,if_pos h,if_pos h,Ug he,Ue he,Uf he,if_neg (by omega)];rfl
 .rw[if_pos h,if_neg (show ¬k % 2=0 by omega),if_neg (show ¬k % 2=0 by omega),if_neg (show ¬k % 2=0 by omega),Ug he,Ue he,Uf he];rfl
theorem Un{N:Int}{es:List Ed}{fl:List Int}(hw:Cn N es fl=true){k:Nat}(hk:k<2*es.length):Lt N es fl (k:Int)=CB (Ck es) (flE fl) k:=by
 obtain⟨e,x,he,hx,hro,-⟩:=Sz hw hk;rw[hro];unfold N6 CB Ck flE;rw[Bs he,Bs hx]
 rcases Nat.mod_two_eq_zero_or_one k with h|h
 .rw[if_neg (by omega),if_pos h]
 .rw[if_pos h,if_neg (by omega)]
theorem Ack{N:Int}{es:List Ed}{fl:List Int}(hw:Cn N es fl=true)(h:∀v,v<N.toNat->BD (grE N es) (flE fl) v=0):Ga N es fl=true:=by
 unfold Ga N7;rw[hw,qcp,qau];intro x hx;obtain⟨i,hi⟩:=qbs.1 hx;obtain⟨h1,rfl⟩:=Pp hi;exact qar (h i h1)
theorem Gq{N:Int}{es:List Ed}{fl pot:List Int}:FH N es fl pot=true↔Ga N es fl=true/\G2 N pot=true/\Fine (grE N es) (Ck es) (flE fl) (EQ pot):=by
 have hE:(grE N es).E=es.length:=rfl;unfold FH;simp only[qaf];constructor
 .rintro⟨hr,hf,hp,ht⟩;have hw:=(EX hf).1;obtain⟨hl,-,hin⟩:=Cx hw;refine⟨hf,hp,fun i hi=>?_,fun a ha hro=>?_⟩
  .rw[hE]at hi;obtain⟨e,he⟩:=AA (h:=hi);obtain⟨x,hx⟩:=AA (l:=fl) (i:=i);unfold flE Ck;rw[Bs he,Bs hx];exact hin i e x he hx
  .rw[hE]at ha;have h1:=qau.1 ht a (qa6.2 ha);unfold JB at h1;rw[WU hr ha,Un hw ha,qar hro,qdj,qce,qen]at h1;omega
 .rintro⟨hf,hp,hF⟩;have hw:=(EX hf).1;obtain⟨hl,hr,hin⟩:=Cx hw;refine⟨hr,hf,hp,qau.2 fun a ha=>?_⟩;rw[qa6]at ha;unfold JB;rw[WU hr ha,Un hw ha,qce]
  by_cases h:0<CB (Ck es) (flE fl) a
  .rw[qbb (by have:=hF.fit a ha h;omega),qdy]
  .rw[qbb h,qdi]
theorem VJ{N:Nat}{es:List Ed}{x p:Nat->Int}(hr:C2 (N:Int) es=true)(hF:Fine (grE (N:Int) es) (Ck es) x p)(ho:∀v,v<N->BD (grE (N:Int) es) x v=0)(hp:∀v,v<N -> -1073741824<=p v/\p v<=1073741824):FH (N:Int) es (tab x es.length) (tab p N)=true:=by
 have hx:∀i,i<es.length->flE (tab x es.length) i=x i:=fun i hi=>Afl hi;have hq:∀v,v<N->EQ (tab p N) v=p v:=fun v hv=>Bs (BW hv)
 have hw:Cn (N:Int) es (tab x es.length)=true:=by
  unfold Cn;rw[hr,Di,qar rfl];refine qau.2 fun b hb=>?_;obtain⟨i,hi⟩:=qbs.1 hb;have hl:=C0 hi;rw[qcn,Di]at hl;obtain⟨e,he⟩:=AA (l:=es) (i:=i);rw[Po he (BW (f:=x) (by omega))]at hi
  injection hi with hi
  have h1:=hF.in' i (by show i<es.length;omega);unfold Ck at h1;rw[Bs he]at h1;rw[<-hi];show inB e (x i)=true;unfold inB;rw[qar h1.1,qar h1.2];rfl
 refine Gq.2 ⟨Ack hw fun v hv=>?_,?_,Pv (JF hr) (Aci hF hx) hq⟩
 .rw[LG hx];exact ho v hv
 .unfold G2;rw[Di,qar rfl,qdj,qau];intro y hy;obtain⟨i,hi⟩:=qbs.1 hy;obtain⟨h1,rfl⟩:=Pp hi;have:=hp i h1;unfold NJ;rw[qaf,qas,qas];omega
theorem MB{ds es:List Du}(h:Abt ds es)(hs:(es.map (·.id)).Pairwise (·<·)):ds=es:=by
 obtain⟨hp,hd⟩:=h
 induction es generalizing ds with
 |nil=>exact hp.eq_nil
 |cons e es ih =>
  cases ds with
  |nil=>exact absurd hp.symm.eq_nil (by simp)
  |cons d ds =>
   rw[qav,qbf]at hs hd
   have hde:d=e:=by
    rcases qae.1 (hp.mem_iff.1 (qai ..))with h|h
    .exact h
    .rcases qae.1 (hp.mem_iff.2 (qai ..))with h2|h2
     .exact h2.symm
     .have h3:=hs.1 d.id (qa5 (f:=fun d:Du=>d.id) h);have h4:=hd.1 e.id (qa5 (f:=fun d:Du=>d.id) h2);omega
   subst hde;rw[ih hs.2 (List.Perm.cons_inv hp) hd.2]
structure Rnd where
 no:Int
 day:Int
 cmp:Bool
 ids:List Int
 N:Int
 es:List Ed
 fl:List Int
 pot:List Int
structure RSl where
 aI:Option Addr
 cI:Nat
 aE:Option Addr
 cE:Nat
 aF:Option Addr
 cF:Nat
 aP:Option Addr
 cP:Nat
abbrev B0(r:Rnd)(q:RSl):List Value:=[.int .u64 r.no,.int .i64 r.day,.bool r.cmp,.slice q.aI r.ids.length q.cI,.int .i64 r.N,.slice q.aE r.es.length q.cE,.slice q.aF r.fl.length q.cF,.slice q.aP r.pot.length q.cP]
structure RAt(w:World)(r:Rnd)(q:RSl):Prop where
 I:Rd w q.aI 1 U1 r.ids
 E:Rd w q.aE 4 CJ r.es
 F:Rd w q.aF 1 I1 r.fl
 P:Rd w q.aP 1 I1 r.pot
 fc:r.fl.length<=q.cF
structure ROff(q:RSl)(r:Rnd)(S:Nat->Prop):Prop where
 I:r.ids≠[]->¬S (adr q.aI).block
 E:r.es≠[]->¬S (adr q.aE).block
 F:r.fl≠[]->¬S (adr q.aF).block
 P:r.pot≠[]->¬S (adr q.aP).block
theorem RAt.ext{w w':World}{r:Rnd}{q:RSl}{S:List Nat}(h:RAt w r q)(he:Ext S w w')(hn:ROff q r (·∈S)):RAt w' r q :=
 ⟨h.I.ext' he hn.I,h.E.ext' he hn.E,h.F.ext' he hn.F,h.P.ext' he hn.P,h.fc⟩
theorem RAt.ext0{w w':World}{r:Rnd}{q:RSl}(h:RAt w r q)(he:Ext [] w w'):RAt w' r q:=h.ext he ⟨fun _=>by simp,fun _=>by simp,fun _=>by simp,fun _=>by simp⟩
theorem ROff.mono{q:RSl}{r:Rnd}{S S':Nat->Prop}(h:ROff q r S)(hs:∀x,S' x->S x):ROff q r S':=⟨fun g k=>h.I g (hs _ k),fun g k=>h.E g (hs _ k),fun g k=>h.F g (hs _ k),fun g k=>h.P g (hs _ k)⟩
theorem RAt.lt{w:World}{r:Rnd}{q:RSl}(h:RAt w r q):ROff q r (fun x=>w.heap.size<=x) :=
 ⟨fun g=>qck.2 (h.I.lt' (fun _ _=>rfl) (by decide) g),fun g=>qck.2 (h.E.lt' (fun _ _=>rfl) (by decide) g),fun g=>qck.2 (h.F.lt' (fun _ _=>rfl) (by decide) g),fun g=>qck.2 (h.P.lt' (fun _ _=>rfl) (by decide) g)⟩
def AcAt(w:World)(t:TypeId)(bx:Nat)(acs:List Ac):Prop:=∃a c,w.heap[bx]?=some (Bl t [.slice a acs.length c])/\Rd w a 2 CQ acs
def DuAt(w:World)(bd:Nat)(ds:List Du):Prop:=∃b nx o,w.heap[bd]?=some (Bl 132 (DU b nx))/\w.heap[b]?=some o/\CY .u64 (dm ds) o
theorem AcAt.ext0{w w':World}{t:TypeId}{bx:Nat}{acs:List Ac}(h:AcAt w t bx acs)(he:Ext [] w w'):AcAt w' t bx acs:=by
 obtain⟨a,c,h1,h2⟩:=h;exact⟨a,c,he.to h1 (by simp),h2.ext0 he⟩
theorem DuAt.ext0{w w':World}{bd:Nat}{ds:List Du}(h:DuAt w bd ds)(he:Ext [] w w'):DuAt w' bd ds:=by
 obtain⟨b,nx,o,h1,h2,h3⟩:=h;exact⟨b,nx,o,he.to h1 (by simp),he.to h2 (by simp),h3⟩
theorem Lg{bx:Nat}{acs:List Ac}(ha:El acs=0)(w:World)(A:AcAt w 129 bx acs) :
  Ret prog 116 #[ptr bx] w fun v w'=>Ext [] w w'/\∃a c,v=.slice a (acs.map Dz).length c/\Rd w' a 1 I1 (acs.map Dz):=by
 obtain⟨h1,h2,-⟩:=Co.1 ha;obtain⟨a,c,g1,g2⟩:=A;refine Ret.mono (Abx a acs.length c acs w g1 g2 U h2) fun v w' F=>⟨F.ext,?_⟩;obtain⟨a',n',c',f',rfl,O,hb⟩:=F.ex;obtain rfl:=O.num;exact⟨a',c',rfl,O.rd1 fun x hx=>(hb x hx).1⟩
theorem Jr{bd:Nat}{ds:List Du}{nx:Int}(hd:ofC ds nx=0)(w:World)(D:DuAt w bd ds) :
  Ret prog 47 #[ptr bd] w fun v w'=>Ext [] w w'/\∃a c,v=.slice a ds.length c/\Rd w' a 7 CS ds:=by
 obtain⟨h1,-,h3,-⟩:=F7.1 hd;obtain⟨b,nx',o,g1,g2,g3⟩:=D;refine Ret.mono (M6 w g1 g2 g3 (KD hd)) ?_;rintro v w' ⟨ds',hS,F⟩;obtain rfl:=MB hS (JL h3).2.1;refine⟨F.ext,?_⟩;obtain⟨a',n',c',f',rfl,O,hb⟩:=F.ex;obtain rfl:=O.numN (fun _ _=>rfl) (by decide);exact⟨a',c',rfl,OS.rd O (fun x hx=>(hb x hx).1) (fun _ _=>rfl) (by decide)⟩
structure PlanR(acs:List Ac)(ds:List Du)(net:Bool)(r:Rnd):Prop where
 no:r.no=0
 day:r.day=0
 cmp:r.cmp=net
 ids:r.ids=(opn ds).map Du.id
 N:r.N=((acs.length+1:Nat):Int)
 es:r.es=BL (acs.map Dz) (opn ds) net
 chk:FH r.N r.es r.fl r.pot=true
 one:∃x p:Nat->Int,WT r.es (acs.length+1) x p/\r.fl=tab x r.es.length/\r.pot=tab p (acs.length+1)
theorem Acl{acs:List Ac}{ds:List Du}{net:Bool}{r r':Rnd}(h:PlanR acs ds net r)(k:PlanR acs ds net r'):r=r':=by
 obtain⟨a1,a2,a3,a4,a5,a6,-,x,p,a7,a8,a9⟩:=h;obtain⟨b1,b2,b3,b4,b5,b6,-,y,q,b7,b8,b9⟩:=k;obtain⟨no,day,cmp,ids,N,es,fl,pot⟩:=r;obtain⟨no',day',cmp',ids',N',es',fl',pot'⟩:=r';dsimp only at *;have he:es=es':=a6.trans b6.symm;subst he;obtain⟨rfl,rfl⟩:=Ach a7 b7;rw[a1,a2,a3,a4,a5,a8,a9,b1,b2,b3,b4,b5,b8,b9]
def rnd0:List Value:=[.int .u64 0,.int .i64 0,.bool false,.slice none 0 0,.int .i64 0,.slice none 0 0,.slice none 0 0,.slice none 0 0]
def Af8(w:World)(acs:List Ac)(ds:List Du)(net:Bool)(v:Value)(w':World):Prop :=
 Ext [] w w'/\((D5 (acs.map Dz) ds=false/\v=.tuple #[.agg rnd0.toArray,.int .i64 1]) \/
  (D5 (acs.map Dz) ds=true/\∃r q,v=.tuple #[.agg (B0 r q).toArray,.int .i64 0]/\PlanR acs ds net r/\RAt w' r q/\ROff q r (fun x=>x<w.heap.size)))
theorem WV{bx bd:Nat}{acs:List Ac}{ds:List Du}{nx:Int}(ha:El acs=0)(hd:ofC ds nx=0)(net:Bool)(w:World)(A:AcAt w 129 bx acs)(D:DuAt w bd ds) :
  Ret prog 80 #[ptr bx,ptr bd,.bool net] w (Af8 w acs ds net):=by
 obtain⟨w0,rfl,H⟩:=qE w;have hn16:=(Co.1 ha).1;have hm64:=(F7.1 hd).1;obtain⟨rs,hrs⟩:=qD (acs.map Dz);have hrl:rs.length=acs.length:=by rw[hrs,qak]
 refine Ay (fn:=f80) func80 U [.pointer (some ⟨bx,0,none⟩),.pointer (some ⟨bd,0,none⟩),.bool net] U ?_;refine Ad (AU Fi H ?_);rintro b6 w - H;refine Ae U (qA (Ao (Ad (BV (α:=Unit) 516096 (fun _=>[(18,.bool (false))]) (fun _ w'=>Ctx w0 [] w' [(b6,Bl 127 rnd0)]) U ?_ ?_))))
 .refine Ax U (Cu N1 U ?_);refine Aw U (AK 15 U ?_ ?_)
  .intro h1;refine Ag U (Ag U (A6 U (.bool _) U (Ab ?_)));exact⟨rfl,(),rfl,⟨qaa Value.bool (by simp_all),trivial⟩,H⟩
  .intro h2;refine Ax U (Cu Ls U ?_);refine A9 U (.bool _) U (Ab ?_);exact⟨rfl,(),rfl,⟨qaa Value.bool (by rfl),trivial⟩,H⟩
 rintro - j18 w H;refine F2 U (Aq (Aa ?_));cases hbb:D5 rs ds
 .skip
  refine Ad (Ax U (Al qB (Lg ha _ (A.ext0 H.ext)) U ?_));rintro v w ⟨hx22,a2,c2,rfl,R2⟩;rw[<-hrs]at R2 |-;replace H:=H.call hx22;refine Ax U (Al qB (Jr hd _ (D.ext0 H.ext)) U ?_);rintro v w ⟨hx24,a3,c3,rfl,R3⟩;replace H:=H.call hx24;replace R2:=R2.ext0 hx24;refine Aw U (Al qB (HZ a2 a3 _ c2 _ c3 rs ds net _ R2 U R3 U) U ?_);rintro v w ⟨hx26,⟨-,rfl⟩|⟨hb1,-⟩⟩
  rotate_left
  (rw[hbb]at hb1;cases hb1)
  replace H:=H.call hx26;refine Cb U (AJ U U (AJ U U (AJ U U (AU Ks H ?_))));rintro b8 w - H;refine Bj Cp U U U (by simp[AZ]) H at0 U ?_;rintro w H;refine A4 U (Ae U (qA (Ao (Ad (Af U (Cv U U (qA (An _ U ?_ ?_))))))))
  .intro h1;replace h1:=Cy h1;refine Ad (Bx [.int .u64 0,.int .i64 0,.bool false,.slice none 0 0,.int .i64 0,.slice none 0 0,.slice none 0 0,.slice none 0 0] Sk Fi ?_);refine Af U (Bj C1 U U U (by simp[AZ]) H at1 U ?_);rintro w H;refine Ae U (qA (A7 (Av (IC U U U E7 C1 H at1 U (show _=(.int _ _)from rfl) ?_))));exact⟨H.ext,.inl ⟨by rw[<-hrs];exact hbb,rfl⟩⟩
  .intro h1;replace h1:=Cz h1;cases h1
 .skip
  have hB:=(Ix).1 hbb;obtain⟨es,hes⟩:=qD (BL rs (opn ds) net);refine Ad (Ax U (Al qB (Lg ha _ (A.ext0 H.ext)) U ?_));rintro v w ⟨hx22,a2,c2,rfl,R2⟩;rw[<-hrs]at R2 |-;replace H:=H.call hx22;refine Ax U (Al qB (Jr hd _ (D.ext0 H.ext)) U ?_);rintro v w ⟨hx24,a3,c3,rfl,R3⟩;replace H:=H.call hx24;replace R2:=R2.ext0 hx24;refine Aw U ?_;have hlb:=H.lt at0;refine Al qB (HZ a2 a3 _ c2 _ c3 rs ds net _ R2 U R3 U) U ?_;rintro v w ⟨hx26,⟨hb1,-⟩|⟨-,aE,nE,cE,vI,rfl,SE,SI⟩⟩
  (rw[hbb]at hb1;cases hb1)
  replace H:=H.call hx26;rw[<-hes]at SE;obtain⟨aE,cE,hE1,-,RE,hEn⟩:=SE.ex;obtain⟨aI,cI,rfl,-,RI,hIn⟩:=SI.ex;cases hE1;have hx026:=H.ext;have hb60:w0.heap.size<=b6:=(H.own _ (qai ..)).elim (fun h=>by cases h) id;obtain⟨w26,rfl⟩:=qD w;replace H:=Ctx.lend (L1:=[_]) (L2:=[]) H;dsimp only[List.map]at H;have hs24:=hx26.size;refine Cb U (AJ U U (AJ U U (AJ U U (AU Ks H ?_))));rintro b8 w - H;refine Bj Cp U U U (by simp[AZ]) H at0 U ?_;rintro w H;refine A4 U (Ae U (qA (Ao (Ad (Af U (Cv U U (qA (An _ U ?_ ?_))))))))
  .intro h1;replace h1:=Cy h1;exact absurd U h1
  .intro h1;replace h1:=Cz h1;have hri:C2 ((rs.length+1:Nat):Int) es=true:=by rw[hes];exact hB.right net
   have hE6:es≠[]->(adr aE).block∉[b6]:=fun h=>by have:=hEn h;rw[qab];omega
   have hI6:(opn ds).map Du.id≠[]->(adr aI).block∉[b6]:=fun h=>by have:=hIn h;rw[qab];omega
   have hE26:=RE.lt' (fun _ _=>rfl) (by decide);have hI26:=RI.lt' (fun _ _=>rfl) (by decide);refine Aq (Aa (Ad (Cj C7 Cp U H at0 U ?_)));have hl8:=H.lt at0;have hl6:=H.lt at1;refine Al qB (Af7 (rs.length+1) aE cE es _ (RE.ext' H.ext hE6) hri) U ?_;rintro v w ⟨bf,bp,x,p,k,rfl,hF,hov,hpb,hBR,HB⟩;replace H:=H.call HB.ext;have RF:Rd w (some ⟨bf,0,none⟩) 1 I1 (tab x es.length):=C4 (HB.get at0);have RP:Rd w (some ⟨bp,0,none⟩) 1 I1 (tab p (rs.length+1)):=C4 (HB.get at1);have hbf:=(HB.own _ (qac at0)).elim (fun h=>by cases h) id;have hbp:=(HB.own _ (qac at1)).elim (fun h=>by cases h) id;dsimp only at hbf hbp;replace RE:=RE.ext' H.ext hE6;replace RI:=RI.ext' H.ext hI6;have hb80:=(H.own _ (qac at0)).elim (fun h => .inl (qab.1 h)) Or.inr
   have hx036:=hx026.then H.ext (fun x hx => .inr (by rw[qab.1 hx];exact hb60));have hs36:=HB.ext.size;have hs26:=H.size;obtain⟨w36,rfl⟩:=qD w;replace H:=Ctx.lend (L1:=[_,_]) (L2:=[]) H;dsimp only[List.map]at H;refine Cb U (AJ U U (AJ U U (AJ U U (AU So H ?_))));rintro b11 w - H;refine Bj Kr U U U (by simp[AZ]) H at0 U ?_;rintro w H;refine Ae U (Ae U (qA (Ao (Ad (Af U (Cv U U (qA (An _ U ?_ ?_))))))))
   .intro h2;replace h2:=Cy h2;exact absurd U h2
   .intro h2;replace h2:=Cz h2;obtain⟨r,hr⟩:=qD (⟨0,0,net,(opn ds).map Du.id,((rs.length+1:Nat):Int),es,tab x es.length,tab p (rs.length+1)⟩:Rnd);obtain⟨q,hq⟩:=qD (⟨aI,cI,aE,cE,some ⟨bf,0,none⟩,es.length,some ⟨bp,0,none⟩,rs.length+1⟩:RSl)
    have hcells:B0 r q=[.int .u64 0,.int .i64 0,.bool net,.slice aI ((opn ds).map Du.id).length cI,.int .i64 ((rs.length+1:Nat):Int),.slice aE es.length cE,.slice (some ⟨bf,0,none⟩) es.length es.length,.slice (some ⟨bp,0,none⟩) (rs.length+1) (rs.length+1)]:=by
     rw[hr,hq];unfold B0;dsimp only;rw[Di,Di]
    refine Aq (Aa (Ad (Aw U (A2 U (Cj C7 Cp U H at1 U (Cj OX Kr U H at0 U (Bx [.int .u64 0,.int .i64 0,.bool net,.slice aI ((opn ds).map Du.id).length cI,.int .i64 ((rs.length+1:Nat):Int),.slice aE es.length cE,.slice (some ⟨bf,0,none⟩) es.length es.length,.slice (some ⟨bp,0,none⟩) (rs.length+1) (rs.length+1)] Sk Fi ?_)))))));refine Bj C1 U U U (by simp[AZ]) H at2 U ?_;rintro w H;refine Ae U (qA (A7 (IC U U U E7 C1 H at2 U (show _=(.int _ _)from rfl) ?_)))
    have h8:w0.heap.size<=b8:=by rcases hb80 with h|h <;> omega
    have hxx:=hx036.then H.ext fun x hx => .inr (by simp only[qae,qaq,or_false]at hx;omega);refine⟨hxx,.inr ⟨by rw[<-hrs];exact hbb,r,q,by rw[hcells],⟨by rw[hr],by rw[hr],by rw[hr],by rw[hr],by rw[hr,hrl],by rw[hr,<-hrs];exact hes,?_,by rw[hr,<-hrl];exact⟨x,p,hBR,rfl,rfl⟩⟩,⟨?_,?_,?_,?_,?_⟩,⟨?_,?_,?_,?_⟩⟩⟩
    .rw[hr];exact VJ hri hF hov hpb
    .rw[hr,hq];exact RI.ext' H.ext fun h=>by have h1:=hI26 h;have h2:=hI6 h;rw[qab]at h2;simp only[qae,qaq,or_false];rcases hb80 with h3|h3 <;> omega
    .rw[hr,hq];exact RE.ext' H.ext fun h=>by have h1:=hE26 h;have h2:=hE6 h;rw[qab]at h2;simp only[qae,qaq,or_false];rcases hb80 with h3|h3 <;> omega
    .rw[hr,hq];exact RF.ext' H.ext fun _=>by show bf∉[b8,b6];simp only[qae,qaq,or_false];omega
    .rw[hr,hq];exact RP.ext' H.ext fun _=>by show bp∉[b8,b6];simp only[qae,qaq,or_false];omega
    .rw[hr,hq];dsimp only;rw[Di];exact qan _
    .rw[hr,hq];intro h;have:=hIn h;dsimp only;omega
    .rw[hr,hq];intro h;have:=hEn h;dsimp only;omega
    .rw[hr,hq];intro _;show ¬bf<w0.heap.size;omega
    .rw[hr,hq];intro _;show ¬bp<w0.heap.size;omega
def Acm(w:World)(rs:List Int)(ds:List Du)(net:Bool)(N:Int)(aE:Option Addr)(nE:Nat)(vI:Value)(code:Int):Prop :=
 (D5 rs ds=false/\code=1/\∃aI nI cI,vI=.slice aI nI cI)\/(D5 rs ds=true/\code=0/\N=((rs.length+1:Nat):Int)/\nE=(BL rs (opn ds) net).length/\Rd w aE 4 CJ (BL rs (opn ds) net)/\∃aI cI,vI=.slice aI ((opn ds).map Du.id).length cI/\Rd w aI 1 U1 ((opn ds).map Du.id))
theorem RoundRes.uni{w w':World}{rs:List Int}{ds:List Du}{net:Bool}{v:Value}(h:RoundRes w rs ds net v w'):Ext [] w w'/\∃N aE nE cE aI nI cI code,v=.tuple #[DV N aE nE cE,.slice aI nI cI,.int .i64 code]/\∀(S:List Nat) (w2:World),(∀x∈S,x<w.heap.size)->Ext S w' w2->Acm w2 rs ds net N aE nE (.slice aI nI cI) code:=by
 obtain⟨hx,⟨h1,rfl⟩|⟨h1,aE,nE,cE,vI,rfl,SE,SI⟩⟩:=h
 .exact⟨hx,_,_,_,_,_,_,_,_,rfl,fun _ _ _ _ => .inl ⟨h1,rfl,_,_,_,rfl⟩⟩
 .obtain⟨aE',cE',hE,-,RE,hEn⟩:=SE.ex;obtain⟨aI,cI,rfl,-,RI,hIn⟩:=SI.ex;cases hE;exact⟨hx,_,_,_,_,_,_,_,_,rfl,fun S w2 hS he => .inr ⟨h1,rfl,rfl,rfl,RE.ext' he (fun hn hm=>by have:=hEn hn;have:=hS _ hm;omega),_,_,rfl,RI.ext' he (fun hn hm=>by have:=hIn hn;have:=hS _ hm;omega)⟩⟩
structure NowZ where
 b:Nat
 N:Int
 aE:Option Addr
 nE:Nat
 cE:Nat
 aI:Option Addr
 nI:Nat
 cI:Nat
 code:Int
def NowI(w0:World)(rs:List Int)(ds:List Du)(net:Bool)(b5:Nat)(o5:Obj)(z:NowZ)(w:World):Prop :=
 Ext [] w0 w/\w.heap[b5]?=some o5/\w.heap[z.b]?=some (Bl 123 [.int .i64 z.N,.slice z.aE z.nE z.cE])/\Acm w rs ds net z.N z.aE z.nE (.slice z.aI z.nI z.cI) z.code
def NL(acs:List Ac)(ds:List Du)(r:Rnd):Bool :=
 D5 (acs.map Dz) ds && (decide (((acs.length+1:Nat):Int)=r.N) && (decide (BL (acs.map Dz) (opn ds) r.cmp=r.es) && decide ((opn ds).map Du.id=r.ids)))
theorem Alh{bx bd:Nat}{acs:List Ac}{ds:List Du}{nx:Int}(ha:El acs=0)(hd:ofC ds nx=0){r:Rnd}{q:RSl}(w:World)(A:AcAt w 129 bx acs)(D:DuAt w bd ds)(RA:RAt w r q)(he:r.es.length<=1000000)(hi:r.ids.length<=1000000) :
  Ret prog 119 #[ptr bx,ptr bd,.agg (B0 r q).toArray] w fun v w'=>v=.bool (NL acs ds r)/\Ext [] w w':=by
 obtain⟨w0,rfl,H⟩:=qE w;have hn16:=(Co.1 ha).1;have hm64:=(F7.1 hd).1;obtain⟨rs,hrs⟩:=qD (acs.map Dz);have hrl:rs.length=acs.length:=by rw[hrs,qak]
 refine Ay (fn:=f119) func119 U [.pointer (some ⟨bx,0,none⟩),.pointer (some ⟨bd,0,none⟩),.agg (B0 r q).toArray] U ?_;refine Ad (Br (B0 r q) (.agg _) U U H ?_);rintro b5 w - H;refine Ai U (qA ?_);have hx5:=H.ext;have h5:=H.get at0;obtain⟨w5,rfl⟩:=qD w;refine DQ 2097024 (α:=NowZ) (fun z=>[(7,ptr z.b),(8,.slice z.aI z.nI z.cI),(9,.int .i64 z.code)]) (NowI w0 rs ds r.cmp b5 (Bl 127 (B0 r q))) U ?_ ?_
 .skip
  refine Ot (.two [0,2,4,5] 1 (.two [] 3 (.two [] 6 (.one [7,8,9,10] 11 (.one [] 12 (.one [] 13 (.one [] 14 .stop)))) 11 (.one [] 6 (.one [7,8,9,10] 12 (.one [] 13 (.one [] 14 .stop))))) 11 (.one [] 3 (.one [] 6 (.one [7,8,9,10] 12 (.one [] 13 (.one [] 14 .stop)))))) 11 (.one [] 1 (.one [] 3 (.one [] 6 (.one [7,8,9,10] 12 (.one [] 13 (.one [] 14 .stop))))))) (fun z=>Ext [] w5 z) Bq (Ext.drew [] w5) (IP U U U ?_);refine BF U (BF U (Ap Mo U (B3 Kl U (fun _ hx=>(by rw[Aj (hx.to h5 (by simp))];rfl)) ?_)));refine AR ?_;have E:=Ext.drew [] w5;refine⟨?_,?_⟩
  .skip
   refine Al qB (Lg ha _ (A.ext0 (hx5.trans E))) U ?_;rintro v w ⟨hx12,a2,c2,rfl,R2⟩;rw[<-hrs]at R2 |-;replace E:=E.trans hx12;refine Ab (BU (by exact E) ?_);refine IP U U U (AR ?_);refine⟨?_,?_⟩
   .skip
    refine Al qB (Jr hd _ (D.ext0 (hx5.trans E))) U ?_;rintro v w ⟨hx14,a3,c3,rfl,R3⟩;replace E:=E.trans hx14;replace R2:=R2.ext0 hx14;refine Ab (BU (by exact E) ?_);refine IP U U U (AR ?_);refine⟨?_,?_⟩
    .skip
     refine Al qB (HZ a2 a3 _ c2 _ c3 rs ds r.cmp _ R2 U R3 U) U ?_;rintro v w hR;obtain⟨hx17,N,aE,nE,cE,aI,nI,cI,code,rfl,hU⟩:=hR.uni;replace E:=E.trans hx17;refine Ab (BU (by exact E) ?_);refine BS U U (DK U (Bv U U (Bv U U (Bv U U (AR ?_)))));have H:=Ctx.start w [];refine AU Ks H ?_;rintro b7 w - H;refine Ab (BU (by exact E.trans H.ext) ?_);refine BS U U (AR (Bj Cp U U U (by simp[AZ]) H at0 U ?_));rintro w H;refine Ab (BU (by exact E.trans H.ext) ?_);refine BS U U (AR (A4 U (Ab (BU (by exact E.trans H.ext) ?_))));refine BS U U (AR (Ae U (Ab (BU (by exact E.trans H.ext) ?_))));refine Ej (Aa ?_);exact⟨⟨b7,N,aE,nE,cE,aI,nI,cI,code⟩,rfl,⟨rfl,rfl,rfl,trivial⟩,hx5.trans (E.trans H.ext),(E.trans H.ext).to h5 (by simp),H.get at0,hU [] _ (by simp) H.ext⟩
    .skip
     have H:=Ctx.start w [];refine AU Ks H ?_;rintro b7 w - H;have hn7:w5.heap.size<=b7:=qa0 E.size ((H.own _ (qai ..)).elim (fun h=>by cases h) id);replace E:=E.trans H.ext;have hb7:=H.get at0;replace R2:=R2.ext0 H.ext;replace R3:=R3.ext0 H.ext;refine Ab (BU (by exact E) ?_);refine BS U U (AR ?_);have hl7:=AY hb7;refine Al qB (HZ a2 a3 _ c2 _ c3 rs ds r.cmp _ R2 U R3 U) U ?_;rintro v w hR;obtain⟨hx17,N,aE,nE,cE,aI,nI,cI,code,rfl,hU⟩:=hR.uni;replace E:=E.trans hx17;replace hb7:=hx17.to hb7 (by simp);have H:=Ctx.start1 hb7;refine Ab (BU (by exact E) ?_);refine BS U U (DK U (Bv U U (Bv U U (Bv U U (AR (Bj Cp U U U (by simp[AZ]) H at0 U ?_))))));rintro w H;refine Ab (BU (by exact E.then H.ext (fun x hx => .inr (by rw[qab.1 hx];exact hn7))) ?_);refine BS U U ?_
     refine AR (A4 U (Ab (BU (by exact E.then H.ext (fun x hx => .inr (by rw[qab.1 hx];exact hn7))) ?_)));refine BS U U ?_;refine AR (Ae U (Ab (BU (by exact E.then H.ext (fun x hx => .inr (by rw[qab.1 hx];exact hn7))) ?_)));refine Ej (Aa ?_);have E2:=E.then H.ext fun x hx => .inr (by rw[qab.1 hx];exact hn7);exact⟨⟨b7,N,aE,nE,cE,aI,nI,cI,code⟩,rfl,⟨rfl,rfl,rfl,trivial⟩,hx5.trans E2,E2.to h5 (by simp),H.get at0,hU [b7] _ (by simpa using hl7) H.ext⟩
   .skip
    have H:=Ctx.start w [];refine AU Ks H ?_;rintro b7 w - H;have hn7:w5.heap.size<=b7:=qa0 E.size ((H.own _ (qai ..)).elim (fun h=>by cases h) id);replace E:=E.trans H.ext;have hb7:=H.get at0;replace R2:=R2.ext0 H.ext;refine Ab (BU (by exact E) ?_);refine BS U U (AR (Al qB (Jr hd _ (D.ext0 (hx5.trans E))) U ?_));rintro v w ⟨hx14,a3,c3,rfl,R3⟩;replace E:=E.trans hx14;replace R2:=R2.ext0 hx14;replace hb7:=hx14.to hb7 (by simp);refine Ab (BU (by exact E) ?_);refine BS U U (AR ?_);have hl7:=AY hb7;refine Al qB (HZ a2 a3 _ c2 _ c3 rs ds r.cmp _ R2 U R3 U) U ?_;rintro v w hR;obtain⟨hx17,N,aE,nE,cE,aI,nI,cI,code,rfl,hU⟩:=hR.uni;replace E:=E.trans hx17;replace hb7:=hx17.to hb7 (by simp);have H:=Ctx.start1 hb7;refine Ab (BU (by exact E) ?_);refine BS U U ?_
    refine DK U (Bv U U (Bv U U (Bv U U (AR (Bj Cp U U U (by simp[AZ]) H at0 U ?_)))));rintro w H;refine Ab (BU (by exact E.then H.ext (fun x hx => .inr (by rw[qab.1 hx];exact hn7))) ?_);refine BS U U ?_;refine AR (A4 U (Ab (BU (by exact E.then H.ext (fun x hx => .inr (by rw[qab.1 hx];exact hn7))) ?_)));refine BS U U ?_;refine AR (Ae U (Ab (BU (by exact E.then H.ext (fun x hx => .inr (by rw[qab.1 hx];exact hn7))) ?_)));refine Ej (Aa ?_);have E2:=E.then H.ext fun x hx => .inr (by rw[qab.1 hx];exact hn7);exact⟨⟨b7,N,aE,nE,cE,aI,nI,cI,code⟩,rfl,⟨rfl,rfl,rfl,trivial⟩,hx5.trans E2,E2.to h5 (by simp),H.get at0,hU [b7] _ (by simpa using hl7) H.ext⟩
  .skip
   have H:=Ctx.start (World.drew w5) [];refine AU Ks H ?_;rintro b7 w - H;have hn7:w5.heap.size<=b7:=qa0 E.size ((H.own _ (qai ..)).elim (fun h=>by cases h) id);replace E:=E.trans H.ext;have hb7:=H.get at0;refine Ab (BU (by exact E) ?_);refine BS U U (AR (Al qB (Lg ha _ (A.ext0 (hx5.trans E))) U ?_));rintro v w ⟨hx12,a2,c2,rfl,R2⟩;rw[<-hrs]at R2 |-;replace E:=E.trans hx12;replace hb7:=hx12.to hb7 (by simp);refine Ab (BU (by exact E) ?_);refine BS U U (AR (Al qB (Jr hd _ (D.ext0 (hx5.trans E))) U ?_));rintro v w ⟨hx14,a3,c3,rfl,R3⟩;replace E:=E.trans hx14;replace R2:=R2.ext0 hx14;replace hb7:=hx14.to hb7 (by simp);refine Ab (BU (by exact E) ?_);refine BS U U (AR ?_);have hl7:=AY hb7;refine Al qB (HZ a2 a3 _ c2 _ c3 rs ds r.cmp _ R2 U R3 U) U ?_;rintro v w hR;obtain⟨hx17,N,aE,nE,cE,aI,nI,cI,code,rfl,hU⟩:=hR.uni
   replace E:=E.trans hx17;replace hb7:=hx17.to hb7 (by simp);have H:=Ctx.start1 hb7;refine Ab (BU (by exact E) ?_);refine BS U U (DK U (Bv U U (Bv U U (Bv U U (AR (Bj Cp U U U (by simp[AZ]) H at0 U ?_))))));rintro w H;refine Ab (BU (by exact E.then H.ext (fun x hx => .inr (by rw[qab.1 hx];exact hn7))) ?_);refine BS U U ?_;refine AR (A4 U (Ab (BU (by exact E.then H.ext (fun x hx => .inr (by rw[qab.1 hx];exact hn7))) ?_)));refine BS U U ?_;refine AR (Ae U (Ab (BU (by exact E.then H.ext (fun x hx => .inr (by rw[qab.1 hx];exact hn7))) ?_)));refine Ej (Aa ?_);have E2:=E.then H.ext fun x hx => .inr (by rw[qab.1 hx];exact hn7);exact⟨⟨b7,N,aE,nE,cE,aI,nI,cI,code⟩,rfl,⟨rfl,rfl,rfl,trivial⟩,hx5.trans E2,E2.to h5 (by simp),H.get at0,hU [b7] _ (by simpa using hl7) H.ext⟩
 .rintro⟨b7,N,aE,nE,cE,aI,nI,cI,code⟩ j1 w ⟨hx0,h5',hb7,hU⟩;dsimp only at hb7 hU;dsimp only;obtain⟨w1,rfl,H⟩:=qE w;have RA1:=RA.ext0 hx0
  rcases hU with⟨hb,rfl,-⟩|⟨hb,rfl,rfl,rfl,RE,aI',cI',hI,RI⟩
  .skip
   refine Ad (Af U (BP U U (Aw U (AK 23 U ?_ ?_))))
   .intro g1;replace g1:=AM g1;exact absurd g1 (by decide)
   .intro g1;replace g1:=AN g1;refine Ag U (Ag U (Ag U (Ag U (Ag U (Ag U (A9 U (.bool _) U (Aw U (Ag U (Ag U ?_)))))))));refine Ag U (Ag U (Ag U (Ag U (A9 U (.bool _) U (Aw U (Ag U (Ag U (Ag U (Ag U ?_)))))))));refine A9 U (.bool _) U (Ai U (qA (A7 (AD (v:=(.bool _)) U U U ?_))));exact⟨qaa Value.bool (by unfold NL;rw[<-hrs,hb];simp_all),hx0⟩
  .skip
   cases hI;have hel:(BL rs (opn ds) r.cmp).length<=1000000:=by have:=IK ds;rw[HQ];split <;> omega
   have hil:((opn ds).map Du.id).length<=1000000:=by have:=IK ds;rw[qak];omega
   refine Ad (Af U (BP U U (Aw U (AK 23 U ?_ ?_))))
   .intro h1;replace h1:=AM h1;refine Ah Eg U (Bc Cd U ((by rw[Aj (H.ext.to hb7 (by simp))];rfl)) ?_);refine Ah E0 U (Ah Eg U (Bc Cd U ((by rw[Aj (H.ext.to h5' (by simp))];rfl)) ?_));refine BP U U (A6 U (.bool _) U (Aw U (AK 31 U ?_ ?_)))
    .intro h2;replace h2:=AM h2;refine Ah CE U (Bc D7 U ((by rw[Aj (H.ext.to hb7 (by simp))];rfl)) ?_);refine Ah E0 U (Ah CE U (Bc D7 U ((by rw[Aj (H.ext.to h5' (by simp))];rfl)) ?_));refine Al qB (Ald aE q.aE _ cE _ q.cE (BL rs (opn ds) r.cmp) r.es _ (RE.ext0 H.ext) U hel (RA1.E.ext0 H.ext) U he) U ?_;rintro v w ⟨rfl,hx37⟩;replace H:=H.call hx37;refine A6 U (.bool _) U (Aw U (AK 39 U ?_ ?_))
     .intro h3;refine A2 U (Ah Eh U (Bc FE U ((by rw[Aj (H.ext.to h5' (by simp))];rfl)) ?_));refine Al qB (Ale aI q.aI _ cI _ q.cI ((opn ds).map Du.id) r.ids _ (RI.ext0 H.ext) U hil (RA1.I.ext0 H.ext) U hi) U ?_;rintro v w ⟨rfl,hx43⟩;replace H:=H.call hx43;refine A6 U (.bool _) U (Ai U (qA (A7 (AD (v:=(.bool _)) U U U ?_))));exact⟨qaa Value.bool (by unfold NL;rw[<-hrs,hb,<-hrl];simp_all),hx0.trans H.ext⟩
     .intro h4;refine Ag U (Ag U (Ag U (Ag U (A9 U (.bool _) U (Ai U (qA (A7 (AD (v:=(.bool _)) U U U ?_))))))));exact⟨qaa Value.bool (by unfold NL;rw[<-hrs,hb,<-hrl];simp_all),hx0.trans H.ext⟩
    .intro h5;replace h5:=AN h5;refine Ag U (Ag U (Ag U (Ag U (Ag U (Ag U (A9 U (.bool _) U (Aw U (Ag U (Ag U ?_)))))))));refine Ag U (Ag U (A9 U (.bool _) U (Ai U (qA (A7 (AD (v:=(.bool _)) U U U ?_))))));exact⟨qaa Value.bool (by unfold NL;rw[<-hrs,hb,<-hrl];simp_all),hx0.trans H.ext⟩
   .intro h6;replace h6:=AN h6;refine Ag U (Ag U (Ag U (Ag U (Ag U (Ag U (A9 U (.bool _) U (Aw U (Ag U (Ag U ?_)))))))));refine Ag U (Ag U (Ag U (Ag U (A9 U (.bool _) U (Aw U (Ag U (Ag U (Ag U (Ag U ?_)))))))));refine A9 U (.bool _) U (Ai U (qA (A7 (AD (v:=(.bool _)) U U U ?_))));exact⟨qaa Value.bool (by unfold NL;rw[<-hrs,hb,<-hrl];simp_all),hx0.trans H.ext⟩
theorem Af9{c4 c7 by' bd b n:Nat}{nx:Int}{o:Obj}{ds:List Du}{d:Du}{x:Int}{f f':Nat->Int}(w:World)(h4:w.heap[c4]?=some (Bl 68 [ptr bd]))(h7:w.heap[c7]?=some (Bl 31 [.slice (some ⟨by',0,none⟩) n n]))(hd:w.heap[bd]?=some (Bl 132 (DU b nx)))(H0:Ctx w [by',b] w [(by',Bl 2 (BZ f n)),(b,o)])(hM:CY .u64 (dm ds) o)(n4:c4∉[by',b])(n7:c7∉[by',b])(nd:bd∉[by',b])(hf:C6 ds d.id=some d)(hh:d.held=false)(hx:0<=x/\x<=d.am)(ham:VI ds)(hfr:0<=d.fr/\d.fr<n)(hto:0<=d.to/\d.to<n)(hfb:∀k,-1152921504606846976<=f k/\f k<=1152921504606846976)(hf':∀k,f' k=f k+(one (d.to.toNat=k) - one (d.fr.toNat=k))*x)(_:n<=1000000:=by omega):
  Ret prog 120 #[.int .u64 d.id,.int .i64 x,ptr c4,ptr c7] w fun v w'=>v=.int .i64 0/\∃o',CY .u64 (dm (HO ds d.id x)) o'/\Ctx w [by',b] w' [(by',Bl 2 (BZ f' n)),(b,o')]:=by
 obtain⟨w0,rfl⟩:=qD w;have H:=H0;have hamd:=ham d (GI hf).1;obtain⟨fn,hfn⟩:∃fn:Nat,d.fr=fn:=⟨d.fr.toNat,by omega⟩;obtain⟨tn,htn⟩:∃tn:Nat,d.to=tn:=⟨d.to.toNat,by omega⟩;obtain⟨f1,hf1⟩:=qD (upd f fn (f fn - x));have hof:f1 fn=f fn - x:=by rw[hf1,Dk]
 have hon:∀q,q≠fn->f1 q=f q:=fun q hq=>by rw[hf1,Er hq]
 have hst:∀q,f' q=upd f1 tn (f1 tn+x) q:=fun q=>by
  rw[hf',hfn,htn,qbe,qbe]
  by_cases h1:q=tn
  .subst h1;rw[Dk,Gz rfl]
   by_cases h2:fn=q
   .subst h2;rw[Gz rfl,hof];omega
   .rw[FN h2,hon q (Ne.symm h2)];omega
  .rw[Er h1,FN (Ne.symm h1)]
   by_cases h2:fn=q
   .subst h2;rw[Gz rfl,hof];omega
   .rw[FN h2,hon q (Ne.symm h2)];omega
 have hb1:=hfb fn;have hb2:=hfb tn
 have hot : -1157425104234217472<=f1 tn/\f1 tn<=1157425104234217472:=by
  by_cases h:tn=fn
  .rw[h,hof];omega
  .rw[hon tn h];omega
 have hbb:=H.ne at0 at1 (by decide);refine Ay (fn:=f120) func120 U [.int .u64 d.id,.int .i64 x,.pointer (some ⟨c4,0,none⟩),.pointer (some ⟨c7,0,none⟩)] U ?_;refine Ad (Ae U (qA (Ad (Bc Hx U ((H.old (Aj h4 _) n4)) ?_))));refine Af U (Al qB (SJ _ (H.ext.to hd nd) (H.get at1) hM) U ?_);rintro v w ⟨rfl,hx12⟩;replace H:=H.call hx12;rw[show MA ds d.id=d by unfold MA;rw[hf];rfl];refine Cb U (AJ U U (AJ U U (AU D4 H ?_)));rintro b7 w - H;refine Bj BO U U U (by exact CW _) H at0 U ?_;rintro w H;refine Ai U (qA (Ad (Bc BN U ((H.old (Aj h7 _) n7)) ?_)));refine Ah Gw U (AB Cd U H at0 U (Bn AV B2 U U ?_));refine RW fn _ U Bw U H at1 (by rw[hfn];simp) U ?_;refine Af U (Bu U U ?_);refine Bn AV B2 U U ?_
 refine Ch fn (fun q => .int .i64 (f1 q)) (.int _ _) B2 U U U H at1 (by rw[hfn];simp) (by rw[hof]) (fun q _ hq=>by rw[hon q hq]) ?_;rintro w H;refine qA (Ad (Bc BN U ((H.old (Aj h7 _) n7)) ?_));refine Ah He U (AB Cd U H at0 U (Bn AV B2 U U ?_));refine RW tn _ U Bw U H at1 (by rw[htn];simp) U ?_;refine Af U (Az U U ?_);refine Bn AV B2 U U (Ch tn (fun q => .int .i64 (f' q)) (.int _ _) B2 U U U H at1 (by rw[htn];simp) (by rw[hst,Dk]) (fun q _ hq=>by rw[hst,Er hq]) ?_);rintro w H;refine qA (Ad (Bc Hx U ((H.old (Aj h4 _) n4)) ?_));refine Af U (Af U ?_);obtain⟨hc0,hS⟩:=Yy (p:=(d,x)) ⟨hf,hh,hx.1,hx.2⟩;dsimp only at hc0 hS;have Hp:=H.perm (show List.Perm _ [_,_,_]from(List.Perm.swap _ _ _).trans ((List.Perm.swap _ _ _).cons _))
 refine Al qB (Afz (k:=d.id) (x:=x) _ (H.ext.to hd nd) (H.get at2) hM (by intro h;exact nd (by rw[h];simp)) ham) U ?_;rintro v w ⟨rfl,o',hM',H2⟩;rw[hc0];rw[hS]at hM';refine Ae U (qA (A7 (AD (v:=(.int _ _)) U U U ?_)));have HB:=Ctx.back (L1:=[_]) (L2:=[_,_]) (Hp.perm (List.Perm.swap _ _ _)) H2;exact⟨rfl,o',hM',(HB.perm (List.Perm.swap _ _ _)).left (L:=[_,_]) (L':=[_])⟩
theorem Aht{α:Type}(A B C p y q1 q2:α)(E:List α):(A::B::C::(E++[p,y,q1,q2])).Perm (y::C::A::B::p::q1::q2::E):=by
 have h1:(A::B::C::(E++[p,y,q1,q2])).Perm (A::B::C::p::y::q1::q2::E):=((qcv (l₁:=E) (l₂:=[p,y,q1,q2])).cons C |>.cons B).cons A;have h2:(A::B::C::p::y::q1::q2::E).Perm (y::A::B::C::p::q1::q2::E):=qbq (l₁:=[A,B,C,p]);have h3:(A::B::C::p::q1::q2::E).Perm (C::A::B::p::q1::q2::E):=qbq (l₁:=[A,B]);exact h1.trans (h2.trans (h3.cons y))
theorem Ctx.turnEnt{w0 w w':World}{S:List Nat}{L:List (Nat × Obj)}{a:Option Addr}{t:TypeId}{full full':List Value}(H:Ctx w0 S w (L++ent a t full))(he:Ext ((ent a t full).map (·.1)) w w')(hb:∀x∈ent a t full',w'.heap[x.1]?=some x.2):Ctx w0 S w' (L++ent a t full'):=by
 have H':Ctx w ((ent a t full).map (·.1)) w' (ent a t full'):=⟨he,hb,FY,fun x hx=>by
  cases a with
  |none=>simp[ent]at hx
  |some p =>
   simp only[ent,qab]at hx;subst hx
   exact .inl (by simp[ent])⟩
 exact(Ctx.back (Ctx.comm H) H').comm
theorem Ca{w:World}{b:Nat}{t:TypeId}{l:List Value}(h:w.heap[b]?=some (Bl t l))(o:Nat)(l':List Value)(hl:(l.drop o).take l'.length=l'):∀j v,l'[j]?=some v->w.cell? ⟨b,o+j,none⟩=some v:=fun j v hv=>by
 rw[Aj h];have hj:=C0 hv;rw[<-hl,qbv,if_pos hj,qcr]at hv;exact hv
theorem ROff.or{q:RSl}{r:Rnd}{S T:Nat->Prop}(h:ROff q r S)(k:ROff q r T):ROff q r (fun x=>S x\/T x) :=
 ⟨fun g x=>x.elim (h.I g) (k.I g),fun g x=>x.elim (h.E g) (k.E g),fun g x=>x.elim (h.F g) (k.F g),fun g x=>x.elim (h.P g) (k.P g)⟩
structure ApF(acs:List Ac)(ds:List Du)(r:Rnd):Prop where
 B:Bright (acs.map Dz) ds
 N:r.N=(((acs.map Dz).length+1:Nat):Int)
 es:r.es=BL (acs.map Dz) (opn ds) r.cmp
 ids:r.ids=(opn ds).map Du.id
 pay:PayIn (opn ds) (r.fl.take (opn ds).length)
 len:r.fl.length=r.es.length
 by':∀(k:Nat) (a:Ac),acs[k]?=some a->(r.cmp=true->byK (acs.map Dz) (opn ds) r.cmp r.fl k=0) /\ -(Dz a)<=byK (acs.map Dz) (opn ds) r.cmp r.fl k/\byK (acs.map Dz) (opn ds) r.cmp r.fl k<=4503599627370496
 sum:BC (byK (acs.map Dz) (opn ds) r.cmp r.fl) acs.length=0
 ok:Lv ds ((opn ds).zip (r.fl.take (opn ds).length))
 all:KC ds ((opn ds).zip (r.fl.take (opn ds).length))=Eo ds (r.fl.take (opn ds).length)
theorem Acn{acs:List Ac}{ds:List Du}{nx:Int}{r:Rnd}(_:El acs=0)(hd:ofC ds nx=0)(hck:FH r.N r.es r.fl r.pot=true)(hnow:NL acs ds r=true):ApF acs ds r:=by
 have hm64:=(F7.1 hd).1;unfold NL at hnow;simp only[qaf,qas]at hnow;obtain⟨h1,h2,h3,h4⟩:=hnow;have hB:=(Ix).1 h1;have hN:r.N=(((acs.map Dz).length+1:Nat):Int):=by rw[qak];exact h2.symm
 have hf:=(Gq.1 hck).1;rw[hN,<-h3]at hf;obtain⟨f1,f2,f3,f4⟩:=Uh (fun x hx=>(CN.1 (hB.may x hx)).1) hB.open'.due hf;have hp:=Af5 f1 [] (by rw[qb9];exact KD hd);rw[qb9]at hp;rw[qak]at f4;exact⟨hB,hN,h3.symm,h4.symm,f1,by rw[f2,h3],fun k a hk=>f3 k _ (by rw[qa1,hk];rfl),f4,hp.1,hp.2⟩
def ES(acs:List Ac)(ds:List Du)(r:Rnd):Int:=if FH r.N r.es r.fl r.pot=false then 1 else if NL acs ds r=false then 3 else 0
def Gb(acs:List Ac)(ds:List Du)(r:Rnd):List Ac:=if ES acs ds r=0 then shA acs (tab (byK (acs.map Dz) (opn ds) r.cmp r.fl) acs.length)else acs
def GJ(acs:List Ac)(ds:List Du)(r:Rnd):List Du:=if ES acs ds r=0 then Eo ds (r.fl.take (opn ds).length)else ds
theorem GK{acs:List Ac}{ds:List Du}{nx:Int}{r:Rnd}(ha:El acs=0)(hd:ofC ds nx=0)(h:ES acs ds r=0):ApF acs ds r:=by
 unfold ES at h
 cases h1:FH r.N r.es r.fl r.pot with
 |false=>rw[if_pos h1]at h;simp at h
 |true =>
  rw[if_neg (by rw[h1];decide)]at h
  cases h2:NL acs ds r with
  |false=>rw[if_pos h2]at h;simp at h
  |true=>exact Acn ha hd h1 h2
theorem Lh{acs:List Ac}{ds:List Du}{nx:Int}{r:Rnd}(ha:El acs=0)(hd:ofC ds nx=0):El (Gb acs ds r)=0/\ofC (GJ acs ds r) nx=0/\(Gb acs ds r).length=acs.length:=by
 unfold Gb GJ
 by_cases h:ES acs ds r=0
 .rw[if_pos h,if_pos h];have F:=GK ha hd h;exact⟨(KE ha (fun k a hk=>(F.by' k a hk).2) F.sum).2,Af4 F.pay hd,SM⟩
 .rw[if_neg h,if_neg h];exact⟨ha,hd,rfl⟩
abbrev LX(bx:Nat)(a:Option Addr)(n c:Nat)(full:List Value)(bd b:Nat)(nx:Int)(o:Obj):List (Nat × Obj):=(bx,Bl 129 [.slice a n c])::(bd,Bl 132 (DU b nx))::(b,o)::ent a 108 full
structure AP7 where
 i:Nat
 o:Obj
theorem Aco{bx bd b c:Nat}{a:Option Addr}{full:List Value}{o:Obj}{acs:List Ac}{ds:List Du}{nx:Int}{r:Rnd}{q:RSl}(ha:El acs=0)(hd:ofC ds nx=0)(w:World)(H0:Ctx w ((LX bx a acs.length c full bd b nx o).map (·.1)) w (LX bx a acs.length c full bd b nx o))(O:OS a acs.length c 2 full (acs.flatMap CQ))(hM:CY .u64 (dm ds) o)(RA:RAt w r q)(hoff:ROff q r (·∈(LX bx a acs.length c full bd b nx o).map (·.1)))(hN:I64 r.N)(he:r.es.length<=1000000)(hi:r.ids.length<=1000000)(hf:r.fl.length<=1000000)(hp:r.pot.length<=1000000) :
  Ret prog 81 #[ptr bx,ptr bd,.agg (B0 r q).toArray] w fun v w'=>v=.int .i64 (ES acs ds r)/\∃full' o',OS a acs.length c 2 full' ((Gb acs ds r).flatMap CQ)/\CY .u64 (dm (GJ acs ds r)) o' /\
   Ctx w ((LX bx a acs.length c full bd b nx o).map (·.1)) w' (LX bx a acs.length c full' bd b nx o'):=by
 obtain⟨w0,rfl,H⟩:=qE w;have hn16:=(Co.1 ha).1;have hm64:=(F7.1 hd).1;have hbx:=H0.get at0;have hbd:=H0.get at1;have hb:=H0.get at2;have RAc:Rd w0 a 2 CQ acs:=OS.rd O (fun x hx=>H0.blk x (qah _ (qah _ (qah _ hx)))) (fun _ _=>rfl) (by decide);have A:AcAt w0 129 bx acs:=⟨a,c,hbx,RAc⟩;have D:DuAt w0 bd ds:=⟨b,nx,o,hbd,hb,hM⟩;obtain⟨ck,hck⟩:=qD (FH r.N r.es r.fl r.pot);obtain⟨nw,hnw⟩:=qD (NL acs ds r);refine Ay (fn:=f81) func81 U [.pointer (some ⟨bx,0,none⟩),.pointer (some ⟨bd,0,none⟩),.agg (B0 r q).toArray] U ?_;refine Ad (Br [ptr bd] (.pointer _) U U H ?_);rintro b4 w - H;refine Br (B0 r q) (.agg _) U U H ?_;rintro b5 w - H
 refine Ae U (qA (Ao (A1 (Ad (BV (α:=Unit) 520192 (fun _=>[(12,.bool (false))]) (fun _ w'=>Ctx w0 [] w' [(b5,Bl 127 (B0 r q)),(b4,Bl 68 [ptr bd])]) U ?_ ?_)))))
 .refine Ax U (Cu N1 U ?_);refine Aw U (AK 15 U ?_ ?_)
  .intro h1;refine Ag U (Ag U (A6 U (.bool _) U (Ai U (Ab ?_))));exact⟨rfl,(),rfl,⟨qaa Value.bool (by simp_all),trivial⟩,H⟩
  .intro h2;refine AB Hx U H at1 U (Cu Ls U ?_);refine A9 U (.bool _) U (Ai U (Ab ?_));exact⟨rfl,(),rfl,⟨qaa Value.bool (by rfl),trivial⟩,H⟩
 rintro - j12 w H;refine F2 U (Ad (Ah E0 U (BQ _ C7 Cp U U ((Ca (b:=b5) (t:=127) (l:=B0 r q) (H.get at0) 4 [.int .i64 r.N,.slice q.aE r.es.length q.cE] U)) ?_)));refine Ah Dq U (BQ _ OX Kr U U ((Ca (b:=b5) (t:=127) (l:=B0 r q) (H.get at0) 6 [.slice q.aF r.fl.length q.cF,.slice q.aP r.pot.length q.cP] U)) ?_);refine Al qB (TK r.N q.aE q.aF q.aP _ q.cE _ q.cF _ q.cP r.es r.fl r.pot _ (RA.E.ext0 H.ext) U hN (RA.F.ext0 H.ext) U (by omega) (RA.P.ext0 H.ext) U (by omega)) U ?_;rintro v w ⟨rfl,hx24⟩;rw[<-hck];replace H:=H.call hx24;refine BE U (Ai U (qA (An _ U ?_ ?_)))
 .intro h1;replace h1:=B7 h1;refine Ad (Ae U (qA (A7 (AF (Av (AD (v:=(.int _ _)) U U U ?_))))));have h1':ck=false:=by simpa using h1
  have hC:ES acs ds r=1:=by unfold ES;rw[<-hck,if_pos h1']
  unfold Gb GJ;rw[hC,if_neg (by decide),if_neg (by decide)];exact⟨rfl,full,o,O,hM,H0.call H.ext⟩
 .intro h1;replace h1:=B9 h1;have h1':ck=true:=by simpa using h1
  refine Ad (Ax U (AB Hx U H at1 U (Cj E7 C1 U H at0 U (Al qB (Alh ha hd _ (A.ext0 H.ext) (D.ext0 H.ext) (RA.ext0 H.ext) he hi) U ?_))));rintro v w ⟨rfl,hx30⟩;rw[<-hnw];replace H:=H.call hx30;refine BE U (Ai U (qA (An _ U ?_ ?_)))
  .intro h2;replace h2:=B7 h2;refine Ad (Ae U (qA (A7 (AF (Av (AD (v:=(.int _ _)) U U U ?_))))));have h2':nw=false:=by simpa using h2
   have hC:ES acs ds r=3:=by unfold ES;rw[<-hck,h1',if_neg (by decide),<-hnw,if_pos h2']
   unfold Gb GJ;rw[hC,if_neg (by decide),if_neg (by decide)];exact⟨rfl,full,o,O,hM,H0.call H.ext⟩
  .intro h2;replace h2:=B9 h2;have h2':nw=true:=by simpa using h2
   have hC:ES acs ds r=0:=by unfold ES;rw[<-hck,h1',if_neg (by decide),<-hnw,h2',if_neg (by decide)]
   have F:=GK ha hd hC;unfold Gb GJ;rw[hC,if_pos rfl,if_pos rfl];have hSh:=(KE ha (fun k a hk=>(F.by' k a hk).2) F.sum).1;obtain⟨f,hf0⟩:=qD (fun i=>Em (grE (((acs.map Dz).length+1:Nat):Int) (BL (acs.map Dz) (opn ds) r.cmp)) (flE r.fl) i:Nat->Nat->Int);have hfe:byK (acs.map Dz) (opn ds) r.cmp r.fl=f (opn ds).length:=by rw[hf0];rfl
   rw[hfe]at hSh |-;have hf00:f 0=fun _=>0:=by rw[hf0];rfl
   obtain⟨m,hm⟩:=qD ((opn ds).length);have hml:m<=64:=by have:=IK ds;omega
   have hmf:m<=r.fl.length:=by rw[F.len,F.es,HQ];omega
   have hltm:(r.fl.take m).length=m:=by rw[qbm];omega
   have hidl:r.ids.length=m:=by rw[F.ids,qak,hm]
   have hcut:SG (r.ids.length:Int) r.fl.length=m:=by unfold SG;rw[hidl];omega
   rw[<-hm]at hSh |-;refine Aq (A8 (Aa (Ad (Ax U (Al qB (P7 (bd:=bx) a acs.length c acs _ (H.ext.to hbx (by simp)) (RAc.ext0 H.ext) U) U ?_)))));rintro v w F33;obtain⟨a33,n33,c33,f33,rfl,O33,-⟩:=F33.ex;obtain rfl:=O33.numN (fun _ _=>rfl) (by decide);replace H:=H.call F33.ext;refine Ba DE U (HI AV B2 LB E5 U U H ?_);rintro b35 w - H;rw[qbe,Fe]at H;rw[qbe];refine AU Ahn H ?_;rintro b7 w - H;refine Ct (.slice _ _ _) Ahl U U U H at0 (by decide) ?_;rintro w H;refine qA (Ad (Cf [.pointer _,.pointer _] U (CX U (.func _ _ _) U ?_)));refine qA (Ao (Ad (Ah E0 U (BQ _ C7 Cp U U ((Ca (b:=b5) (t:=127) (l:=B0 r q) (H.get at2) 4 [.int .i64 r.N,.slice q.aE r.es.length q.cE] U)) ?_))))
   refine Ah Dq U (Ah EU U (AB BN U H at2 U (Ah Eh U (AB FE U H at2 U (Ba Bh U (Al qB (WN r.N q.aE q.aF r.es.length q.cE _ q.cF (r.ids.length:Int) r.fl _ (RA.F.ext0 H.ext) U RA.fc hf) U ?_))))));rintro v w F45;rw[hcut]at F45;obtain⟨a45,n45,c45,f45,rfl,O45,hb45⟩:=F45.ex;have hn45:=O45.num;rw[qbm,qb7 hmf]at hn45;rw[hn45]at O45 |-;refine Ba AV U (Af U (qA (A1 ?_)));have HFp:=(Ctx.callEnt H0 H.ext (fun x hx=>⟨H.blk x hx,(H.own x hx).elim (fun h=>by cases h) id⟩) H.nd).perm (Aht _ _ _ _ _ _ _ _);have HF:=HFp.call F45.ext;have E9:=H.ext.trans F45.ext
   obtain⟨S9,hS9⟩:=qD (((b35,Bl 2 (List.map (fun _=>Value.int .i64 0) (List.range acs.length)))::(b,o)::(bx,Bl 129 [.slice a acs.length c])::(bd,Bl 132 (DU b nx))::(b7,Bl 31 [.slice (some ⟨b35,0,none⟩) acs.length acs.length])::(b5,Bl 127 (B0 r q))::(b4,Bl 68 [ptr bd])::ent a 108 full).map (·.1));have RPY:Rd w a45 1 I1 (r.fl.take m):=O45.rd1 fun x hx=>(hb45 x hx).1
   have hPY:r.fl.take m≠[]->(adr a45).block∉S9:=fun hne hm9=>by
    obtain⟨z,rfl⟩:=O45.form (by have:=qbn.2 hne;rw[qbm]at this;omega);have h7:=(hb45 (z,Bl 2 f45) (qab.2 rfl)).2;rw[hS9]at hm9;obtain⟨y,hy,hy2⟩:=qag.1 hm9;have h8:=AY (HFp.blk y hy);dsimp only at h7;have h9:y.1=z:=hy2;omega
   have RA9:=RA.ext0 E9
   have hoff9:ROff q r (·∈S9):=(hoff.or RA.lt).mono fun x hx=>by
    rw[hS9]at hx;obtain⟨y,hy,rfl⟩:=qag.1 hx;exact HFp.own y hy
   clear HFp;obtain⟨w9,rfl⟩:=qD w;replace HF:Ctx w0 ((LX bx a acs.length c full bd b nx o).map (·.1)) w9 (((b35,Bl 2 (List.map (fun _=>Value.int .i64 0) (List.range acs.length)))::(b,o)::(bx,Bl 129 [.slice a acs.length c])::(bd,Bl 132 (DU b nx))::(b7,Bl 31 [.slice (some ⟨b35,0,none⟩) acs.length acs.length])::(b5,Bl 127 (B0 r q))::(b4,Bl 68 [ptr bd])::ent a 108 full)++[]):=by rw[qa3];exact HF
   have H:Ctx w9 S9 w9 ((b35,Bl 2 (List.map (fun _=>Value.int .i64 0) (List.range acs.length)))::(b,o)::(bx,Bl 129 [.slice a acs.length c])::(bd,Bl 132 (DU b nx))::(b7,Bl 31 [.slice (some ⟨b35,0,none⟩) acs.length acs.length])::(b5,Bl 127 (B0 r q))::(b4,Bl 68 [ptr bd])::ent a 108 full):=by rw[hS9];exact Ctx.lend HF
   refine Bt 18446603336221199936 (α:=AP7) (fun t=>[(47,.int .i64 (t.i:Int))]) (fun t w'=>t.i<=m/\CY .u64 (dm (KC ds (((opn ds).zip (r.fl.take m)).take t.i))) t.o/\Ctx w9 S9 w' ((b35,Bl 2 (BZ (f t.i) acs.length))::(b,t.o)::(bx,Bl 129 [.slice a acs.length c])::(bd,Bl 132 (DU b nx))::(b7,Bl 31 [.slice (some ⟨b35,0,none⟩) acs.length acs.length])::(b5,Bl 127 (B0 r q))::(b4,Bl 68 [ptr bd])::ent a 108 full)) (fun t=>m - t.i) ⟨0,o⟩ U ?_ ?_ ?_
   .exact⟨rfl,trivial⟩
   .refine⟨qaj _,hM,?_⟩;dsimp only;rw[hf00];exact H
   .clear H;rintro⟨i,o1⟩ jj w ⟨hi7,hM1,H⟩;dsimp only at hi7 hM1 H;dsimp only;refine Ad (Bm U U (qA (Ao (An _ U ?_ ?_))))
    .intro h3;replace h3:=AM h3;obtain⟨d,hdi⟩:=AA (l:=opn ds) (i:=i);obtain⟨x,hxi⟩:=AA (l:=r.fl) (i:=i);have hxt:(r.fl.take m)[i]?=some x:=by rw[qbv,if_pos (by omega)];exact hxi
     have hid:r.ids[i]?=some d.id:=by rw[F.ids,qa1,hdi];rfl
     have hps:((opn ds).zip (r.fl.take m))[i]?=some (d,x):=by rw[qcz];exact⟨hdi,hxt⟩
     have hok:=F.ok;rw[<-hm]at hok;obtain⟨⟨hfd,hheld,hx0,hx1⟩,hnext⟩:=Ud hok hps;dsimp only at hfd hheld hx0 hx1 hnext;have ham7:=(WO (of_am hd) hok i).1;have hDI:=F.B.open'.due d (qac hdi);rw[qak]at hDI;have hdm:=DA hDI.1
     have hfb:∀k,-1152921504606846976<=f i k/\f i k<=1152921504606846976:=fun k=>by
      have:=Kx (g:=grE (((acs.map Dz).length+1:Nat):Int) (BL (acs.map Dz) (opn ds) r.cmp)) (x:=flE r.fl) (c:=4503599627370496) k (k:=i) fun j hj=>by
       obtain⟨d',hd'⟩:=AA (l:=opn ds) (i:=j);obtain⟨x',hx'⟩:=AA (l:=r.fl) (i:=j);have h1:=F.pay.2 j d' x' hd' (by rw[qbv,if_pos (by omega)];exact hx');have h2:=(DA (F.B.open'.due d' (qac hd')).1).2.2.2.1;show 0<=r.fl.getD j 0/\r.fl.getD j 0<=_;rw[Bs hx'];omega
      rw[hf0];dsimp only;omega
     have hfs:∀k,f (i+1) k=f i k+(one (d.to.toNat=k) - one (d.fr.toNat=k))*x:=fun k=>by
      rw[hf0];dsimp only;rw[GG,Ue (JM hdi),Uf (JM hdi),show flE r.fl i=x from Bs hxi];rfl
     refine Aq (Aa (Ao (A1 (Ad (Af U (Be RPY AV B2 U U (by omega) ?_))))));refine Bc Bw U (((RPY.ext' H.ext hPY).fld hxt U (j:=0) U)) (Ae U (Ae U (qA (Ad (CU (.func _ _ _) U ?_)))));refine Ah Eh U (AB FE U H at5 U (Af U (Be RA9.I Bh Bo U U (by rfl) ?_)));refine Bc Bz U (((RA9.I.ext' H.ext hoff9.I).fld hid U (j:=0) U)) ?_
     refine Af U (FI U qB (Af9 (f:=f i) (f':=f (i+1)) (x:=x) (d:=d) _ (H.get at6) (H.get at4) (H.get at3) (Ctx.lend (L1:=[_,_]) (L2:=_) H) hM1 (fun h=>by simp only[qae,qaq,or_false]at h;exact h.elim (H.ne at6 at0 (by decide)) (H.ne at6 at1 (by decide))) (fun h=>by simp only[qae,qaq,or_false]at h;exact h.elim (H.ne at4 at0 (by decide)) (H.ne at4 at1 (by decide))) (fun h=>by simp only[qae,qaq,or_false]at h;exact h.elim (H.ne at3 at0 (by decide)) (H.ne at3 at1 (by decide))) hfd hheld ⟨hx0,hx1⟩ ham7 ⟨hdm.1.1,hDI.2.1⟩ ⟨hdm.2.1.1,hDI.2.2⟩ hfb hfs) U ?_);rintro v w ⟨rfl,o2,hM2,H2⟩;replace H:=Ctx.back (L1:=[_,_]) (L2:=_) H H2;rw[<-hnext]at hM2;refine Ae U (qA (Ad (Af U (Cv U U (qA (An _ U ?_ ?_))))))
     .intro h4;replace h4:=Cy h4;exact absurd U h4
     .intro h4;replace h4:=Cz h4;refine Aq (A8 (Aa (A0 (Az U U ?_))));refine Af U (qA ?_);exact⟨⟨i+1,o2⟩,rfl,⟨rfl,trivial⟩,⟨by dsimp only;omega,hM2,H⟩,by dsimp only;omega⟩
    .intro h3;replace h3:=AN h3;obtain rfl:i=m:=by omega
     have hall:=F.all;rw[<-hm]at hall;rw[qdt (by rw[qco,<-hm,qbm];omega),hall]at hM1;refine Bp (Am (Am (AO (Aa (Ad (Ax U (AB BN U H at4 U (Al qB (Yn (bd:=bx) a (some ⟨b35,0,none⟩) c acs.length acs.length full acs (tab (f i) acs.length) _ (H.get at2) O (fun x hx=>⟨H.blk x (qal [_,_,_,_,_,_,_] hx),fun h=>(qbf.1 H0.nd).1 x (qah _ (qah _ hx)) h.symm⟩) (C4 (H.get at0)) (Di _ _)) U ?_))))))));rintro v w ⟨rfl,full',O',hb',hx66⟩;rw[hSh];refine Ae U (qA (A7 (AD (v:=(.int _ _)) U U U ?_)));have HT:=Ctx.turnEnt (L:=[_,_,_,_,_,_,_]) H hx66 hb';rw[hS9]at HT;have HB:=Ctx.back HF HT;rw[qa3]at HB;exact⟨rfl,full',o1,O',hM1,(HB.perm (Aht _ _ _ _ _ _ _ _).symm).left (L':=[_,_,_,_])⟩
def plc(k:Nat)(d:Du):Int:=one (d.to=(k:Int)) - one (d.fr=(k:Int))
theorem Nq{p q:Prop}[Decidable p][Decidable q](h:p↔q):one p=one q:=by
 by_cases hp:p
 .rw[Gz hp,Gz (h.1 hp)]
 .rw[FN hp,FN (fun hq=>hp (h.2 hq))]
def KF(acs:List Ac)(ds:List Du)(k:Nat):Int:=(acs.getD k a00).ba+Cw (ds.map fun d=>plc k d*d.am)
theorem Ra{acs:List Ac}{ds:List Du}{nx:Int}{r:Rnd}(ha:El acs=0)(hd:ofC ds nx=0)(hC:ES acs ds r=0){k:Nat}{a:Ac}(hk:acs[k]?=some a):(Gb acs ds r)[k]?=some ⟨a.ba+byK (acs.map Dz) (opn ds) r.cmp r.fl k,a.re⟩:=by
 have F:=GK ha hd hC;unfold Gb;rw[if_pos hC];exact WQ (KE ha (fun k a hk=>(F.by' k a hk).2) F.sum).1 hk
theorem Rb{acs:List Ac}{ds:List Du}{net:Bool}{r:Rnd}(hb:D5 (acs.map Dz) ds=true)(P:PlanR acs ds net r):ES acs ds r=0:=by
 unfold ES NL;rw[P.chk,hb,P.cmp,P.es,P.ids,P.N];simp
theorem MC:∀{ds:List Du} {xs:List Int} {e:Du},e∈Eo ds xs->∃d∈ds,e.id=d.id
 | [],_,_,h=>by cases h
 |d::ds,[],e,h=>⟨e,h,rfl⟩
 |d::ds,x::xs,e,h=>by
  unfold Eo at h
  split at h
  .rcases qae.1 h with rfl|h
   .exact⟨_,qai ..,rfl⟩
   .obtain⟨d',h1,h2⟩:=MC h;exact⟨d',qah _ h1,h2⟩
  .split at h
   .obtain⟨d',h1,h2⟩:=MC h;exact⟨d',qah _ h1,h2⟩
   .rcases qae.1 h with rfl|h
    .exact⟨d,qai ..,rfl⟩
    .obtain⟨d',h1,h2⟩:=MC h;exact⟨d',qah _ h1,h2⟩
def MgI(ds left:List Du)(i j:Nat):Prop:=j<=left.length/\∃xs,PayIn (opn (ds.drop i)) xs/\left.drop j=Eo (ds.drop i) xs
theorem MgI.start{ds:List Du}{xs:List Int}(h:PayIn (opn ds) xs):MgI ds (Eo ds xs) 0 0:=⟨qaj _,xs,h,rfl⟩
theorem JN{α:Type}{l:List α}{i:Nat}{x:α}(h:l[i]?=some x):l.drop i=x::l.drop (i+1):=by
 obtain⟨h1,rfl⟩:=qbc.1 h;exact qdd h1
theorem Rc{α:Type}{l m:List α}{j:Nat}{x:α}(h:l.drop j=x::m):l[j]?=some x/\l.drop (j+1)=m:=by
 have h1:(l.drop j)[0]?=some x:=by rw[h];rfl
 rw[qcr,qdr]at h1;refine⟨h1,?_⟩;rw[JN h1]at h;injection h
theorem MgI.step{ds left:List Du}{i j:Nat}{d:Du}(hs:(ds.map (·.id)).Pairwise (·<·))(h:MgI ds left i j)(hd:ds[i]?=some d)(hp:1<=d.am) :
  (∃e,left[j]?=some e/\e.id=d.id/\e.am<=d.am/\1<=e.am/\(d.held=true->e=d)/\MgI ds left (i+1) (j+1)) \/
  (d.held=false/\(∀e,left[j]?=some e->e.id≠d.id)/\MgI ds left (i+1) j):=by
 obtain⟨hj,xs,hP,hl⟩:=h;rw[JN hd]at hP hl;rw[Iw]at hP
 by_cases hh:d.held=true
 .rw[if_pos hh]at hP
  have hl':left.drop j=d::Eo (ds.drop (i+1)) xs:=by
   rw[hl];exact Iu hh _ _
  obtain⟨g1,g2⟩:=Rc hl';exact .inl ⟨d,g1,rfl,qax _,hp,fun _=>rfl,C0 g1,xs,hP,g2⟩
 .rw[if_neg hh]at hP;obtain⟨x,xs,rfl⟩:=PayIn.cons hP;obtain⟨⟨h0,h1⟩,hP⟩:=PayIn.tail hP;rw[Iv hh]at hl
  by_cases hx:d.am=x
  .rw[if_pos hx,qb9]at hl;refine .inr ⟨by simpa using hh,fun e he hid=>?_,hj,xs,hP,hl⟩;have h3:=JN he;rw[hl]at h3;obtain⟨d',hd',hid'⟩:=MC (e:=e) (by rw[h3];exact qai ..);have hs':((ds.drop i).map (·.id)).Pairwise (·<·):=by rw[List.map_drop];exact hs.drop
   rw[JN hd,qav,qbf]at hs';have:=hs'.1 d'.id (qa5 hd');omega
  .rw[if_neg hx,qcx,qb9]at hl;obtain⟨g1,g2⟩:=Rc hl;exact .inl ⟨_,g1,rfl,by dsimp only;omega,by dsimp only;omega,fun h=>absurd h hh,C0 g1,xs,hP,g2⟩
theorem MgI.ends{ds left:List Du}{j:Nat}(h:MgI ds left ds.length j):j=left.length:=by
 obtain⟨hj,xs,-,hl⟩:=h;rw[List.drop_length]at hl;have:=qaa List.length hl;rw[qd8]at this;have h0:(Eo [] xs).length=0:=rfl;omega
theorem WW{F:Nat->Int}{E:Nat}{s:Nat->Nat}(h1:∀i,i<E->s i<E)(h2:∀i,i<E->s (s i)=i):BC (fun i=>F (s i)) E=BC F E:=by
 have e1:BC (fun i=>F (s i)) E=BC (fun i=>BC (fun j=>one (s i=j)*F j) E) E:=C3 fun i hi=>(HM F (h1 i hi)).symm;have e2:=Pk (fun i j=>one (s i=j)*F j) E E
 have e3:BC (fun j=>BC (fun i=>one (s i=j)*F j) E) E=BC F E:=C3 fun j hj=>by
  have:BC (fun i=>one (s i=j)*F j) E=BC (fun i=>one (s j=i)*F j) E:=C3 fun i hi=>by
   rw[Nq (p:=s i=j) (q:=s j=i) ⟨fun h=>by rw[<-h,h2 i hi],fun h=>by rw[<-h,h2 j hj]⟩]
  rw[this];exact HM (fun _=>F j) (h1 j hj)
 rw[e1,<-e3];exact e2
structure Twin(g g':Gr)(cap cap':Nat->Int)(s p:Nat->Nat):Prop where
 N:g'.N=g.N
 E:g'.E=g.E
 s1:∀i,i<g.E->s i<g.E
 s2:∀i,i<g.E->s (s i)=i
 p1:∀v,v<g.N->p v<g.N
 p2:∀v,v<g.N->p (p v)=v
 f:∀i,i<g.E->g'.f (s i)=p (g.f i)
 t:∀i,i<g.E->g'.t (s i)=p (g.t i)
 co:∀i,i<g.E->g'.co (s i)=g.co i
 cap:∀i,i<g.E->cap' (s i)=cap i
theorem Twin.symm{g g':Gr}{cap cap':Nat->Int}{s p:Nat->Nat}(_:g'.Ok)(hg:g.Ok)(T:Twin g g' cap cap' s p):Twin g' g cap' cap s p :=
 ⟨T.N.symm,T.E.symm,fun i hi=>by rw[T.E]at hi |-;exact T.s1 i hi,fun i hi=>by rw[T.E]at hi;exact T.s2 i hi,
  fun v hv=>by rw[T.N]at hv |-;exact T.p1 v hv,fun v hv=>by rw[T.N]at hv;exact T.p2 v hv,
  fun i hi=>by
   rw[T.E]at hi;have h:=T.f (s i) (T.s1 i hi);rw[T.s2 i hi]at h
   rw[h,T.p2 _ (hg.f _ (T.s1 i hi))],
  fun i hi=>by
   rw[T.E]at hi;have h:=T.t (s i) (T.s1 i hi);rw[T.s2 i hi]at h
   rw[h,T.p2 _ (hg.t _ (T.s1 i hi))],
  fun i hi=>by
   rw[T.E]at hi;have h:=T.co (s i) (T.s1 i hi);rw[T.s2 i hi]at h
   exact h.symm,
  fun i hi=>by
   rw[T.E]at hi;have h:=T.cap (s i) (T.s1 i hi);rw[T.s2 i hi]at h
   exact h.symm⟩
theorem Twin.le{g g':Gr}{cap cap' x x' p':Nat->Int}{q:Nat->Int}{s p:Nat->Nat}(T:Twin g g' cap cap' s p)(hg:g.Ok)(h:Fine g cap x q)(h0:∀v,v<g.N->BD g x v=0)(h':Fine g' cap' x' p')(h0':∀v,v<g'.N->BD g' x' v=0):Hi g x<=Hi g' x':=by
 have hc:Hi g (fun i=>x' (s i))=Hi g' x':=by
  unfold Hi;rw[T.E,<-WW (F:=fun i=>x' i*g'.co i) T.s1 T.s2];exact C3 fun i hi=>by rw[T.co i hi]
 rw[<-hc];refine Fine.best hg h h0 (fun i hi=>?_) fun v hv=>?_
 .have h1:=h'.in' (s i) (by rw[T.E];exact T.s1 i hi);rw[T.cap i hi]at h1;exact h1
 .have h1:=h0' (p v) (by rw[T.N];exact T.p1 v hv);rw[<-h1];unfold BD Em;rw[T.E,<-WW (F:=fun i=>(one (g'.t i=p v) - one (g'.f i=p v))*x' i) T.s1 T.s2];refine C3 fun i hi=>?_;have hp:∀u,u<g.N->(u=v↔p u=p v):=fun u hu=>⟨fun h=>by rw[h],fun h=>by rw[<-T.p2 u hu,h,T.p2 v hv]⟩;rw[T.t i hi,T.f i hi,Nq (hp _ (hg.t i hi)),Nq (hp _ (hg.f i hi))]
theorem Twin.eq{g g':Gr}{cap cap' x x' p':Nat->Int}{q:Nat->Int}{s p:Nat->Nat}(T:Twin g g' cap cap' s p)(hg:g.Ok)(hg':g'.Ok)(h:Fine g cap x q)(h0:∀v,v<g.N->BD g x v=0)(h':Fine g' cap' x' p')(h0':∀v,v<g'.N->BD g' x' v=0):Hi g x=Hi g' x' :=
 Int.le_antisymm (T.le hg h h0 h' h0') ((T.symm hg' hg).le hg' h' h0' h h0)
def flip(n:Nat)(a b:Du):Du:={ b with id:=a.id,fr:=(n:Int) - 1 - b.fr,to:=(n:Int) - 1 - b.to }
def turnD(n:Nat)(ds:List Du):List Du:=List.zipWith (flip n) ds ds.reverse
def mirE(n:Nat)(e:Ed):Ed:={ e with f:=(n:Int) - 1 - e.f,t:=(n:Int) - 1 - e.t }
def sigN(n m i:Nat):Nat:=if i<m then m - 1 - i else m+(2*(n - 1 - (i - m) / 2)+(i - m) % 2)
def piN(n v:Nat):Nat:=if v<n then n - 1 - v else v
def costR(r:Rnd):Int:=Hi (grE r.N r.es) (flE r.fl)
theorem Y3{acs:List Ac}{ds:List Du}{net:Bool}{r:Rnd}(P:PlanR acs ds net r):C2 r.N r.es=true/\Cn r.N r.es r.fl=true/\(∀v,v<r.N.toNat->BD (grE r.N r.es) (flE r.fl) v=0)/\Fine (grE r.N r.es) (Ck r.es) (flE r.fl) (EQ r.pot):=by
 obtain⟨h1,-,h3⟩:=Gq.1 P.chk;obtain⟨h4,h5⟩:=EX h1;exact⟨(Cx h4).2.1,h4,h5,h3⟩
theorem Uo{f g:Nat->Int}{m:Nat}:∀n,m<=n->(∀i,i<m->f i=g i)->(∀i,m<=i->i<n->f i=0)->BC f n=BC g m
 |0,h,_,_=>by
  obtain rfl:m=0:=by omega
  rfl
 |n+1,h,h1,h2=>by
  rcases qap n m with h3|h3
  .obtain rfl:m=n+1:=by omega
   exact C3 h1
  .show BC f n+f n=_;rw[Uo n h3 h1 fun i hi hn=>h2 i hi (by omega),h2 n h3 (by omega),qc2]
theorem Up{rs:List Int}{os:List Du}{net:Bool}{xs:List Int}(hl:os.length<=xs.length)(v:Nat):∀k,k<=os.length->(∀(i:Nat) (d:Du) (x:Int),i<k->os[i]?=some d->xs[i]?=some x->0<=x/\x<=d.am) ->
  -Cw ((os.map Du.am).take k)<=Em (grE ((rs.length+1:Nat):Int) (BL rs os net)) (flE xs) k v/\Em (grE ((rs.length+1:Nat):Int) (BL rs os net)) (flE xs) k v<=Cw ((os.map Du.am).take k)
 |0,_,_=>⟨qax _,qax _⟩
 |k+1,h,hp=>by
  have ih:=Up (rs:=rs) (net:=net) hl v k (by omega) fun i d x hi=>hp i d x (by omega);obtain⟨d,hd⟩:=AA (l:=os) (i:=k);obtain⟨x,hx⟩:=AA (l:=xs) (i:=k);have h1:=hp k d x (by omega) hd hx;have hm:(os.map Du.am)[k]?=some d.am:=by rw[qa1,hd];rfl
  have h2:∀(p q:Prop) [Decidable p] [Decidable q],-x<=(one p - one q)*x/\(one p - one q)*x<=x:=fun p q _ _=>by
   by_cases hp:p <;> by_cases hq:q <;> simp only[one,if_pos,if_neg,hp,hq,not_false_eq_true] <;> omega
  rw[GG,Lc hm,show flE xs k=x from Bs hx];have h3:=h2 ((grE ((rs.length+1:Nat):Int) (BL rs os net)).t k=v) ((grE ((rs.length+1:Nat):Int) (BL rs os net)).f k=v);omega
theorem Aga{rs:List Int}{os:List Du}{net:Bool}{xs:List Int}(hp:PayIn os xs)(v:Nat)(k:Nat)(h:k<=os.length) :
  -Cw ((os.map Du.am).take k)<=Em (grE ((rs.length+1:Nat):Int) (BL rs os net)) (flE xs) k v/\Em (grE ((rs.length+1:Nat):Int) (BL rs os net)) (flE xs) k v<=Cw ((os.map Du.am).take k) :=
 Up (Nat.le_of_eq hp.1) v k h fun i d x _=>hp.2 i d x
theorem Y4{xs:List Int}(h:∀x∈xs,0<=x)(k:Nat):Cw (xs.take k)<=Cw xs:=by
 have h1:Cw (xs.take k++xs.drop k)=Cw (xs.take k)+Cw (xs.drop k):=EL _ _;rw[qbp]at h1;have h2:=Hm (xs:=xs.drop k) fun x hx=>h x (qc9 hx);omega
def WY(rs:List Int)(net:Bool)(k:Nat):Int:=if net=true then 0 else rs.getD k 0
def Uq(rs:List Int)(os:List Du)(net:Bool)(xs:List Int)(k:Nat):Int:=WY rs net k+byK rs os net xs k
structure PermP(rs:List Int)(ds:List Du)(net:Bool)(xs:List Int):Prop where
 B:Bright rs ds
 pay:PayIn (opn ds) xs
 left:∀k,k<rs.length->0<=Uq rs (opn ds) net xs k/\(net=true->Uq rs (opn ds) net xs k=0)
def Fy(os:List Du)(xs:List Int)(k:Nat):Int:=BC (fun i=>(os.getD i d00).we*xs.getD i 0) k
theorem NB{os:List Du}{xs:List Int}{k:Nat}{d:Du}{x:Int}(hd:os[k]?=some d)(hx:xs[k]?=some x):Fy os xs (k+1)=Fy os xs k+d.we*x:=by
 show Fy os xs k+(os.getD k d00).we*xs.getD k 0=_;rw[Bs hd,Bs hx]
theorem LN{os:List Du}{xs:List Int}(hp:PayIn os xs)(hos:∀d∈os,0<=d.we/\d.we<=1000):∀k,k<=os.length->0<=Fy os xs k/\Fy os xs k<=1000*Cw ((os.map Du.am).take k)
 |0,_=>⟨qax _,qax _⟩
 |k+1,h=>by
  have ih:=LN hp hos k (by omega);have hl:=hp.1;obtain⟨d,hd⟩:=AA (l:=os) (i:=k);obtain⟨x,hx⟩:=AA (l:=xs) (i:=k);have h1:=hp.2 k d x hd hx;have hw:=hos d (qac hd);have hm:(os.map Du.am)[k]?=some d.am:=by rw[qa1,hd];rfl
  have h2:0<=d.we*x:=qdg hw.1 h1.1;have h3:d.we*x<=1000*d.am:=qbg (qeb hw.2 h1.1) (qdf h1.2 (by decide));rw[NB hd hx,Lc hm];omega
def Iy(rs:List Int)(os:List Du)(net:Bool)(xs:List Int)(i:Nat):Int :=
 if i<os.length then flE xs i else if(i - os.length) % 2=0 then max 0 (-byK rs os net xs ((i - os.length) / 2))else max 0 (byK rs os net xs ((i - os.length) / 2))
theorem Nr{rs:List Int}{os:List Du}{net:Bool}{xs:List Int}{i:Nat}(h:i<os.length):Iy rs os net xs i=flE xs i:=if_pos h
theorem Ur(rs:List Int)(os:List Du)(net:Bool)(xs:List Int)(k:Nat):Iy rs os net xs (os.length+2*k)=max 0 (-byK rs os net xs k):=by
 unfold Iy;rw[if_neg (by omega),if_pos (by omega),show(os.length+2*k - os.length) / 2=k by omega]
theorem Rg(rs:List Int)(os:List Du)(net:Bool)(xs:List Int)(k:Nat):Iy rs os net xs (os.length+2*k+1)=max 0 (byK rs os net xs k):=by
 unfold Iy;rw[if_neg (by omega),if_neg (by omega),show(os.length+2*k+1 - os.length) / 2=k by omega]
theorem KG{g:Gr}{x y:Nat->Int}(v:Nat):∀k,(∀i,i<k->x i=y i)->Em g x k v=Em g y k v
 |0,_=>rfl
 |k+1,h=>by rw[GG,GG,KG v k fun i hi=>h i (by omega),h k (by omega)]
theorem Us{rs:List Int}{os:List Du}{j:Nat}(hj:j<rs.length):∃x,rs[j]?=some x/\(BL rs os false)[os.length+2*j]?=some ⟨rs.length,j,x,0⟩/\(BL rs os false)[os.length+2*j+1]?=some ⟨j,rs.length,4503599627370496,0⟩:=by
 obtain⟨x,hx⟩:=AA (h:=hj);exact⟨x,hx,Lf (M9 hx),by rw[qcq];exact Lf (Oa hj)⟩
theorem VK{rs:List Int}{ds:List Du}{net:Bool}{xs:List Int}(P:PermP rs ds net xs):∀v,v<rs.length+1->BD (grE ((rs.length+1:Nat):Int) (BL rs (opn ds) net)) (Iy rs (opn ds) net xs) v=0:=by
 have hB:=P.B.right net;have hok:=JF hB;have hN:(grE ((rs.length+1:Nat):Int) (BL rs (opn ds) net)).N=rs.length+1:=by show((rs.length+1:Nat):Int).toNat=_;omega
 have hE:(grE ((rs.length+1:Nat):Int) (BL rs (opn ds) net)).E=(BL rs (opn ds) net).length:=rfl;have hlen:=HQ rs (opn ds) net
 have hb:∀v,v<rs.length->BD (grE ((rs.length+1:Nat):Int) (BL rs (opn ds) net)) (Iy rs (opn ds) net xs) v=0:=fun v hv=>by
  have h0:Em (grE ((rs.length+1:Nat):Int) (BL rs (opn ds) net)) (Iy rs (opn ds) net xs) (opn ds).length v=byK rs (opn ds) net xs v:=KG v _ fun i hi=>Nr hi;unfold BD;rw[hE,hlen]
  cases net with
  |true =>
   rw[if_pos rfl,show(opn ds).length+0=(opn ds).length from rfl,h0];have:=(P.left v hv).2 rfl;unfold Uq WY at this;rw[if_pos rfl]at this;omega
  |false =>
   rw[if_neg (by decide),PB (n:=rs.length) (fun j hj=>?_) hv rs.length (qan _),if_pos hv,h0,Ur,Rg]
   .omega
   .obtain⟨x,-,e1,e2⟩:=Us (os:=opn ds) hj;rw[Ue e1,Uf e1,Ue e2,Uf e2];dsimp only;omega
 intro v hv
 rcases qap v rs.length with h|h
 .exact hb v h
 .obtain rfl:v=rs.length:=by omega
  have ha:=over_all _ hok (Iy rs (opn ds) net xs);rw[hN]at ha;have h2:BC (BD (grE ((rs.length+1:Nat):Int) (BL rs (opn ds) net)) (Iy rs (opn ds) net xs)) rs.length=BC (fun _=>0) rs.length:=C3 hb;have h3:BC (BD (grE ((rs.length+1:Nat):Int) (BL rs (opn ds) net)) (Iy rs (opn ds) net xs)) rs.length+BD (grE ((rs.length+1:Nat):Int) (BL rs (opn ds) net)) (Iy rs (opn ds) net xs) rs.length=0:=ha;rw[h2,Hh]at h3;omega
theorem Rh{rs:List Int}{os:List Du}{net:Bool}{i:Nat}(hi:i<(BL rs os net).length):(∃d,os[i]?=some d/\(BL rs os net)[i]?=some (LK d)) \/
  (net=false/\∃k x,k<rs.length/\rs[k]?=some x/\((i=os.length+2*k/\(BL rs os net)[i]?=some ⟨rs.length,k,x,0⟩)\/(i=os.length+2*k+1/\(BL rs os net)[i]?=some ⟨k,rs.length,4503599627370496,0⟩))):=by
 have hlen:=HQ rs os net
 rcases qap i os.length with h|h
 .obtain⟨d,hd⟩:=AA (h:=h);exact .inl ⟨d,hd,JM hd⟩
 .cases net with
  |true=>rw[hlen,if_pos rfl]at hi;omega
  |false =>
   rw[hlen,if_neg (by decide)]at hi;obtain⟨x,hx,e1,e2⟩:=Us (os:=os) (j:=(i - os.length) / 2) (rs:=rs) (by omega);refine .inr ⟨rfl,(i - os.length) / 2,x,by omega,hx,?_⟩
   by_cases hp:(i - os.length) % 2=0
   .exact .inl ⟨by omega,by rw[show os.length+2*((i - os.length) / 2)=i by omega]at e1;exact e1⟩
   .exact .inr ⟨by omega,by rw[show os.length+2*((i - os.length) / 2)+1=i by omega]at e2;exact e2⟩
theorem Y5{rs:List Int}{ds:List Du}{net:Bool}{xs:List Int}(P:PermP rs ds net xs){i:Nat}(hi:i<(BL rs (opn ds) net).length):0<=Iy rs (opn ds) net xs i/\Iy rs (opn ds) net xs i<=Ck (BL rs (opn ds) net) i:=by
 have htot:=P.B.open'.tot;unfold Ck
 rcases Rh hi with⟨d,hd,he⟩|⟨rfl,k,x,hk,hx,⟨rfl,he⟩|⟨rfl,he⟩⟩
 .have hl:=P.pay.1;have hlt:=C0 hd;obtain⟨y,hy⟩:=AA (l:=xs) (i:=i);have:=P.pay.2 i d y hd hy;rw[Nr hlt,show flE xs i=y from Bs hy,Bs he];exact this
 .rw[Ur,Bs he];have h1:=(P.left k hk).1;have h2:=CN.1 (P.B.may x (qac hx));unfold Uq WY at h1;rw[if_neg (by decide),Bs hx]at h1;show 0<=max 0 _/\max 0 _<=x;omega
 .rw[Rg,Bs he];have h1:=(Aga (rs:=rs) (net:=false) P.pay k _ (qan _)).2;rw[qdt (by rw[qak];exact qan _)]at h1;have h2:byK rs (opn ds) false xs k<=4503599627370496:=qbg h1 htot;show 0<=max 0 _/\max 0 _<=(4503599627370496:Int);omega
theorem NC{rs:List Int}{os:List Du}{net:Bool}{y:Nat->Int}{xs:List Int}(hy:∀i,i<os.length->y i=flE xs i):Hi (grE ((rs.length+1:Nat):Int) (BL rs os net)) y = -Fy os xs os.length:=by
 have hlen:=HQ rs os net
 have h1:Hi (grE ((rs.length+1:Nat):Int) (BL rs os net)) y=BC (fun i => -((os.getD i d00).we*xs.getD i 0)) os.length:=by
  unfold Hi;refine Uo (f:=fun i=>y i*(grE ((rs.length+1:Nat):Int) (BL rs os net)).co i) _ (by show os.length<=(BL rs os net).length;omega) (fun i hi=>?_) fun i hi h2=>?_
  .obtain⟨d,hd⟩:=AA (h:=hi)
   (try dsimp only)
   rw[Ug (JM hd),Bs hd,hy i hi];unfold LK flE;dsimp only;rw[Int.mul_neg,qcs]
  .rcases Rh (rs:=rs) (os:=os) (net:=net) (i:=i) h2 with⟨d,hd,he⟩|⟨hn,k,x,hk,hx,⟨hi2,he⟩|⟨hi2,he⟩⟩
   .have:=C0 hd;omega
   ·(try dsimp only)
    rw[Ug he];exact Int.mul_zero _
   ·(try dsimp only)
    rw[Ug he];exact Int.mul_zero _
 rw[h1,NX];rfl
structure RndF(rs:List Int)(ds:List Du)(net:Bool)(r:Rnd):Prop where
 N:r.N=((rs.length+1:Nat):Int)
 es:r.es=BL rs (opn ds) net
 chk:FH r.N r.es r.fl r.pot=true
theorem RndF.fine{rs:List Int}{ds:List Du}{net:Bool}{r:Rnd}(P:RndF rs ds net r):C2 r.N r.es=true/\Cn r.N r.es r.fl=true/\(∀v,v<r.N.toNat->BD (grE r.N r.es) (flE r.fl) v=0)/\Fine (grE r.N r.es) (Ck r.es) (flE r.fl) (EQ r.pot):=by
 obtain⟨h1,-,h3⟩:=Gq.1 P.chk;obtain⟨h4,h5⟩:=EX h1;exact⟨(Cx h4).2.1,h4,h5,h3⟩
theorem RndF.best{rs:List Int}{ds:List Du}{net:Bool}{r:Rnd}(P:RndF rs ds net r){xs:List Int}(Q:PermP rs ds net xs):Fy (opn ds) xs (opn ds).length<=Fy (opn ds) (r.fl) (opn ds).length:=by
 obtain⟨p1,p2,p3,p4⟩:=P.fine;rw[P.N,P.es]at p1 p3 p4;have hN:(grE ((rs.length+1:Nat):Int) (BL rs (opn ds) net)).N=rs.length+1:=by show((rs.length+1:Nat):Int).toNat=_;omega
 have hN2:((rs.length+1:Nat):Int).toNat=rs.length+1:=by omega
 have h:=Fine.best (JF p1) p4 (fun v hv=>p3 v (by rw[hN]at hv;omega)) (y:=Iy rs (opn ds) net xs) (fun i hi=>Y5 Q hi) fun v hv=>VK Q v (by rw[hN]at hv;exact hv);rw[NC (xs:=r.fl) fun i _=>rfl,NC fun i hi=>Nr hi]at h;omega
theorem RndF.perm{rs:List Int}{ds:List Du}{net:Bool}{r:Rnd}(P:RndF rs ds net r)(hB:Bright rs ds):PermP rs ds net (r.fl.take (opn ds).length)/\BC (byK rs (opn ds) net r.fl) rs.length=0/\(∀(k:Nat) (x:Int),rs[k]?=some x->(net=true->byK rs (opn ds) net r.fl k=0) /\ -x<=byK rs (opn ds) net r.fl k/\byK rs (opn ds) net r.fl k<=4503599627370496):=by
 have hc:=(Gq.1 P.chk).1;rw[P.N,P.es]at hc;obtain⟨h1,h2,h3,h4⟩:=Uh (fun x hx=>(CN.1 (hB.may x hx)).1) hB.open'.due hc;refine⟨⟨hB,h1,fun k hk=>?_⟩,h4,h3⟩
 have hby:byK rs (opn ds) net (r.fl.take (opn ds).length) k=byK rs (opn ds) net r.fl k:=KG k _ fun i hi=>by
  unfold flE;rw[qbk,qbk,qbv,if_pos hi]
 obtain⟨x,hx⟩:=AA (h:=hk);obtain⟨g1,g2,-⟩:=h3 k x hx;unfold Uq WY;rw[hby]
 cases net with
 |true=>rw[if_pos rfl,g1 rfl];exact⟨by omega,fun _=>by omega⟩
 |false=>rw[if_neg (by decide),Bs hx];exact⟨by omega,fun h=>by cases h⟩
theorem VL{os:List Du}{fl:List Int}:∀k,k<=os.length->Fy os (fl.take os.length) k=Fy os fl k:=fun k hk=>C3 fun i hi=>by
 rw[qbk (l:=fl.take os.length),qbk (l:=fl),qbv,if_pos (by omega)]
def Acp:List Du->List Int->List Int->List Int
 | [],_,_=>[]
 |_::_,[],ys=>ys
 |d::os,x::xs,ys=>if d.am=x then x::Acp os xs ys else match ys with
  | []=>x::Acp os xs []
  |y::ys=>(x+y)::Acp os xs ys
def Ahu:List Du->List Int->List Du
 | [],_=>[]
 |d::ds,[]=>d::ds
 |d::ds,x::xs=>if d.am=x then Ahu ds xs else{ d with am:=d.am - x }::Ahu ds xs
theorem MD:∀{ds:List Du} {xs:List Int} {e:Du},e∈Eo ds xs->∃d∈ds,e.fr=d.fr/\e.to=d.to/\e.we=d.we
 | [],_,_,h=>by cases h
 |d::ds,[],e,h=>⟨e,h,rfl,rfl,rfl⟩
 |d::ds,x::xs,e,h=>by
  unfold Eo at h
  split at h
  .rcases qae.1 h with rfl|h
   .exact⟨_,qai ..,rfl,rfl,rfl⟩
   .obtain⟨d',h1,h2⟩:=MD h;exact⟨d',qah _ h1,h2⟩
  .split at h
   .obtain⟨d',h1,h2⟩:=MD h;exact⟨d',qah _ h1,h2⟩
   .rcases qae.1 h with rfl|h
    .exact⟨_,qai ..,rfl,rfl,rfl⟩
    .obtain⟨d',h1,h2⟩:=MD h;exact⟨d',qah _ h1,h2⟩
theorem Ut{acs:List Ac}{ds:List Du}{nx:Int}{r:Rnd}(ha:El acs=0)(hd:ofC ds nx=0)(hC:ES acs ds r=0):Bright ((Gb acs ds r).map Dz) (GJ acs ds r):=by
 have F:=GK ha hd hC;obtain⟨h1,h2,h3⟩:=Lh (r:=r) ha hd;refine LM h1 h2 fun d hdm=>?_;unfold GJ at hdm;rw[if_pos hC]at hdm;obtain⟨d',h4,h5,h6,-⟩:=MD hdm;have h7:=(F.B.due d' h4).2;rw[qak]at h7;rw[h3];omega
structure Ak where
 kd:Int
 a:Int
 b:Int
 x:Int
 w:Int
 u:Int
 id:Int
structure Ld where
 day:Int
 acs:List Ac
 ds:List Du
 nx:Int
 rn:List Rnd
 no:Int
def NM(r:Rnd):Bool:=FH r.N r.es r.fl r.pot && (decide (r.ids.length<=64) && decide (0<=r.day))
structure Ld.Ok(s:Ld):Prop where
 ac:El s.acs=0
 du:ofC s.ds s.nx=0
 bk:∀d∈s.ds,d.fr<s.acs.length/\d.to<s.acs.length
 day:0<=s.day/\s.day<=9223372036854775807
 kept:s.rn.length<=4/\(s.rn.length:Int)<=s.no/\s.no<=4611686018427387904
 nos:∀(i:Nat) (r:Rnd),s.rn[i]?=some r->r.no=s.no - s.rn.length+1+i
 may:∀r∈s.rn,NM r=true
def bas(acs:List Ac):List Int:=acs.map Ac.ba
def Hu(acs:List Ac)(k:Int)(a:Ac):List Ac:=acs.set k.toNat a
def Gs(acs:List Ac)(k x:Int):Int:=if inA acs k=false then 10 else if(decide (0<x) && Dc x)=false then 1 else if(ER (bas acs++[x])).2≠0 then 13 else 0
def Fa(acs:List Ac)(k x:Int):List Ac:=if Gs acs k x=0 then Hu acs k ⟨(Dd acs k).ba+x,(Dd acs k).re⟩else acs
def FD(acs:List Ac)(k x:Int):Int:=if inA acs k=false then 10 else if(decide (0<x) && Dc x)=false then 1 else if(Dd acs k).ba<x then 12 else 0
def EM(acs:List Ac)(k x:Int):List Ac:=if FD acs k x=0 then Hu acs k ⟨(Dd acs k).ba - x,(Dd acs k).re⟩else acs
def Lk(acs:List Ac)(k x:Int):Int:=if inA acs k=false then 10 else if Dc x=false then 1 else 0
def Hv(acs:List Ac)(k x:Int):List Ac:=if Lk acs k x=0 then Hu acs k ⟨(Dd acs k).ba,x⟩else acs
theorem E6{acs:List Ac}{k:Int}:inA acs k=true↔0<=k/\k<acs.length:=by
 unfold inA;rw[qaf,qas,qas]
theorem F8{acs:List Ac}{k:Int}(h:inA acs k=true):acs[k.toNat]?=some (Dd acs k):=by
 have h1:=E6.1 h;obtain⟨a,ha⟩:=AA (l:=acs) (i:=k.toNat);unfold Dd;rw[if_pos h,ha,Bs ha]
theorem ME{xs:List Int}:∀{i:Nat} {x y:Int},xs[i]?=some x->Cw (xs.set i y)=Cw xs - x+y:=by
 induction xs with
 |nil=>intro i x y h;cases h
 |cons z xs ih =>
  intro i x y h
  cases i with
  |zero =>
   simp only[List.getElem?_cons_zero,qb5]at h;subst h;rw[List.set_cons_zero,Cg,Cg];omega
  |succ i =>
   rw[List.set_cons_succ,Cg,Cg,ih (show xs[i]?=some x from h)];omega
theorem MF(acs:List Ac)(k:Int)(a:Ac):bas (Hu acs k a)=(bas acs).set k.toNat a.ba:=by
 unfold bas Hu;rw[List.map_set]
theorem KH(acs:List Ac)(k:Int)(a:Ac):(Hu acs k a).length=acs.length:=by unfold Hu;rw[qb6]
theorem SN{acs:List Ac}{k:Int}{a:Ac}(h:El acs=0)(hk:inA acs k=true)(hm:IJ a=true)(hs:Cw (bas acs) - (Dd acs k).ba+a.ba<=4503599627370496):El (Hu acs k a)=0:=by
 obtain⟨h1,h2,h3⟩:=Co.1 h;have h4:=Dr.1 h3;have hg:(bas acs)[k.toNat]?=some (Dd acs k).ba:=by unfold bas;rw[qa1,F8 hk];rfl
 refine Co.2 ⟨by rw[KH];exact h1,fun b hb=>?_,Dr.2 ⟨fun x hx=>?_,?_⟩⟩
 .unfold Hu at hb
  rcases qel hb with h5|rfl
  .exact h2 b h5
  .exact hm
 .change x∈bas (Hu acs k a)at hx
  rw[MF]at hx
  rcases qel hx with h5|rfl
  .exact h4.1 x h5
  .exact CN.2 (Gp.1 hm).1
 .change Cw (bas (Hu acs k a))<=_
  rw[MF,ME hg];exact hs
theorem Js{acs:List Ac}{k:Int}(h:El acs=0)(hk:inA acs k=true):(0<=(Dd acs k).ba/\(Dd acs k).ba<=4503599627370496)/\0<=(Dd acs k).re/\(Dd acs k).re<=4503599627370496 :=
 Gp.1 ((Co.1 h).2.1 _ (qac (F8 hk)))
theorem VM{acs:List Ac}(h:El acs=0):(∀x∈bas acs,Dc x=true)/\Cw (bas acs)<=4503599627370496:=Dr.1 (Co.1 h).2.2
theorem LO(acs:List Ac)(k x:Int):(Gs acs k x≠0/\Fa acs k x=acs)\/(Gs acs k x=0/\inA acs k=true/\0<x/\Dc x=true/\(ER (bas acs++[x])).2=0/\Fa acs k x=Hu acs k ⟨(Dd acs k).ba+x,(Dd acs k).re⟩):=by
 by_cases h:Gs acs k x=0
 .refine .inr ⟨h,?_⟩;have h2:=h;unfold Gs at h2
  cases h3:inA acs k with
  |false=>rw[if_pos h3]at h2;cases h2
  |true =>
   rw[if_neg (by rw[h3];decide)]at h2
   cases h4:(decide (0<x) && Dc x)with
   |false=>rw[if_pos h4]at h2;cases h2
   |true =>
    rw[if_neg (by rw[h4];decide)]at h2;rw[qaf,qas]at h4
    by_cases h5:(ER (bas acs++[x])).2≠0
    .rw[if_pos h5]at h2;cases h2
    .refine⟨rfl,h4.1,h4.2,by omega,?_⟩;unfold Fa;rw[if_pos h]
 .refine .inl ⟨h,?_⟩;unfold Fa;rw[if_neg h]
theorem WZ{acs:List Ac}(h:El acs=0)(k x:Int):El (Fa acs k x)=0/\(Fa acs k x).length=acs.length/\Cw (bas (Fa acs k x))=Cw (bas acs)+(if Gs acs k x=0 then x else 0):=by
 rcases LO acs k x with⟨h1,h2⟩|⟨h1,hk,hx,hm,ht,h2⟩
 .rw[h2,if_neg h1];exact⟨h,rfl,by omega⟩
 .have hg:=Js h hk;have h3:=(Dr.1 ht).2;rw[EL,Cg]at h3;have h4:Cw ([]:List Int)=0:=rfl;have hmem:(Dd acs k).ba∈bas acs:=qa5 (qac (F8 hk));have h5:=Ui (fun y hy=>(CN.1 ((VM h).1 y hy)).1) _ hmem;have hx2:=CN.1 hm;rw[h2,if_pos h1];refine⟨SN h hk (Gp.2 ⟨⟨by dsimp only;omega,by dsimp only;omega⟩,hg.2⟩) (by dsimp only;omega),KH ..,?_⟩;rw[MF,ME (x:=(Dd acs k).ba) (by unfold bas;rw[qa1,F8 hk];rfl)];dsimp only;omega
theorem LP(acs:List Ac)(k x:Int):(FD acs k x≠0/\EM acs k x=acs)\/(FD acs k x=0/\inA acs k=true/\0<x/\Dc x=true/\x<=(Dd acs k).ba/\EM acs k x=Hu acs k ⟨(Dd acs k).ba - x,(Dd acs k).re⟩):=by
 by_cases h:FD acs k x=0
 .refine .inr ⟨h,?_⟩;have h2:=h;unfold FD at h2
  cases h3:inA acs k with
  |false=>rw[if_pos h3]at h2;cases h2
  |true =>
   rw[if_neg (by rw[h3];decide)]at h2
   cases h4:(decide (0<x) && Dc x)with
   |false=>rw[if_pos h4]at h2;cases h2
   |true =>
    rw[if_neg (by rw[h4];decide)]at h2;rw[qaf,qas]at h4
    by_cases h5:(Dd acs k).ba<x
    .rw[if_pos h5]at h2;cases h2
    .refine⟨rfl,h4.1,h4.2,by omega,?_⟩;unfold EM;rw[if_pos h]
 .refine .inl ⟨h,?_⟩;unfold EM;rw[if_neg h]
theorem Xa{acs:List Ac}(h:El acs=0)(k x:Int):El (EM acs k x)=0/\(EM acs k x).length=acs.length/\Cw (bas (EM acs k x))=Cw (bas acs) - (if FD acs k x=0 then x else 0):=by
 rcases LP acs k x with⟨h1,h2⟩|⟨h1,hk,hx,hm,hle,h2⟩
 .rw[h2,if_neg h1];exact⟨h,rfl,by omega⟩
 .have hg:=Js h hk;have h3:=(VM h).2;rw[h2,if_pos h1];refine⟨SN h hk (Gp.2 ⟨⟨by dsimp only;omega,by dsimp only;omega⟩,hg.2⟩) (by dsimp only;omega),KH ..,?_⟩;rw[MF,ME (x:=(Dd acs k).ba) (by unfold bas;rw[qa1,F8 hk];rfl)];dsimp only;omega
theorem Ri(acs:List Ac)(k x:Int):(Lk acs k x≠0/\Hv acs k x=acs)\/(Lk acs k x=0/\inA acs k=true/\Dc x=true/\Hv acs k x=Hu acs k ⟨(Dd acs k).ba,x⟩):=by
 by_cases h:Lk acs k x=0
 .refine .inr ⟨h,?_⟩;have h2:=h;unfold Lk at h2
  cases h3:inA acs k with
  |false=>rw[if_pos h3]at h2;cases h2
  |true =>
   rw[if_neg (by rw[h3];decide)]at h2
   cases h4:Dc x with
   |false=>rw[if_pos h4]at h2;cases h2
   |true =>
    refine⟨rfl,rfl,?_⟩;unfold Hv;rw[if_pos h]
 .refine .inl ⟨h,?_⟩;unfold Hv;rw[if_neg h]
theorem Acq{acs:List Ac}(h:El acs=0)(k x:Int):El (Hv acs k x)=0/\(Hv acs k x).length=acs.length/\Cw (bas (Hv acs k x))=Cw (bas acs):=by
 rcases Ri acs k x with⟨h1,h2⟩|⟨h1,hk,hm,h2⟩
 .rw[h2];exact⟨h,rfl,rfl⟩
 .have hg:=Js h hk;have h3:=(VM h).2;have hx:=CN.1 hm;rw[h2];refine⟨SN h hk (Gp.2 ⟨hg.1,hx⟩) (by dsimp only;omega),KH ..,?_⟩;rw[MF,ME (x:=(Dd acs k).ba) (by unfold bas;rw[qa1,F8 hk];rfl)];dsimp only;omega
theorem Acr{acs:List Ac}(h:El acs=0)(hl:acs.length<16):El (acs++[a00])=0/\Cw (bas (acs++[a00]))=Cw (bas acs):=by
 obtain⟨h1,h2,h3⟩:=Co.1 h;have h4:=Dr.1 h3
 have h5:Cw ((acs++[a00]).map Ac.ba)=Cw (acs.map Ac.ba):=by
  rw[qay,EL];show Cw (acs.map Ac.ba)+0=_;omega
 refine⟨Co.2 ⟨by rw[qat,qb4];omega,fun b hb=>?_,Dr.2 ⟨fun x hx=>?_,by rw[h5];exact h4.2⟩⟩,h5⟩
 .rcases qbi.1 hb with h6|h6
  .exact h2 b h6
  .rw[qab.1 h6];decide
 .rw[qay]at hx
  rcases qbi.1 hx with h6|h6
  .exact h4.1 x h6
  .rw[qab.1 h6];decide
def Acs(nx fr to x w u:Int):Du:=⟨nx,fr,to,x,w,u,false⟩
def Jt(ds:List Du)(nx fr to x w u:Int):Int:=if Es (Acs nx fr to x w u)=false then 1 else if 64<=ds.length\/4611686018427387904<=nx then 6 else if(ER (ds.map Du.am++[x])).2≠0 then 13 else 0
def Ns(ds:List Du)(nx fr to x w u:Int):List Du:=if Jt ds nx fr to x w u=0 then ds++[Acs nx fr to x w u]else ds
def PE(ds:List Du)(nx fr to x w u:Int):Int:=if Jt ds nx fr to x w u=0 then nx+1 else nx
def HS(ds:List Du)(k:Int)(b:Bool):Int:=match C6 ds k with
 |none=>11
 |some d=>if d.held=b then 14 else 0
def FQ(ds:List Du)(k:Int)(b:Bool):List Du:=if HS ds k b=0 then ds.map fun d=>if d.id=k then{ d with held:=b }else d else ds
def NN(ds:List Du)(k:Int):Int:=match C6 ds k with
 |none=>11
 |some _=>0
def SO(ds:List Du)(k:Int):List Du:=ds.filter fun d => !decide (d.id=k)
def Nt(ds:List Du)(u:Int):List Du:=ds.filter fun d=>decide (u<=d.un)
theorem Fb{ds:List Du}{nx:Int}(h:ofC ds nx=0):ds.length<=64/\(1<=nx/\nx<=4611686018427387904)/\FP nx 0 ds=true/\Cw (ds.map Du.am)<=4503599627370496:=by
 obtain⟨h1,h2,h3,h4⟩:=F7.1 h;exact⟨h1,h2,h3,(Dr.1 h4).2⟩
theorem SP{nx:Int}:∀{ah:Int} {ds:List Du},FP nx ah ds=true↔(∀d∈ds,Es d=true/\ah<d.id/\d.id<nx)/\(ds.map Du.id).Pairwise (·<·)
 |ah,[]=>⟨fun _=>⟨fun _ h=>(by cases h),List.Pairwise.nil⟩,fun _=>rfl⟩
 |ah,x::ds=>by
  simp only[FP,qaf,qas,qav,qbf];rw[SP];constructor
  .rintro⟨⟨h1,h2,h3⟩,h4,h5⟩;refine⟨fun d hd=>?_,fun y hy=>?_,h5⟩
   .rcases qae.1 hd with rfl|hd
    .exact⟨h1,h2,h3⟩
    .obtain⟨g1,g2,g3⟩:=h4 d hd;exact⟨g1,by omega,g3⟩
   .obtain⟨d,hd,rfl⟩:=qag.1 hy;exact(h4 d hd).2.1
  .rintro⟨h1,h2,h3⟩;obtain⟨g1,g2,g3⟩:=h1 x (qai ..);refine⟨⟨g1,g2,g3⟩,fun d hd=>?_,h3⟩;obtain⟨k1,-,k3⟩:=h1 d (qah _ hd);exact⟨k1,h2 _ (qa5 hd),k3⟩
theorem SQ{ds:List Du}{nx:Int}(h1:ds.length<=64)(h2:1<=nx/\nx<=4611686018427387904)(h3:∀d∈ds,Es d=true/\0<d.id/\d.id<nx)(h4:(ds.map Du.id).Pairwise (·<·))(h5:Cw (ds.map Du.am)<=4503599627370496):ofC ds nx=0:=by
 refine F7.2 ⟨h1,h2,SP.2 ⟨h3,h4⟩,Dr.2 ⟨fun x hx=>?_,h5⟩⟩;obtain⟨d,hd,rfl⟩:=qag.1 hx;have:=DA (h3 d hd).1;exact CN.2 (by omega)
theorem GS{ds:List Du}{nx:Int}(h:ofC ds nx=0):(∀d∈ds,Es d=true/\0<d.id/\d.id<nx)/\(ds.map Du.id).Pairwise (·<·):=SP.1 (Fb h).2.2.1
theorem PF(p:Du->Bool):∀{ds:List Du},(∀d∈ds,0<=d.am)->Cw ((ds.filter p).map Du.am)<=Cw (ds.map Du.am)
 | [],_=>qax _
 |d::ds,h=>by
  have ih:=PF p (ds:=ds) fun e he=>h e (qah _ he);have h0:=h d (qai ..);rw[qbr]
  split
  .rw[qav,qav,Cg,Cg];omega
  .rw[qav,Cg];omega
theorem Rj{ds:List Du}{nx:Int}(h:ofC ds nx=0)(p:Du->Bool):ofC (ds.filter p) nx=0:=by
 obtain⟨h1,h2,-,h4⟩:=Fb h;obtain⟨h5,h6⟩:=GS h;have h7:(ds.filter p).Sublist ds:=List.filter_sublist;refine SQ (qa0 h7.length_le h1) h2 (fun d hd=>h5 d (h7.subset hd)) ?_ (qbg (PF p fun d hd=>by have:=DA (h5 d hd).1;omega) h4);exact h6.sublist (h7.map _)
theorem Ali{ds:List Du}{nx:Int}(h:ofC ds nx=0)(fr to x w u:Int):ofC (Ns ds nx fr to x w u) (PE ds nx fr to x w u)=0:=by
 unfold Ns PE
 by_cases hC:Jt ds nx fr to x w u=0
 .rw[if_pos hC,if_pos hC];unfold Jt at hC
  cases hm:Es (Acs nx fr to x w u)with
  |false=>rw[if_pos hm]at hC;cases hC
  |true =>
   rw[if_neg (by rw[hm];decide)]at hC
   by_cases hl:64<=ds.length\/4611686018427387904<=nx
   .rw[if_pos hl]at hC;cases hC
   .rw[if_neg hl]at hC
    by_cases ht:(ER (ds.map Du.am++[x])).2≠0
    .rw[if_pos ht]at hC;cases hC
    .obtain⟨h1,h2,-,h4⟩:=Fb h;obtain⟨h5,h6⟩:=GS h;have h7:=(Dr.1 (show(ER (ds.map Du.am++[x])).2=0 by omega)).2;refine SQ (by rw[qat,qb4];omega) (by omega) (fun d hd=>?_) ?_ (by rw[qay];exact h7)
     .rcases qbi.1 hd with h8|h8
      .obtain⟨g1,g2,g3⟩:=h5 d h8;exact⟨g1,g2,by omega⟩
      .rw[qab.1 h8];exact⟨hm,by show 0<nx;omega,by show nx<nx+1;omega⟩
     .rw[qay,qbu];refine⟨h6,List.pairwise_singleton ..,fun y hy z hz=>?_⟩;obtain⟨d,hd,rfl⟩:=qag.1 hy;have hz':z=nx:=by simpa[Acs]using hz
      rw[hz'];exact(h5 d hd).2.2
 .rw[if_neg hC,if_neg hC];exact h
theorem Acu{ds:List Du}{nx:Int}(h:ofC ds nx=0)(k:Int)(b:Bool):ofC (FQ ds k b) nx=0:=by
 unfold FQ
 split
 .obtain⟨h1,h2,-,h4⟩:=Fb h;obtain⟨h5,h6⟩:=GS h
  have hid:(ds.map fun d=>if d.id=k then{ d with held:=b }else d).map Du.id=ds.map Du.id:=by
   rw[qbx];refine qbl fun d _=>?_;show(if d.id=k then({ d with held:=b }:Du)else d).id=d.id
   split <;> rfl
  have ham:(ds.map fun d=>if d.id=k then{ d with held:=b }else d).map Du.am=ds.map Du.am:=by
   rw[qbx];refine qbl fun d _=>?_;show(if d.id=k then({ d with held:=b }:Du)else d).am=d.am
   split <;> rfl
  refine SQ (by rw[qak];exact h1) h2 (fun e he=>?_) (by rw[hid];exact h6) (by rw[ham];exact h4);obtain⟨d,hd,rfl⟩:=qag.1 he;obtain⟨g1,g2,g3⟩:=h5 d hd
  split
  .exact⟨g1,g2,g3⟩
  .exact⟨g1,g2,g3⟩
 .exact h
theorem Acv{ds:List Du}{k:Int}{b:Bool}{n:Nat}(h:∀d∈ds,d.fr<(n:Int)/\d.to<(n:Int)){e:Du}(he:e∈FQ ds k b):e.fr<(n:Int)/\e.to<(n:Int):=by
 unfold FQ at he
 split at he
 .obtain⟨d,hd,rfl⟩:=qag.1 he
  split
  .exact h d hd
  .exact h d hd
 .exact h e he
def IL(xs:List Int)(k:Nat):Int:=BC (fun i=>one (0<xs.getD i 0)) k
def Ju(rn:List Rnd)(r:Rnd):List Rnd:=(rn++[r]).drop (rn.length - 3)
theorem Uu{rn:List Rnd}(h:rn.length<=4)(r:Rnd):(Ju rn r).length=min (rn.length+1) 4:=by
 unfold Ju;rw[qd8,qat,qb4];omega
theorem Uv{rn:List Rnd}{r x:Rnd}(h:x∈Ju rn r):x∈rn\/x=r:=by
 have h1:=qc9 h
 rcases qbi.1 h1 with h2|h2
 .exact .inl h2
 .exact .inr (qab.1 h2)
def Qo(s:Ld)(r:Rnd):Ld:=⟨s.day,Gb s.acs s.ds r,GJ s.acs s.ds r,s.nx,Ju s.rn { r with no:=s.no+1,day:=s.day },s.no+1⟩
theorem Alj{s:Ld}(h:s.Ok){net:Bool}{r:Rnd}(P:PlanR s.acs s.ds net r)(hno:s.no<4611686018427387904):ES s.acs s.ds r=0/\(Qo s r).Ok:=by
 have hBr:=LM h.ac h.du h.bk;have hol:=IK s.ds;have h64:=hBr.m64;have hC:ES s.acs s.ds r=0:=Rb ((Ix).2 hBr) P;obtain⟨h1,h2,h3⟩:=Lh (r:=r) h.ac h.du;have hB2:=Ut h.ac h.du hC;obtain⟨k1,k2,k3⟩:=h.kept;have hkl:=Uu k1 { r with no:=s.no+1,day:=s.day };refine⟨hC,⟨h1,h2,fun d hd=>?_,h.day,⟨by show(Ju _ _).length<=4;omega,by show((Ju _ _).length:Int)<=s.no+1;omega,by show s.no+1<=_;omega⟩,fun i x hx=>?_,fun x hx=>?_⟩⟩
 .have:=(hB2.due d hd).2;rw[qak]at this;exact this
 .change (Ju s.rn { r with no:=s.no+1,day:=s.day })[i]?=some x at hx
  show x.no=s.no+1 - ((Ju s.rn { r with no:=s.no+1,day:=s.day }).length:Nat)+1+i;have hi:=C0 hx;rw[hkl]at hi |-;unfold Ju at hx;rw[qcr]at hx
  rcases qap (s.rn.length - 3+i) s.rn.length with h5|h5
  .rw[qcb h5]at hx;have:=h.nos _ x hx;omega
  .rw[qcf h5]at hx;have h6:s.rn.length - 3+i - s.rn.length=0:=by omega
   rw[h6]at hx;cases hx;show s.no+1=_;omega
 .rcases Uv hx with h5|rfl
  .exact h.may x h5
  .unfold NM;dsimp only;have hids:r.ids.length=(opn s.ds).length:=by rw[P.ids,qak]
   rw[P.chk,qar (show r.ids.length<=64 by omega),qar h.day.1];rfl
end Go.Proofs.YtffclglpjlcojaaGreat
