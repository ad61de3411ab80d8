/- Part 5 of the proof. -/
import Derived.Test.YtdagmpmdcgedcaaGreatPart4
set_option maxRecDepth 20000
set_option maxHeartbeats 8000000
namespace Go.Proofs.YtdagmpmdcgedcaaGreat
open Go.GV Tryz
attribute [local irreducible] AN W Wq Wt
abbrev ptr(b:Nat):Value := .pointer (some ⟨b,0,none⟩)
def tab(f:Nat->Int)(n:Nat):List Int:=(List.range n).map f
theorem CY(f:Nat->Int)(n:Nat):(tab f n).length=n:=by unfold tab;simp
theorem Cd{f:Nat->Int}{n i:Nat}(h:i<n):(tab f n)[i]?=some (f i):=Ei h
theorem Ai8{f g:Nat->Int}{n:Nat}(h:∀i,i<n->f i=g i):tab f n=tab g n:=by
 unfold tab;exact qbi fun i hi=>h i (qaz.1 hi)
theorem Ap7(l:List Int):tab (fun i=>l.getD i 0) l.length=l:=by
 apply qb2;intro j
 by_cases hj:j<l.length
 .rw[Cd hj,qby,qbq hj];rfl
 .rw[qba (by rw[CY];omega),qba (by omega)]
theorem NZ{f:Nat->Int}{n i:Nat}{x:Int}(h:(tab f n)[i]?=some x):i<n/\x=f i:=by
 have h1:=Cb h;rw[CY]at h1;rw[Cd h1]at h;cases h;exact⟨h1,rfl⟩
abbrev Ce(f:Nat->Int)(n:Nat):List Value:=(List.range n).map fun i => .int .i64 (f i)
theorem ZY(f:Nat->Int)(n:Nat):Ce f n=(tab f n).flatMap I1:=by
 unfold tab I1;rw[Yr,qb8];rfl
theorem CE{w:World}{b:Nat}{t:TypeId}{f:Nat->Int}{n:Nat}(h:w.heap[b]?=some (Bl t (Ce f n))):Rd w (some ⟨b,0,none⟩) 1 I1 (tab f n) :=
 Rd.of_bl (r:=[]) (enc:=I1) (xs:=tab f n) h (by rw[ZY,qa4]) fun _ _=>rfl
def e0:Ed:=⟨0,0,0,0⟩
def grE(N:Int)(es:List Ed):Gr:=⟨N.toNat,es.length,fun i=>(es.getD i e0).f.toNat,fun i=>(es.getD i e0).t.toNat,fun i=>(es.getD i e0).cost⟩
def CA(es:List Ed)(i:Nat):Int:=(es.getD i e0).cap
def flE(fl:List Int)(i:Nat):Int:=fl.getD i 0
theorem Br{α:Type}{l:List α}{i:Nat}{x d:α}(h:l[i]?=some x):l.getD i d=x:=by rw[qby,h];rfl
def Ml(N:Int)(es:List Ed)(fl:List Int):List Int:=tab (BP (grE N es) (flE fl)) N.toNat
def Fi(N:Int)(es:List Ed)(fl:List Int):Bool:=Cf N es fl && (Ml N es fl).all fun x=>decide (x=0)
theorem Aex(N:Int)(a b:Option Addr)(n c m d:Nat)(w:World):Ret prog 275 #[Dx N a n c,.slice b m d] w fun v w'=>∃b2 b3,v=.func (.func 284) #[] #[ptr b2,ptr b3]/\w'.heap[b2]?=some (Bl 51 [.int .i64 N,.slice a n c])/\w'.heap[b3]?=some (Bl 35 [.slice b m d])/\w.heap.size<=b2/\w.heap.size<=b3/\b2≠b3/\Ext [] w w':=by
 obtain⟨w0,rfl,H⟩:=qE w;refine A2 (fn:=f275) func275 U [Dx N a n c,.slice b m d] U (Ad (Bu [.int .i64 N,.slice a n c] (.agg _) U U H ?_));rintro b2 w - H;refine Bu _ (.slice _ _ _) U U H ?_;rintro b3 w - H;refine Dg U .nilFunc U (qA (Ad (Cm [.pointer _,.pointer _] U (Dg U (.func _ _ _) U ?_))));refine qA (A6 (AD (v:=(.func _ _ _)) U U U ?_));have ho:∀x∈[(b3,Bl 35 [.slice b m d]),(b2,Bl 51 [.int .i64 N,.slice a n c])],w0.heap.size<=x.1:=fun x hx=>(H.own x hx).elim (fun h=>by cases h) id;exact⟨b2,b3,rfl,H.get at1,H.get at0,ho (b2,_) (qai _ (qaj ..)),ho (b3,_) (qaj ..),H.ne at1 at0 (by decide),H.ext⟩
def YE(p:Ed × Int):List Value:=[.agg (CJ p.1).toArray,.int .i64 p.2]
structure EdgeK(b2 b3:Nat)(N:Int)(a b:Option Addr)(n c m d:Nat)(es:List Ed)(fl:List Int)(w:World):Prop where
 h2:w.heap[b2]?=some (Bl 51 [.int .i64 N,.slice a n c])
 h3:w.heap[b3]?=some (Bl 35 [.slice b m d])
 R:Rd w a 4 CJ es
 Rf:Rd w b 1 I1 fl
theorem Ai9{α β:Type}{l:List α}{m:List β}{i:Nat}{x:α}{y:β}(h1:l[i]?=some x)(h2:m[i]?=some y):(l.zip m)[i]?=some (x,y):=by
 rw[qc8];exact⟨h1,h2⟩
theorem ZZ{b2 b3:Nat}{N:Int}{a b:Option Addr}{n c m d:Nat}{es:List Ed}{fl:List Int}(hn:es.length=n)(hm:fl.length=m)(hnm:n=m)(hn2:n<=1000000:=by omega):TY prog 284 #[ptr b2,ptr b3] [] (fun _ w=>EdgeK b2 b3 N a b n c m d es fl w) ((es.zip fl).map YE):=by
 subst hn hm;intro l w J E hJ0 hJs hEs hK hY;obtain⟨M0,hJ0⟩:=hJ0;obtain⟨w0,rfl⟩:=qD w;have hlen:((es.zip fl).map YE).length=es.length:=by rw[qak,qcx];omega
 refine A2 (fn:=f284) func284 U [.func (.yield l) #[] #[],.pointer (some ⟨b2,0,none⟩),.pointer (some ⟨b3,0,none⟩)] U ?_;have K0:=(hK _ _ _ hJ0).2;refine Ad (Ah C8 U (Ba DO U ((by rw[An K0.h2];rfl)) ?_));refine AU CU U (Ae U (qA (Ax (Bn 8388144 (α:=Nat) (fun i=>[(9,.int .i64 (i:Int))]) (fun i w'=>i<=es.length/\∃M,J i M w') (fun i=>es.length - i) 0 U ?_ ?_ ?_))))
 .exact⟨rfl,trivial⟩
 .exact⟨qaf _,M0,hJ0⟩
 .rintro i j w ⟨hi,M,hJ⟩;have KK:=(hK _ _ _ hJ).2;have R:=KK.R;have Rf:=KK.Rf;obtain⟨w1,rfl,H⟩:=qE w;refine Ad (AZ U U (qA (Ap (Av _ U ?_ ?_))))
  .intro h1;replace h1:=AJ h1;obtain⟨e,he⟩:=AB (l:=es) (i:=i);obtain⟨x,hfx⟩:=AB (l:=fl) (i:=i);refine Aq (Aa (Ap (Ax (Ad (Ae U (AM R CU CW U U (by rfl) ?_))))));refine Ca _ Je CW U U ((R.ext0 H.ext).row he U) (AX GY H ?_);rintro b5 w - H;refine Af U (Bi CW U U U (by exact GO _) H at0 U ?_);rintro w H;refine qA ?_;have hY1:=hY i (YE (e,x)) M w.drew (by rw[qa1,Ai9 he hfx];rfl) (hJs _ _ _ _ hJ (H.ext.trans (Ext.drew [] w)));have KR:=(hK _ _ _ (hJs _ _ _ _ hJ (H.ext.trans (Ext.drew [] w)))).2;refine EB 6 Bs U U (NH U (.func _ _ _) U ?_);refine PW U Je CW U (by rintro _ rfl;exact H.drew) at0 U ?_;refine BF Cc U (by rintro _ rfl;exact((by rw[An KR.h3];rfl))) ?_;refine AY U (Bo Rf AR Bt U U (by rfl) ?_)
   refine BF Bm U (by rintro _ rfl;exact((KR.Rf.fld hfx rfl (j:=0) rfl))) ?_;refine BM ?_;replace H:=H.drew;refine HG (vs:=YE (e,x)) U hY1 U ?_;rintro u w hu;obtain⟨bb,rfl,hu1,hu0⟩:∃bb,u=.bool bb/\(bb=true->∃M,J (i+1) M w)/\(bb=false->E w):=hu.elim (fun h=>⟨true,h.1,fun _=>let ⟨M',h1,_⟩:=h.2;⟨M',h1⟩,fun h=>by cases h⟩) (fun h=>⟨false,h.1,(fun h=>by cases h),fun _=>h.2⟩);refine B1 U (qA (Av _ U ?_ ?_))
   .intro h2;replace h2:=Bv h2;refine A6 (A5 (Al (Al (A5 (Gx U U ?_)))));exact .inr (hu0 (by simpa using h2))
   .intro h2;replace h2:=Bw h2;refine Aq (A7 (Aa (Ay (Aw U U ?_))));refine Ae U (qA ?_);exact⟨i+1,rfl,⟨rfl,trivial⟩,⟨by omega,hu1 (by simpa using h2)⟩,by omega⟩
  .intro h1;replace h1:=AK h1;refine Be (Aj (Aj (AH (Dd U U ?_))));obtain rfl:i=es.length:=by omega
   exact .inl ⟨M,by rw[hlen];exact hJ⟩
theorem Fj{p:Prop}[Decidable p](h:p):one p=1:=if_pos h
theorem E4{p:Prop}[Decidable p](h:¬p):one p=0:=if_neg h
theorem D0(p:Nat->Int)(v:Nat)(x:Int):upd p v x v=x:=if_pos rfl
theorem EM{p:Nat->Int}{v:Nat}{x:Int}{u:Nat}(h:u≠v):upd p v x u=p u:=if_neg h
theorem Gd(g:Gr)(x:Nat->Int)(k v:Nat):Ea g x (k+1) v=Ea g x k v+(one (g.t k=v) - one (g.f k=v))*x k:=rfl
theorem Aja(N:Int)(a b:Option Addr)(n c m d:Nat)(es:List Ed)(fl:List Int)(w:World)(R:Rd w a 4 CJ es)(hn:es.length=n)(hN:I64 N)(Rf:Rd w b 1 I1 fl)(hm:fl.length=m)(hm2:m<=9223372036854775000) :
  Ret prog 252 #[Dx N a n c,.slice b m d] w fun v w'=>(Cf N es fl=false->v=.slice none 0 0)/\(Cf N es fl=true->∃b',v=.slice (some ⟨b',0,none⟩) N.toNat N.toNat/\w'.heap[b']?=some (Bl 2 (Ce (BP (grE N es) (flE fl)) N.toNat))/\w.heap.size<=b')/\Ext [] w w':=by
 subst hn hm;obtain⟨w0,rfl,H⟩:=qE w;refine Iv (fn:=f252) func252 U [Dx N a es.length c,.slice b fl.length d] U (Ad (Bu [.int .i64 N,.slice a es.length c] (.agg _) U U H ?_));rintro b2 w - H;refine Az U (qA (Ap (Ad (BV CG C2 U H at0 U (Ao U (Am qB (LN N a b es.length c fl.length d es fl _ (R.ext0 H.ext) U hN (Rf.ext0 H.ext) U hm2) U ?_))))));rintro v w ⟨rfl,hx10⟩;replace H:=H.call hx10;refine B1 U (qA (Av _ U ?_ ?_))
 .intro h1;replace h1:=Bv h1;refine Ad (Az U (qA (A6 (Al (MT (v:=(.slice _ _ _)) U U ?_)))));have h1':Cf N es fl=false:=by simpa using h1
  exact⟨fun _=>rfl,fun h=>(by rw[h1']at h;cases h),H.ext⟩
 .intro h1;replace h1:=Bw h1;have h1':Cf N es fl=true:=by simpa using h1
  obtain⟨hl,hr,hin⟩:=Cw h1';obtain⟨hN1,hN40,hn200,hed,-⟩:=CB hr;obtain⟨nn,rfl⟩:∃nn:Nat,N=(nn:Int):=⟨N.toNat,by omega⟩;obtain⟨g,hg⟩:=qD (grE (nn:Int) es);obtain⟨x,hx⟩:=qD (flE fl);have hgE:g.E=es.length:=by rw[hg];rfl
  refine Aq (Aa (Ad (Ah DW U (AG B6 U H at0 U (F2 AR Bt J9 Eh U U H ?_)))));rintro b14 w - H;rw[show((nn:Int)).toNat=nn from rfl,Ej]at H;refine AX Ame H ?_;rintro b5 w - H;refine Cz (.slice _ _ _) Ama U U U H at0 (by decide) ?_;rintro w H;refine qA (Ap (Ad (BV CG C2 U H at2 U (Ao U ?_))));have hlt:=H.lt (k:=0) rfl;have hlt1:=H.lt (k:=1) rfl;refine Am qB (Aex (nn:Int) a b es.length c fl.length d _) U ?_;rintro v w ⟨x2,x3,rfl,hb2,hb3,hs2,hs3,hne,hx17⟩;have H3:=(H.callAdd hx17 hb2 hs2).add hb3 (.inr (qbe H.size hs3)) (fun y hy=>(qag.1 hy).elim (fun h=>by rw[h];exact hne) fun hy=>Nat.ne_of_lt (qa3 (Bf (H.blk y hy)) hs3));refine qA (Ax ?_);obtain⟨ws,rfl⟩:=qD w;have hk3:=H3.lt (k:=0) rfl;have hk2:=H3.lt (k:=1) rfl;have hk5:=H3.lt (k:=2) rfl;have hk14:=H3.lt (k:=3) rfl
  have hkb:=H3.lt (k:=4) rfl;have hs0:=H3.size;replace H3:=H3.perm (qbu (l₁:=[_,_,_]) (l₂:=[_]))
  refine Px (gf:=284) U qB (ZZ (b2:=x2) (b3:=x3) (N:=(nn:Int)) (a:=a) (b:=b) (c:=c) (d:=d) (es:=es) (fl:=fl) U U hl.symm) (by kernel_rfl) (by kernel_rfl) (fun v hv=>by obtain⟨p,-,rfl⟩:=qah.1 hv;rfl)
   (fun i M w'=>(M=fun y=>y=b14)/\Ctx w0 [] w' [(b14,Bl 2 (Ce (Ea g x i) nn)),(x3,Bl 35 [.slice b fl.length d]),(x2,Bl 51 [.int .i64 (nn:Int),.slice a es.length c]),(b5,Bl 35 [.slice (some ⟨b14,0,none⟩) nn nn]),(b2,Bl 51 [.int .i64 (nn:Int),.slice a es.length c])]) (fun _=>False) (by simp)
   (fun w2 hx2 _=>⟨_,rfl,H3.call hx2⟩) (fun i M w' w'' hJ hx=>⟨hJ.1,hJ.2.step hx (fun y hy=>?_) fun z hz => .inr ?_⟩) (fun _ _ h _=>h) (fun i M w' hJ=>⟨fun y hy=>?_,hJ.2.get at2,hJ.2.get at1,R.ext0 hJ.2.ext,Rf.ext0 hJ.2.ext⟩) ?_ ?_ (fun _ h _=>h.elim)
  .simp only[qag,qar,or_false]at hy |-
   rcases hy with rfl|rfl|rfl|rfl|rfl <;> (dsimp only;omega)
  .simp only[qag,qar,or_false]at hz;omega
  .rw[hJ.1]at hy;subst hy;exact⟨Bf (hJ.2.get at0),by omega,by omega⟩
  .rintro i v _ w hxv ⟨rfl,HJ⟩ hsz;rw[qa1]at hxv;obtain⟨⟨e,xx⟩,hez,rfl⟩:=qdn.1 hxv;obtain⟨he,hfx⟩:=qc8.1 hez;have hi:=Cb he;obtain⟨hf0,hfN,ht0,htN,-⟩:=Em (hed e (qac he));obtain⟨fn,hfn⟩:∃fn:Nat,e.f=fn:=⟨e.f.toNat,by omega⟩;obtain⟨tn,htn⟩:∃tn:Nat,e.t=tn:=⟨e.t.toNat,by omega⟩;have hgf:g.f i=fn:=by rw[hg];show((es.getD i e0).f.toNat)=fn;rw[Br he,hfn];rfl
   have hgt:g.t i=tn:=by rw[hg];show((es.getD i e0).t.toNat)=tn;rw[Br he,htn];rfl
   have hxi:x i=xx:=by rw[hx];exact Br hfx
   have hxb:∀j,j<i+1->0<=x j/\x j<=4503599627370496:=fun j hj=>by
    obtain⟨e',he'⟩:=AB (l:=es) (i:=j);obtain⟨y,hy⟩:=AB (l:=fl) (i:=j);have h3:=hin j e' y he' hy;have h4:=Em (hed e' (qac he'));rw[hx];show 0<=fl.getD j 0/\fl.getD j 0<=4503599627370496;rw[Br hy];omega
   have hbf:=JF (g:=g) (x:=x) fn (k:=i) fun j hj=>hxb j (by omega);have hbt:=JF (g:=g) (x:=x) tn (k:=i) fun j hj=>hxb j (by omega);have hxx:=hxb i (by omega);rw[hxi]at hxx;obtain⟨o',ho'⟩:∃o',o'=upd (Ea g x i) fn (Ea g x i fn - xx):=⟨_,rfl⟩;have hof:o' fn=Ea g x i fn - xx:=by rw[ho',D0]
   have hon:∀q,q≠fn->o' q=Ea g x i q:=fun q hq=>by rw[ho',EM hq]
   have hot : -(201*4503599627370496)<=o' tn/\o' tn<=201*4503599627370496:=by
    by_cases h:tn=fn
    .rw[h,hof];omega
    .rw[hon tn h];omega
   have hst:∀q,Ea g x (i+1) q=upd o' tn (o' tn+xx) q:=fun q=>by
    rw[Gd,hgf,hgt,hxi]
    by_cases h1:q=tn
    .subst h1;rw[D0,Fj rfl]
     by_cases h2:fn=q
     .subst h2;rw[Fj rfl,hof];omega
     .rw[E4 h2,hon q (Ne.symm h2)];omega
    .rw[EM h1,E4 (Ne.symm h1)]
     by_cases h2:fn=q
     .subst h2;rw[Fj rfl,hof];omega
     .rw[E4 h2,hon q (Ne.symm h2)];omega
   obtain⟨w1,rfl,H⟩:=qE w;refine Ad (AX GY H ?_);rintro b6 w - H;refine Bi CW U U U (by exact GO _) H at0 U ?_;rintro w H;refine qA (Ay (Af U (Ab ?_)));refine⟨H.ext,fun wB hxB=>?_⟩;have hb6:=(H.own _ (qaj ..)).elim (fun h=>by cases h) id
   have HB:=((HJ.callAdd H.ext (H.get at0) hb6).step hxB (fun y hy=>by
    simp only[qag,qar,or_false]at hy |-
    rcases hy with rfl|rfl|rfl|rfl|rfl|rfl <;> (dsimp only;omega)) (fun z hz => .inr (by rw[qab.1 hz];omega))).perm (List.Perm.swap _ _ _)
   obtain⟨w2,rfl⟩:=qD wB;have hb6B:=HB.get at1;have hb5B:=HB.get at4;have hn6:b6∉[b14]:=by rw[qab];omega
   have hn5:b5∉[b14]:=by rw[qab];exact HB.ne at4 at0 (by decide)
   have H:=Ctx.lend (L1:=[_]) (L2:=_) HB;dsimp only[List.map]at H;refine Ax (Ad (Ba Cc U ((H.old (An hb5B _) hn5)) ?_));refine Ah EX U (Ba B6 U ((H.old (An hb6B _) hn6)) ?_);refine Bq AR Bt U U (Ka fn _ Bm U H at0 (by rw[hfn];simp) U ?_);refine Ae U (B3 U U ?_);refine Bq AR Bt U U (Cl fn (fun q => .int .i64 (o' q)) (.int _ _) Bt U U U H at0 (by rw[hfn];simp) (by rw[hof]) (fun q _ hq=>by rw[hon q hq]) ?_);rintro w H;refine qA (Ay (Ba Cc U ((H.old (An hb5B _) hn5)) ?_));refine Ah EY U (Ba B6 U ((H.old (An hb6B _) hn6)) ?_);refine Bq AR Bt U U (Ka tn _ Bm U H at0 (by rw[htn];simp) U ?_);refine Ae U (Aw U U ?_);refine Bq AR Bt U U ?_
   refine Cl tn (fun q => .int .i64 (Ea g x (i+1) q)) (.int _ _) Bt U U U H at0 (by rw[htn];simp) (by rw[hst,D0]) (fun q _ hq=>by rw[hst,EM hq]) ?_;rintro w H;refine Ab (A7 ?_);exact⟨_,⟨rfl,((Ctx.back (L1:=[_]) (L1':=[_]) HB H).perm (List.Perm.swap _ _ _)).tail⟩,fun y h => .inl h,[b14],H.ext,fun y hy => .inl (qab.1 hy)⟩
  .rintro M w ⟨-,HJ⟩ hD;rw[qak,qcx,hl,qd4]at HJ;replace H:=HJ;refine A7 (Aa (Ad (AG Cc U H at3 U (Az U (qA (A6 (MT (v:=(.slice _ _ _)) U U (Iw hD U fun wF hxF=>?_))))))));refine⟨fun h=>(by rw[h1']at h;cases h),fun _=>⟨b14,rfl,?_,?_⟩,H.ext.then hxF fun z hz => .inr (by rw[qab.1 hz];omega)⟩
   .rw[hxF.block b14 (Bf (H.get at0)) (by rw[qab];omega)];have h3:=H.get at0;rw[show BP (grE (nn:Int) es) (flE fl)=Ea g x es.length by rw[hg,hx];rfl];exact h3
   .exact(H.own (b14,_) (qac (i:=0) U)).elim (fun h=>by cases h) id
theorem Aey(N:Int)(a b:Option Addr)(n c m d:Nat)(es:List Ed)(fl:List Int)(w:World)(R:Rd w a 4 CJ es)(hn:es.length=n)(hN:I64 N)(Rf:Rd w b 1 I1 fl)(hm:fl.length=m)(hm2:m<=9223372036854775000) :
  Ret prog 215 #[Dx N a n c,.slice b m d] w fun v w'=>v=.bool (Fi N es fl)/\Ext [] w w':=by
 subst hn hm;obtain⟨w0,rfl,H⟩:=qE w;refine A2 (fn:=f215) func215 U [Dx N a es.length c,.slice b fl.length d] U (Ad (Bu [.int .i64 N,.slice a es.length c] (.agg _) U U H ?_));rintro b2 w - H;refine Ai U (qA (Ap (Ad (BV CG C2 U H at0 U (Ao U (Am qB (LN N a b es.length c fl.length d es fl _ (R.ext0 H.ext) U hN (Rf.ext0 H.ext) U hm2) U ?_))))));rintro v w ⟨rfl,hx9⟩;replace H:=H.call hx9;refine B1 U (qA (Av _ U ?_ ?_))
 .intro h1;replace h1:=Bv h1;refine Ad (Ai U (qA (A6 (Al (AD (v:=(.bool _)) U U U ?_)))));have h1':Cf N es fl=false:=by simpa using h1
  exact⟨qaa Value.bool (by unfold Fi;rw[h1'];rfl),H.ext⟩
 .intro h1;replace h1:=Bw h1;have h1':Cf N es fl=true:=by simpa using h1
  have hfN:Fi N es fl=(Ml N es fl).all fun x=>decide (x=0):=by unfold Fi;rw[h1'];rfl
  obtain⟨hN1,hN40,-⟩:=CB (Cw h1').2.1;obtain⟨nn,rfl⟩:∃nn:Nat,N=(nn:Int):=⟨N.toNat,by omega⟩;refine Aq (Aa (Ap (Ad (BV CG C2 U H at0 U (Ao U (Am qB (Aja (nn:Int) a b es.length c fl.length d es fl _ (R.ext0 H.ext) U hN (Rf.ext0 H.ext) U hm2) U ?_))))));rintro v w ⟨-,hv,hx13⟩;obtain⟨b13,rfl,hb13,hs13⟩:=hv h1';replace H:=H.call hx13;have R7:=CE hb13;rw[show((nn:Int)).toNat=nn from rfl]at R7 |-;refine AU AR U (Ae U (qA (Ax ?_)));have hov:Ml (nn:Int) es fl=tab (BP (grE (nn:Int) es) (flE fl)) nn:=rfl;rw[<-hov]at R7;have hlen:(Ml (nn:Int) es fl).length=nn:=by rw[hov,CY]
  obtain⟨w7,rfl⟩:=qD w;refine Bn 4161616 (α:=Nat) (fun i=>[(15,.int .i64 (i:Int))]) (fun i w'=>i<=nn/\Ext [] w7 w'/\Ctx w0 [] w' [(b2,Bl 51 [.int .i64 (nn:Int),.slice a es.length c])]/\∀(k:Nat) (x:Int),k<i->(Ml (nn:Int) es fl)[k]?=some x->decide (x=0)=true) (fun i=>nn - i) 0 U ?_ ?_ ?_
  .exact⟨rfl,trivial⟩
  .exact⟨qaf _,.refl _ _,H,fun k x h=>absurd h (qaw _)⟩
  .rintro i j w ⟨hi,hx7,H,hb⟩;refine Ad (AZ U U (qA (Ap (Av _ U ?_ ?_))))
   .intro h2;replace h2:=AJ h2;obtain⟨x,h7x⟩:=AB (l:=Ml (nn:Int) es fl) (i:=i);refine Aq (Aa (Ap (Ax (Ad (AM R7 AR Bt U U (by omega) ?_)))));refine Ba Bm U (((R7.ext0 hx7).fld h7x U (j:=0) U)) ?_;refine Af U (qA (Ad (Ae U (C0 U U (qA (Av _ U ?_ ?_))))))
    .intro h3;replace h3:=CC h3;refine Ad (Ai U (qA (A6 (A5 (Al (Al (A5 (Al (AD (v:=(.bool _)) U U U ?_)))))))));exact⟨qaa Value.bool (by rw[hfN,Dw h7x (qay (by simpa using h3))]),H.ext⟩
    .intro h3;replace h3:=CD h3;refine Aq (A7 (Aa (Ay (Aw U U ?_))));refine Ae U (qA ?_);refine⟨i+1,rfl,⟨rfl,trivial⟩,⟨by omega,hx7,H,fun k y hk hy=>?_⟩,by omega⟩
     rcases qap k i with h7|h7
     .exact hb k y h7 hy
     .obtain rfl:k=i:=by omega
      rw[h7x]at hy;cases hy
      simpa using h3
   .intro h2;replace h2:=AK h2;refine Be (Aj (Aj (AH (Aa (Ad (Ai U (qA (A6 (AD (v:=(.bool _)) U U U ?_)))))))));exact⟨qaa Value.bool (by rw[hfN,Eb fun k x hk hx=>hb k x (by omega) hx]),H.ext⟩
theorem ER{N:Int}{es:List Ed}{fl:List Int}(h:Fi N es fl=true):Cf N es fl=true/\∀v,v<N.toNat->BP (grE N es) (flE fl) v=0:=by
 unfold Fi Ml at h;rw[qae]at h;refine⟨h.1,fun v hv=>?_⟩;have h2:=qas.1 h.2 _ (qac (Cd hv))
 simpa using h2
def LZ(x:Int):Bool:=decide (-1099511627776<=x) && decide (x<=1099511627776)
def FQ(N:Int)(pot:List Int):Bool:=pot.all LZ && decide ((pot.length:Int)=N)
def Vw(N:Int)(es:List Ed)(pot:List Int)(k:Int):Int:=(GD N es k).2.2+pot.getD (GD N es k).1.toNat 0 - pot.getD (GD N es k).2.1.toNat 0
def Gz(N:Int)(es:List Ed)(fl pot:List Int)(k:Nat):Bool := !(decide (Vw N es pot (k:Int)<0) && decide (0<Mk N es fl (k:Int)))
def Ic(N:Int)(es:List Ed)(fl pot:List Int):Bool:=(List.range (2*es.length)).all (Gz N es fl pot)
def Fk(N:Int)(es:List Ed)(fl pot:List Int):Bool:=Cv N es && (Fi N es fl && (FQ N pot && Ic N es fl pot))
theorem Ajb(N:Int)(a p:Option Addr)(n c m d:Nat)(pot:List Int)(w:World)(R:Rd w p 1 I1 pot)(hm:pot.length=m)(hm2:m<=9223372036854775000) :
  Ret prog 217 #[Dx N a n c,.slice p m d] w fun v w'=>v=.bool (FQ N pot)/\Ext [] w w':=by
 subst hm;obtain⟨w0,rfl,H⟩:=qE w;refine A2 (fn:=f217) func217 U [Dx N a n c,.slice p pot.length d] U (Ad (Bu [.int .i64 N,.slice a n c] (.agg _) U U H ?_));rintro b2 w - H;refine Ai U (qA (Ap (Ad (Ao U (AU AR U (Ae U (qA (Ax (Bn 1048144 (α:=Nat) (fun i=>[(9,.int .i64 (i:Int))]) (fun i w'=>i<=pot.length/\Ctx w0 [] w' [(b2,Bl 51 [.int .i64 N,.slice a n c])]/\∀(k:Nat) (x:Int),k<i->pot[k]?=some x->LZ x=true) (fun i=>pot.length - i) 0 U ?_ ?_ ?_)))))))))
 .exact⟨rfl,trivial⟩
 .exact⟨qaf _,H,fun k x h=>absurd h (qaw _)⟩
 .rintro i j w ⟨hi,H,hb⟩;refine Ad (AZ U U (qA (Ap (Av _ U ?_ ?_))))
  .intro h2;replace h2:=AJ h2;obtain⟨x,h7x⟩:=AB (l:=pot) (i:=i);refine Aq (Aa (Ap (Ax (Ad (AM R AR Bt U U (by rfl) ?_)))));refine Ba Bm U (((R.ext0 H.ext).fld h7x U (j:=0) U)) ?_;refine Af U (qA (Ad (B9 (α:=Unit) 516096 (fun _=>[(18,.bool (!LZ x))]) (fun _ w'=>Ctx w0 [] w' [(b2,Bl 51 [.int .i64 N,.slice a n c])]) U ?_ ?_)))
   .refine Ae U (AZ U U (Au U (AE 15 U ?_ ?_)))
    .intro h1;replace h1:=AJ h1;refine Ag U (Ag U (A8 U (.bool _) U (Ab ?_)));exact⟨rfl,(),rfl,⟨qaa Value.bool (by unfold LZ;rw[qad];simp_all;try omega),trivial⟩,H⟩
    .intro h2;replace h2:=AK h2;refine Ae U (Cp U U (AA U (.bool _) U (Ab ?_)));exact⟨rfl,(),rfl,⟨qaa Value.bool (by unfold LZ;rw[qad];simp_all;try omega),trivial⟩,H⟩
   rintro - j18 w H;refine Av _ U ?_ ?_
   .intro h3;replace h3:=Bv h3;refine Ad (Ai U (qA (A6 (A5 (Al (Al (A5 (Al (AD (v:=(.bool _)) U U U ?_)))))))));exact⟨qaa Value.bool (by unfold FQ;rw[Dw h7x (by simpa using h3)];rfl),H.ext⟩
   .intro h3;replace h3:=Bw h3;refine Aq (A7 (Aa (Ay (Aw U U ?_))));refine Ae U (qA ?_);refine⟨i+1,rfl,⟨rfl,trivial⟩,⟨by omega,H,fun k y hk hy=>?_⟩,by omega⟩
    rcases qap k i with h7|h7
    .exact hb k y h7 hy
    .obtain rfl:k=i:=by omega
     rw[h7x]at hy;cases hy
     simpa using h3
  .intro h2;replace h2:=AK h2;refine Be (Aj (Aj (AH (Aa (Ad (Ao U (AU AR U (Ah DW U (AG B6 U H at0 U (Cj U U (Ai U (qA (A6 (AD (v:=(.bool _)) U U U ?_))))))))))))));exact⟨qaa Value.bool (by unfold FQ;rw[Eb fun k x hk hx=>hb k x (by omega) hx,qb9]),H.ext⟩
theorem P6{N:Int}{es:List Ed}(hr:Cv N es=true){k:Nat}(hk:k<2*es.length):∃e,es[k / 2]?=some e/\GD N es (k:Int)=Gt e k/\0<=(Gt e k).1/\(Gt e k).1<N/\0<=(Gt e k).2.1/\(Gt e k).2.1<N /\ -1000<=(Gt e k).2.2/\(Gt e k).2.2<=1000:=by
 obtain⟨e,he⟩:=AB (l:=es) (i:=k / 2);have hco:=Em ((CB hr).2.2.2.1 e (qac he));refine⟨e,he,?_,?_⟩
 .unfold GD;rw[if_pos (by rw[hr,qdo];unfold JG;simp;omega),qa7,Br he]
 .unfold Gt
  split <;> (dsimp only;omega)
theorem Lo{N:Int}{pot:List Int}(hp:FQ N pot=true):(pot.length:Int)=N/\∀(i:Nat) (x:Int),pot[i]?=some x -> -1099511627776<=x/\x<=1099511627776:=by
 unfold FQ LZ at hp;simp only[qae,qam,qas]at hp;exact⟨hp.2,fun i x hx=>hp.1 x (qac hx)⟩
theorem P7{N:Int}{es:List Ed}{fl:List Int}(hw:Cf N es fl=true){k:Nat}(hk:k<2*es.length):∃e x,es[k / 2]?=some e/\fl[k / 2]?=some x/\Mk N es fl (k:Int)=Ln e x k/\0<=x/\x<=e.cap/\e.cap<=4503599627370496:=by
 obtain⟨hl,hri,hin⟩:=Cw hw;obtain⟨e,he⟩:=AB (l:=es) (i:=k / 2);obtain⟨x,hx⟩:=AB (l:=fl) (i:=k / 2);have hco:=Em ((CB hri).2.2.2.1 e (qac he));have:=hin _ e x he hx;refine⟨e,x,he,hx,?_,this.1,this.2,by omega⟩;unfold Mk;rw[if_pos (by rw[hw,qdo];unfold JG;simp;omega),qa7,Br he,Br hx]
abbrev Q8(b p:Option Addr)(m d q r:Nat):Value := .agg #[.slice b m d,.slice p q r]
theorem Aez(N:Int)(a b p:Option Addr)(n c m d q r:Nat)(es:List Ed)(fl pot:List Int)(w:World)(R:Rd w a 4 CJ es)(hn:es.length=n)(hN:I64 N)(Rf:Rd w b 1 I1 fl)(hm:fl.length=m)(Rp:Rd w p 1 I1 pot)(hq:pot.length=q)(hr:Cv N es=true)(hw:Cf N es fl=true)(hp:FQ N pot=true) :
  Ret prog 219 #[Dx N a n c,Q8 b p m d q r] w fun v w'=>v=.bool (Ic N es fl pot)/\Ext [] w w':=by
 subst hn hm hq;obtain⟨w0,rfl,H⟩:=qE w;obtain⟨hN1,hN40,hn200,-⟩:=CB hr;obtain⟨hpl,hpb⟩:=Lo hp;have hfl:=(Cw hw).1;refine A2 (fn:=f219) func219 U [Dx N a es.length c,Q8 b p fl.length d pot.length r] U (Ad (Bu [.int .i64 N,.slice a es.length c] (.agg _) U U H ?_));rintro b2 w - H;refine Bu [.slice b fl.length d,.slice p pot.length r] (.agg _) U U H ?_;rintro b3 w - H;refine Ai U (qA (Ap (Ad (Ah C8 U (AG DO U H at1 U (AU CU U (D8 U U ?_)))))));refine Ae U (qA (Ax (Bn 70368744169968 (α:=Nat) (fun i=>[(13,.int .i64 (i:Int))]) (fun i w'=>i<=2*es.length/\Ctx w0 [] w' [(b3,Bl 53 [.slice b fl.length d,.slice p pot.length r]),(b2,Bl 51 [.int .i64 N,.slice a es.length c])]/\∀k,k<i->Gz N es fl pot k=true) (fun i=>2*es.length - i) 0 U ?_ ?_ ?_)))
 .exact⟨rfl,trivial⟩
 .exact⟨qaf _,H,fun k h=>absurd h (qaw _)⟩
 .rintro i j w ⟨hi,H,hb⟩;refine Ad (AZ U U (qA (Ap (Av _ U ?_ ?_))))
  .intro h2;replace h2:=AJ h2;have hi2:i<2*es.length:=by omega
   obtain⟨e,he,hE,q1,q2,q3,q4,q5,q6⟩:=P6 hr hi2;obtain⟨e',x,he',hx,hro,r1,r2,r3⟩:=P7 hw hi2;obtain⟨un,hun⟩:∃un:Nat,(Gt e i).1=un:=⟨(Gt e i).1.toNat,by omega⟩;obtain⟨vn,hvn⟩:∃vn:Nat,(Gt e i).2.1=vn:=⟨(Gt e i).2.1.toNat,by omega⟩;obtain⟨pu,hpu⟩:=AB (l:=pot) (i:=un);obtain⟨pv,hpv⟩:=AB (l:=pot) (i:=vn);have hbu:=hpb _ _ hpu;have hbv:=hpb _ _ hpv
   have hli:Vw N es pot (i:Int)=(Gt e i).2.2+pu - pv:=by
    unfold Vw;rw[hE,hun,hvn,qa7,qa7,Br hpu,Br hpv]
   have hgo:Gz N es fl pot i=true->∀k,k<i+1->Gz N es fl pot k=true:=fun h3 k hk=>by
    rcases qap k i with h7|h7
    .exact hb k h7
    .obtain rfl:k=i:=by omega
     exact h3
   refine Aq (Aa (Ap (Ax (Ad (Ae U (Af U (qA (Ad (BV CG C2 U H at1 U (Ae U ?_))))))))));refine Am qB (Uu N a es.length c es _ (R.ext0 H.ext) U hN (i:Int)) U ?_;rintro v w ⟨rfl,hx19⟩;replace H:=H.call hx19;rw[hE,hun,hvn];refine BN U (AF U U (AF U U (AF U U (Af U (Af U (Af U (qA (EB 19 Bs U U ?_))))))));refine AY U (A3 Kh U (BS Cc U (by rintro _ rfl;exact H.drew) at0 U ?_));refine AY U (Bo Rp AR Bt U U (by rfl) ?_);refine BF Bm U (by rintro _ rfl;exact(((Rp.ext0 (H.ext.trans (Ext.drew [] _))).fld hpu rfl (j:=0) rfl))) ?_;refine CX U U (A3 Kh U (BS Cc U (by rintro _ rfl;exact H.drew) at0 U ?_));refine AY U (Bo Rp AR Bt U U (by rfl) ?_)
   refine BF Bm U (by rintro _ rfl;exact(((Rp.ext0 (H.ext.trans (Ext.drew [] _))).fld hpv rfl (j:=0) rfl))) ?_;refine Dp U U (K8 U U (Co U (DE 37 U ?_ ?_)))
   .intro h3;replace h3:=AJ h3;refine PW U CG C2 U (by rintro _ rfl;exact H.drew) at1 U ?_;refine A3 Ho U (BS Cc U (by rintro _ rfl;exact H.drew) at0 U ?_);refine AY U (BM ?_);replace H:=H.drew;refine Am qB (Uv N a b es.length c fl.length d es fl _ (R.ext0 H.ext) U hN (Rf.ext0 H.ext) U (i:Int)) U ?_;rintro v w ⟨rfl,hx42⟩;replace H:=H.call hx42;refine Cp U U (A8 U (.bool _) U (qA (Av _ U ?_ ?_)))
    .intro h4;replace h4:=AJ h4;refine Ad (Ai U (qA (A6 (A5 (Al (Al (A5 (Al (AD (v:=(.bool _)) U U U ?_)))))))));exact⟨qaa Value.bool (by unfold Ic;rw[Dw (qet hi2) (by unfold Gz;rw[hli,qal h3,qal h4];rfl)]),H.ext⟩
    .intro h4;replace h4:=AK h4;refine Aq (A7 (Aa (Ay (Aw U U ?_))));refine Ae U (qA ?_);exact⟨i+1,rfl,⟨rfl,trivial⟩,⟨by omega,H,hgo (by unfold Gz;rw[hli,qay h4,qcn];rfl)⟩,by omega⟩
   .intro h3;replace h3:=AK h3;refine A4 U (A4 U (A4 U (A4 U (BM ?_))));replace H:=H.drew;refine Ag U (Ag U (AA U (.bool _) U (qA (D5 U (Aq (A7 (Aa (Ay (Aw U U ?_)))))))));refine Ae U (qA ?_);exact⟨i+1,rfl,⟨rfl,trivial⟩,⟨by omega,H,hgo (by unfold Gz;rw[hli,qay h3,qd5];rfl)⟩,by omega⟩
  .intro h2;replace h2:=AK h2;refine Be (Aj (Aj (AH (Aa (Ad (Ai U (qA (A6 (AD (v:=(.bool _)) U U U ?_)))))))));exact⟨qaa Value.bool (by unfold Ic;rw[qas.2 fun k hk=>hb k (by have:=qaz.1 hk;omega)]),H.ext⟩
theorem JH{w:World}{b:Nat}{t:TypeId}{l:List Value}(h:w.heap[b]?=some (Bl t l)):∀j v,l[j]?=some v->w.cell? ⟨b,0+j,none⟩=some v:=fun j v hv=>by
 rw[An h,qa2];exact hv
structure ChkK(b2 b3:Nat)(N:Int)(a b p:Option Addr)(c d r:Nat)(es:List Ed)(fl pot:List Int)(w:World):Prop where
 h2:w.heap[b2]?=some (Bl 51 [.int .i64 N,.slice a es.length c])
 h3:w.heap[b3]?=some (Bl 53 [.slice b fl.length d,.slice p pot.length r])
 R:Rd w a 4 CJ es
 Rf:Rd w b 1 I1 fl
 Rp:Rd w p 1 I1 pot
theorem ChkK.ext{b2 b3:Nat}{N:Int}{a b p:Option Addr}{c d r:Nat}{es:List Ed}{fl pot:List Int}{w w':World}(K:ChkK b2 b3 N a b p c d r es fl pot w)(h:Ext [] w w'):ChkK b2 b3 N a b p c d r es fl pot w' :=
 ⟨h.to K.h2 (by simp),h.to K.h3 (by simp),K.R.ext0 h,K.Rf.ext0 h,K.Rp.ext0 h⟩
section
variable {b2 b3:Nat}{N:Int}{a b p:Option Addr}{c d r:Nat}{es:List Ed}{fl pot:List Int}{w:World}
theorem Ajc(K:ChkK b2 b3 N a b p c d r es fl pot w)(hN:I64 N):Ret prog 213 #[ptr b2] w fun v w'=>v=.bool (Cv N es)/\Ext [] w w':=by
 obtain⟨w0,rfl,H⟩:=qE w;refine A2 (fn:=f213) func213 U [.pointer (some ⟨b2,0,none⟩)] U ?_;refine Ad (Ai U (qA (Ad (Ca _ CG C2 U U (JH K.h2) ?_))));refine Am qB (Nj N a es.length c es _ K.R U hN) U ?_;rintro v w ⟨rfl,hx3⟩;replace H:=H.call hx3;refine Ai U (qA (A6 (AD (v:=(.bool _)) U U U ?_)));exact⟨rfl,H.ext⟩
theorem Ajd(K:ChkK b2 b3 N a b p c d r es fl pot w)(hN:I64 N)(hf:fl.length<=9223372036854775000):Ret prog 214 #[ptr b2,ptr b3] w fun v w'=>v=.bool (Fi N es fl)/\Ext [] w w':=by
 obtain⟨w0,rfl,H⟩:=qE w;refine A2 (fn:=f214) func214 U [.pointer (some ⟨b2,0,none⟩),.pointer (some ⟨b3,0,none⟩)] U ?_;refine Ad (Ai U (qA (Ad (Ca _ CG C2 U U (JH K.h2) ?_))));refine Ah Ho U (Ba Cc U ((by rw[An K.h3];rfl)) ?_);refine Am qB (Aey N a b es.length c fl.length d es fl _ K.R U hN K.Rf U hf) U ?_;rintro v w ⟨rfl,hx3⟩;replace H:=H.call hx3;refine Ai U (qA (A6 (AD (v:=(.bool _)) U U U ?_)));exact⟨rfl,H.ext⟩
theorem Aje(K:ChkK b2 b3 N a b p c d r es fl pot w)(hq:pot.length<=9223372036854775000):Ret prog 216 #[ptr b2,ptr b3] w fun v w'=>v=.bool (FQ N pot)/\Ext [] w w':=by
 obtain⟨w0,rfl,H⟩:=qE w;refine A2 (fn:=f216) func216 U [.pointer (some ⟨b2,0,none⟩),.pointer (some ⟨b3,0,none⟩)] U ?_;refine Ad (Ai U (qA (Ad (Ca _ CG C2 U U (JH K.h2) ?_))));refine Ah Kh U (Ba Cc U ((by rw[An K.h3];rfl)) ?_);refine Am qB (Ajb N a p es.length c pot.length r pot _ K.Rp U hq) U ?_;rintro v w ⟨rfl,hx3⟩;replace H:=H.call hx3;refine Ai U (qA (A6 (AD (v:=(.bool _)) U U U ?_)));exact⟨rfl,H.ext⟩
theorem Ajf(K:ChkK b2 b3 N a b p c d r es fl pot w)(hN:I64 N)(hr:Cv N es=true)(hw:Cf N es fl=true)(hp:FQ N pot=true):Ret prog 218 #[ptr b2,ptr b3] w fun v w'=>v=.bool (Ic N es fl pot)/\Ext [] w w':=by
 obtain⟨w0,rfl,H⟩:=qE w;refine A2 (fn:=f218) func218 U [.pointer (some ⟨b2,0,none⟩),.pointer (some ⟨b3,0,none⟩)] U ?_;refine Ad (Ai U (qA (Ad (Ca _ CG C2 U U (JH K.h2) ?_))));refine Ca _ SV Nd U U (JH K.h3) (Am qB (Aez N a b p es.length c fl.length d pot.length r es fl pot _ K.R U hN K.Rf U K.Rp U hr hw hp) U ?_);rintro v w ⟨rfl,hx3⟩;replace H:=H.call hx3;refine Ai U (qA (A6 (AD (v:=(.bool _)) U U U ?_)));exact⟨rfl,H.ext⟩
end
def askN(N:Int)(es:List Ed)(fl pot:List Int):Nat->Bool
 |0=>Cv N es
 |1=>Fi N es fl
 |2=>FQ N pot
 |_=>Ic N es fl pot
theorem Ajg{N:Int}{es:List Ed}{fl pot:List Int}(h:∀k,k<4->askN N es fl pot k=true):Fk N es fl pot=true:=by
 have h0:=h 0 (by omega);have h1:=h 1 (by omega);have h2:=h 2 (by omega);have h3:=h 3 (by omega);unfold Fk;rw[show Cv N es=true from h0,show Fi N es fl=true from h1,show FQ N pot=true from h2,show Ic N es fl pot=true from h3];rfl
theorem Ajh{N:Int}{es:List Ed}{fl pot:List Int}{k:Nat}(h:askN N es fl pot k=false)(hk:k<4:=by omega):Fk N es fl pot=false:=by
 have:k=0\/k=1\/k=2\/k=3:=by omega
 unfold Fk
 rcases this with rfl|rfl|rfl|rfl
 .rw[show Cv N es=false from h];simp
 .rw[show Fi N es fl=false from h];simp
 .rw[show FQ N pot=false from h];simp
 .rw[show Ic N es fl pot=false from h];simp
theorem Vx(N:Int)(a b p:Option Addr)(n c m d q r:Nat)(es:List Ed)(fl pot:List Int)(w:World)(R:Rd w a 4 CJ es)(hn:es.length=n)(hN:I64 N)(Rf:Rd w b 1 I1 fl)(hm:fl.length=m)(hm2:m<=9223372036854775000)(Rp:Rd w p 1 I1 pot)(hq:pot.length=q)(hq2:q<=9223372036854775000) :
  Ret prog 182 #[Dx N a n c,Q8 b p m d q r] w fun v w'=>v=.bool (Fk N es fl pot)/\Ext [] w w':=by
 subst hn hm hq;obtain⟨w0,rfl,H⟩:=qE w;refine A2 (fn:=f182) func182 U [Dx N a es.length c,Q8 b p fl.length d pot.length r] U (Ad (Bu [.int .i64 N,.slice a es.length c] (.agg _) U U H ?_));rintro b2 w - H;refine Bu [.slice b fl.length d,.slice p pot.length r] (.agg _) U U H ?_;rintro b3 w - H;refine Ai U (qA (Ap (Ad (Cm [.pointer _] U (Cm [.pointer _,.pointer _] U (Cm [.pointer _,.pointer _] U (Cm [.pointer _,.pointer _] U (Dq [.func (.func 213) #[] #[ptr b2],.func (.func 214) #[] #[ptr b2,ptr b3],.func (.func 216) #[] #[ptr b2,ptr b3],.func (.func 218) #[] #[ptr b2,ptr b3]] Xr Al9 zc_23 H ?_))))))));rintro b11 w - H
 refine AU Xr U (Ae U (qA (Ax (Bn 2089040 (α:=Nat) (fun i=>[(13,.int .i64 (i:Int))]) (fun i w'=>i<=4/\Ctx w0 [] w' [(b11,Bl 23 [.func (.func 213) #[] #[ptr b2],.func (.func 214) #[] #[ptr b2,ptr b3],.func (.func 216) #[] #[ptr b2,ptr b3],.func (.func 218) #[] #[ptr b2,ptr b3]]),(b3,Bl 53 [.slice b fl.length d,.slice p pot.length r]),(b2,Bl 51 [.int .i64 N,.slice a es.length c])]/\∀k,k<i->askN N es fl pot k=true) (fun i=>4 - i) 0 U ?_ ?_ ?_))))
 .exact⟨rfl,trivial⟩
 .exact⟨qaf _,H,fun k h=>absurd h (qaw _)⟩
 .rintro i j w ⟨hi,H,hb⟩;refine Ad (AZ U U (qA (Ap (Av _ U ?_ ?_))))
  .intro h2;replace h2:=AJ h2;have KK:ChkK b2 b3 N a b p c d r es fl pot w:=⟨H.get at2,H.get at1,R.ext0 H.ext,Rf.ext0 H.ext,Rp.ext0 H.ext⟩
   obtain⟨f,ca,hfi,hcf,hret⟩:∃f ca,[Value.func (.func 213) #[] #[ptr b2],.func (.func 214) #[] #[ptr b2,ptr b3],.func (.func 216) #[] #[ptr b2,ptr b3],.func (.func 218) #[] #[ptr b2,ptr b3]][i]?=some (.func (.func f) #[] ca)/\A0 prog f=true/\Ret prog f ca w (fun v w'=>v=.bool (askN N es fl pot i)/\Ext [] w w'):=by
    have:i=0\/i=1\/i=2\/i=3:=by omega
    rcases this with rfl|rfl|rfl|rfl
    .exact⟨_,_,rfl,qB,Ajc KK hN⟩
    .exact⟨_,_,rfl,qB,Ajd KK hN hm2⟩
    .exact⟨_,_,rfl,qB,Aje KK hq2⟩
    .exact⟨_,_,rfl,qB,Ajf KK hN (hb 0 (by omega)) (ER (hb 1 (by omega))).1 (hb 2 (by omega))⟩
   refine Aq (Aa (Ap (Ax (Ad (Bq Xr Al9 U U ?_)))));refine Ba Alo U ((by rw[An (H.get at0)];simpa using hfi)) ?_;refine Dg U (.func _ _ _) U (qA (Ad (De U (.func _ _ _) U ?_)));refine EC (l:=ca.toList) U hcf (by simpa using hret) (by simp) ?_;rintro v w ⟨rfl,hx18⟩;replace H:=H.call hx18;refine B1 U (qA (Av _ U ?_ ?_))
   .intro h3;replace h3:=Bv h3;refine Ad (Ai U (qA (A6 (A5 (Al (Al (A5 (Al (AD (v:=(.bool _)) U U U ?_)))))))));exact⟨qaa Value.bool (by rw[Ajh (k:=i) (by simpa using h3)]),H.ext⟩
   .intro h3;replace h3:=Bw h3;refine Aq (A7 (Aa (Ay (Aw U U ?_))));refine Ae U (qA ?_);refine⟨i+1,rfl,⟨rfl,trivial⟩,⟨by omega,H,fun k hk=>?_⟩,by omega⟩
    rcases qap k i with h7|h7
    .exact hb k h7
    .obtain rfl:k=i:=by omega
     simpa using h3
  .intro h2;replace h2:=AK h2;refine Be (Aj (Aj (AH (Aa (Ad (Ai U (qA (A6 (AD (v:=(.bool _)) U U U ?_)))))))));exact⟨qaa Value.bool (by rw[Ajg fun k hk=>hb k (by omega)]),H.ext⟩
abbrev Tg:=Int × Nat
def lt7(x y:Tg):Prop:=x.1<y.1\/(x.1=y.1/\x.2<y.2)
instance (x y:Tg):Decidable (lt7 x y):=by unfold lt7;infer_instance
def le7(x y:Tg):Prop:=x.1<y.1\/(x.1=y.1/\x.2<=y.2)
theorem le7.trans{x y z:Tg}(h:le7 x y)(k:le7 y z):le7 x z:=by unfold le7 at *;omega
theorem lt7.le{x y:Tg}(h:lt7 x y):le7 x y:=by unfold lt7 at h;unfold le7;omega
theorem Xx{x y:Tg}(h:¬lt7 y x):le7 x y:=by unfold lt7 at h;unfold le7;omega
def HeapL(L:List Tg):Prop:=∀i x y,0<i->L[i]?=some x->L[(i - 1) / 2]?=some y->le7 y x
def UpI(L:List Tg)(k:Nat):Prop :=
 (∀i x y,0<i->i≠k->L[i]?=some x->L[(i - 1) / 2]?=some y->le7 y x)/\∀c x y,0<k->0<c->(c - 1) / 2=k->L[c]?=some x->L[(k - 1) / 2]?=some y->le7 y x
def DownI(L:List Tg)(k:Nat):Prop :=
 (∀i x y,0<i->(i - 1) / 2≠k->L[i]?=some x->L[(i - 1) / 2]?=some y->le7 y x)/\∀c x y,0<k->0<c->(c - 1) / 2=k->L[c]?=some x->L[(k - 1) / 2]?=some y->le7 y x
theorem HV{L:List Tg}{k o:Nat}{x y:Tg}(hx:L[k]?=some x)(hy:L[o]?=some y)(i:Nat):((L.set k y).set o x)[i]?=if i=o then some x else if i=k then some y else L[i]? := by
 have h1:k<L.length:=(qbh.1 hx).1;have h2:o<L.length:=(qbh.1 hy).1
 by_cases e:i=o
 .subst e;rw[if_pos rfl,qc1 (by rw[qb4];exact h2)]
 .rw[if_neg e,qbo (Ne.symm e)]
  by_cases e2:i=k
  .subst e2;rw[if_pos rfl,qc1 h1]
  .rw[if_neg e2,qbo (Ne.symm e2)]
theorem UpI.done{L:List Tg}{k:Nat}(h:UpI L k)(h0:∀x y,0<k->L[k]?=some x->L[(k - 1) / 2]?=some y->le7 y x):HeapL L:=fun i x y hi hx hy=>by
 by_cases e:i=k
 .subst e;exact h0 x y hi hx hy
 .exact h.1 i x y hi e hx hy
theorem UpI.step{L:List Tg}{k:Nat}(h:UpI L k){x y:Tg}(hk:0<k)(hx:L[k]?=some x)(hy:L[(k - 1) / 2]?=some y)(hlt:lt7 x y):UpI ((L.set k y).set ((k - 1) / 2) x) ((k - 1) / 2):=by
 obtain⟨o,ho⟩:=qD ((k - 1) / 2);rw[<-ho]at hy |-;have hko:k≠o:=by omega
 refine⟨fun i a b hi hio ha hb=>?_,fun c a b h0 hc hco ha hb=>?_⟩
 .rw[HV hx hy,if_neg hio]at ha;rw[HV hx hy]at hb
  by_cases e:i=k
  .subst e;rw[if_pos rfl]at ha;rw[if_pos ho.symm]at hb;cases ha;cases hb;exact hlt.le
  .rw[if_neg e]at ha
   by_cases p1:(i - 1) / 2=o
   .rw[if_pos p1]at hb;cases hb;exact hlt.le.trans (h.1 i a y hi e ha (by rw[p1];exact hy))
   .rw[if_neg p1]at hb
    by_cases p2:(i - 1) / 2=k
    .rw[if_pos p2]at hb;cases hb;exact h.2 i a _ hk hi p2 ha (by rw[<-ho];exact hy)
    .rw[if_neg p2]at hb;exact h.1 i a b hi e ha hb
 .rw[HV hx hy,if_neg (by omega:c≠o)]at ha;rw[HV hx hy,if_neg (by omega:(o - 1) / 2≠o),if_neg (by omega:(o - 1) / 2≠k)]at hb;have hz:=h.1 o y b h0 (Ne.symm hko) hy hb
  by_cases e:c=k
  .rw[if_pos e]at ha;cases ha;exact hz
  .rw[if_neg e]at ha;exact hz.trans (h.1 c a y hc e ha (by rw[hco];exact hy))
theorem DownI.none{L:List Tg}{k:Nat}(h:DownI L k)(hn:L.length<=2*k+1):HeapL L:=fun i x y hi hx hy=>by
 have hil:i<L.length:=(qbh.1 hx).1;exact h.1 i x y hi (by omega) hx hy
def Xy(L:List Tg)(k o:Nat)(y:Tg):Prop:=(o=2*k+1\/o=2*k+2)/\L[o]?=some y/\∀i z,(i - 1) / 2=k->0<i->L[i]?=some z->le7 y z
theorem DownI.done{L:List Tg}{k o:Nat}{x y:Tg}(h:DownI L k)(hx:L[k]?=some x)(hl:Xy L k o y)(hn:¬lt7 y x):HeapL L:=fun i a b hi ha hb=>by
 by_cases e:(i - 1) / 2=k
 .rw[e,hx]at hb;cases hb;exact(Xx hn).trans (hl.2.2 i a e hi ha)
 .exact h.1 i a b hi e ha hb
theorem DownI.step{L:List Tg}{k o:Nat}{x y:Tg}(h:DownI L k)(hx:L[k]?=some x)(hl:Xy L k o y)(hlt:lt7 y x):DownI ((L.set k y).set o x) o:=by
 obtain⟨ho,hy,hmin⟩:=hl;have hko:k≠o:=by omega
 have hpo:(o - 1) / 2=k:=by omega
 refine⟨fun i a b hi hio ha hb=>?_,fun c a b h0 hc hco ha hb=>?_⟩
 .rw[HV hx hy,if_neg hio]at hb;rw[HV hx hy]at ha
  by_cases p:(i - 1) / 2=k
  .rw[if_pos p]at hb;cases hb
   by_cases e:i=o
   .rw[if_pos e]at ha;cases ha;exact hlt.le
   .rw[if_neg e,if_neg (by omega:i≠k)]at ha;exact hmin i a p hi ha
  .rw[if_neg p]at hb;rw[if_neg (by omega:i≠o)]at ha
   by_cases e:i=k
   .rw[if_pos e]at ha;cases ha;subst e;exact h.2 o _ b hi (by omega) hpo hy hb
   .rw[if_neg e]at ha;exact h.1 i a b hi p ha hb
 .rw[HV hx hy,if_neg (by omega:c≠o),if_neg (by omega:c≠k)]at ha;rw[HV hx hy,hpo,if_neg hko,if_pos rfl]at hb;cases hb;exact h.1 c a _ hc (by omega) ha (by rw[hco];exact hy)
theorem HeapL.root{L:List Tg}(h:HeapL L){r:Tg}(hr:L[0]?=some r):∀(i:Nat) (x:Tg),L[i]?=some x->le7 r x:=fun i=>by
 induction i using Nat.strongRecOn with
 |_ i ih =>
  intro x hx
  by_cases e:i=0
  .subst e;rw[hr]at hx;cases hx;exact .inr ⟨rfl,qan _⟩
  .have hil:i<L.length:=(qbh.1 hx).1;obtain⟨y,hy⟩:∃y,L[(i - 1) / 2]?=some y:=⟨_,qbq (by omega)⟩;exact(ih _ (by omega) y hy).trans (h i x y (by omega) hx hy)
theorem HeapL.snoc{L:List Tg}(h:HeapL L)(z:Tg):UpI (L++[z]) L.length:=by
 have hg:∀(i:Nat) (x:Tg),i≠L.length->(L++[z])[i]?=some x->L[i]?=some x:=fun i x hi hx=>by
  have hil:i<(L++[z]).length:=(qbh.1 hx).1;rw[qat,qbx]at hil
  rwa [qb7 (by omega)]at hx
 refine⟨fun i x y hi hn hx hy=>?_,fun c x y h0 hc hco hx hy=>?_⟩
 .have h1:=hg i x hn hx;have hil:i<L.length:=(qbh.1 h1).1;exact h i x y hi h1 (hg _ y (by omega) hy)
 .have hil:c<(L++[z]).length:=(qbh.1 hx).1;rw[qat,qbx]at hil;omega
theorem HeapL.cut{x z:Tg}{L:List Tg}(h:HeapL (x::L)):DownI (((x::L).set 0 z).take L.length) 0:=by
 have hg:∀(i:Nat) (a:Tg),0<i->(((x::L).set 0 z).take L.length)[i]?=some a->(x::L)[i]?=some a:=fun i a hi ha=>by
  rw[qb0]at ha
  split at ha
  .rwa [qbo (by omega)]at ha
  .cases ha
 exact⟨fun i a b hi hn ha hb=>h i a b hi (hg i a hi ha) (hg _ b (by omega) hb),fun c a b h0=>absurd h0 (qei 0)⟩
theorem FE{α:Type}{enc:α->List Value}{s:Nat}:∀{L:List α},(∀x∈L,(enc x).length=s)->(L.flatMap enc).length=L.length*s
 | [],_=>by simp
 |x::L,h=>by
  rw[qcc,qat,h x (qaj ..),FE fun y hy=>h y (qai _ hy),qa6,qcj,Nat.one_mul,qdu]
theorem Ta{α:Type}{L:List α}{i:Nat}{x:α}(hx:L[i]?=some x)(y:α):L=L.take i++x::L.drop (i+1)/\L.set i y=L.take i++y::L.drop (i+1):=by
 have hi:=Cb hx;have hg:L[i]=x:=by rw[qbq hi]at hx;exact qaq hx
 refine⟨?_,?_⟩
 .rw[<-hg,<-qdi hi,qbn]
 .rw[List.set_eq_take_append_cons_drop,if_pos hi]
theorem Ae0{α:Type}{enc:α->List Value}{s:Nat}{L:List α}(hs:∀x∈L,(enc x).length=s){i:Nat}{x y:α}(hx:L[i]?=some x)(hy:(enc y).length=s)(r:List Value):over (L.flatMap enc++r) (i*s) (enc y)=(L.set i y).flatMap enc++r:=by
 obtain⟨h1,h2⟩:=Ta hx y;have hi:=Cb hx;have hl:((L.take i).flatMap enc).length=i*s:=by rw[FE fun z hz=>hs z (qdh hz),qbm,qce (by omega)]
 rw[h2]
 conv=>lhs;rw[h1]
 rw[qb1,qb1,qcc,qcc,qa9,qa9,<-hl,Acp _ _ _ _ (by rw[hs x (qac hx),hy])];simp only[qa9]
theorem Aji{α:Type}{enc:α->List Value}{s:Nat}{L:List α}(hs:∀x∈L,(enc x).length=s){i j:Nat}{x y:α}{v:Value}(hx:L[i]?=some x)(hj:j<s)(hy:enc y=(enc x).set j v)(r:List Value):(L.flatMap enc++r).set (i*s+j) v=(L.set i y).flatMap enc++r:=by
 obtain⟨h1,h2⟩:=Ta hx y;have hi:=Cb hx;have hl:((L.take i).flatMap enc).length=i*s:=by rw[FE fun z hz=>hs z (qdh hz),qbm,qce (by omega)]
 have hxl:=hs x (qac hx);rw[h2]
 conv=>lhs;rw[h1]
 rw[qb1,qb1,qcc,qcc,qa9,qa9,<-hl,List.set_append_right _ _ (by omega),Nat.add_sub_cancel_left,qa9,qa9,List.set_append_left _ _ (by omega),hy]
theorem OS.over{α:Type}{a:Option Addr}{n c s:Nat}{full:List Value}{enc:α->List Value}{L:List α}(O:OS a n c s full (L.flatMap enc))(hs:∀x,(enc x).length=s){i:Nat}{x:α}(hx:L[i]?=some x)(y:α):OS a n c s (over full (i*s) (enc y)) ((L.set i y).flatMap enc):=by
 refine⟨O.zero,O.none',by rw[DY];exact O.len,O.le,?_⟩;rw[O.split,Ae0 (fun z _=>hs z) hx (hs y)];have h1:=O.llen;rw[FE fun z _=>hs z]at h1;exact qct (by rw[FE fun z _=>hs z,qb4,h1])
theorem Oa{α:Type}{L:List α}{i j:Nat}{x y:α}(hx:L[i]?=some x)(hy:L[j]?=some y):((L.set i y).set j x).Perm L:=by
 obtain⟨hi,rfl⟩:=qbh.1 hx;obtain⟨hj,rfl⟩:=qbh.1 hy;exact List.set_set_perm hi hj
def FG(x:Int × Nat):List Value:=[.int .i64 x.1,.int .i64 (x.2:Int)]
theorem JI(x:Int × Nat):∀v∈FG x,AS v=true:=fun v hv=>by
 simp only[FG,qag,qar,or_false]at hv
 rcases hv with rfl|rfl <;> rfl
theorem Q9(x y:Int × Nat)(w:World):Ret prog 286 #[.agg (FG x).toArray,.agg (FG y).toArray] w fun v w'=>v=.bool (decide (lt7 x y))/\Ext [] w w':=by
 obtain⟨w0,rfl,H⟩:=qE w;refine A2 (fn:=f286) func286 U [.agg (FG x).toArray,.agg (FG y).toArray] U (Ad (Bu (FG x) (.agg _) U U H ?_));rintro b2 w - H;refine Bu (FG y) (.agg _) U U H ?_;rintro b3 w - H;refine Ai U (qA (Ad (Ah Lg U (AG Bm U H at1 U (Ah Lg U (AG Bm U H at0 U (AZ U U (Au U (AE 10 U ?_ ?_)))))))))
 .intro h1;replace h1:=AJ h1;refine Ag U (Ag U (Ag U (Ag U (Ag U (Ag U (Ag U (Ag U (Ag U (Ag U ?_)))))))));refine Ag U (Ag U (A8 U (.bool _) U (Ai U (qA (A6 (AD (v:=(.bool _)) U U U ?_))))));exact⟨qaa Value.bool (by unfold lt7;rw[qad];simp_all;try omega),H.ext⟩
 .intro h2;replace h2:=AK h2;refine Ah Lg U (AG Bm U H at1 U (Ah Lg U (AG Bm U H at0 U (Cj U U (Au U (AE 16 U ?_ ?_))))))
  .intro h3;replace h3:=AJ h3;refine Ah Qw U (AG B6 U H at1 U (Ah Qw U (AG B6 U H at0 U (AZ U U (A8 U (.bool _) U (AA U (.bool _) U (Ai U (qA (A6 (AD (v:=(.bool _)) U U U ?_))))))))));exact⟨qaa Value.bool (by unfold lt7;rw[qad];simp_all;try omega),H.ext⟩
  .intro h4;replace h4:=AK h4;refine Ag U (Ag U (Ag U (Ag U (Ag U (AA U (.bool _) U (AA U (.bool _) U (Ai U (qA (A6 (AD (v:=(.bool _)) U U U ?_))))))))));exact⟨qaa Value.bool (by unfold lt7;rw[qad];simp_all;try omega),H.ext⟩
theorem adr0(q:Nat):(adr (some ⟨q,0,none⟩)).off=0:=rfl
abbrev HB(bh:Nat)(a:Option Addr)(n c:Nat)(full:List Value):List (Nat × Obj):=(bh,Bl 318 [.slice a n c])::ent a 321 full
theorem up_ok{w:World}{bh q n c:Nat}{full:List Value}{L:List (Int × Nat)}(H0:Ctx w [bh,q] w (HB bh (some ⟨q,0,none⟩) n c full))(O:OS (some ⟨q,0,none⟩) n c 2 full (L.flatMap FG))(k:Nat)(hk:k<n)(hn:n<=1000000000)(hU:UpI L k) :
  Ret prog 285 #[ptr bh,.int .i64 (k:Int)] w fun v w'=>v=.tuple #[]/\∃(L':List (Int × Nat)) (full':List Value),L'.Perm L/\HeapL L'/\OS (some ⟨q,0,none⟩) n c 2 full' (L'.flatMap FG)/\Ctx w [bh,q] w' (HB bh (some ⟨q,0,none⟩) n c full'):=by
 obtain⟨w0,rfl⟩:=qD w;have H:=H0;refine A2 (fn:=f285) func285 U [.pointer (some ⟨bh,0,none⟩),.int .i64 (k:Int)] U ?_;refine Pt (Ap (Ps (Aa (Ax (Bn 9007199254740978 (α:=Nat × List (Int × Nat) × List Value) (fun s=>[(1,.int .i64 (s.1:Int))]) (fun s w'=>s.1<n/\s.2.1.Perm L/\UpI s.2.1 s.1/\OS (some ⟨q,0,none⟩) n c 2 s.2.2 (s.2.1.flatMap FG)/\Ctx w0 [bh,q] w' (HB bh (some ⟨q,0,none⟩) n c s.2.2)) (fun s=>s.1) (k,L,full) U ?_ ?_ ?_)))))
 .exact⟨rfl,trivial⟩
 .exact⟨hk,.refl _,hU,O,H⟩
 .rintro⟨k,L',f'⟩ j w ⟨hk,hp,hU,O,H⟩;dsimp only at hk hp hU O H;dsimp only;have hnum:n=L'.length:=O.numN (fun _ _=>rfl) (by decide);refine Ap (Ad (Ae U (Cp U U (qA (Av _ U ?_ ?_)))))
  .intro h1;replace h1:=AJ h1;obtain⟨o,ho⟩:=qD ((k - 1) / 2);obtain⟨x,hxk⟩:=AB (l:=L') (i:=k);obtain⟨y,hyo⟩:=AB (l:=L') (i:=o);have Rk:=O.rd (w:=w.drew) (t:=321) (fun y hy=>H.drew.blk y (qai _ hy)) (fun _ _=>rfl) (by decide);refine Aq (Aa (Ax (Ad (Ae U (B3 U U ?_)))));refine Jr U U (show _<=(9223372036854775807:Int)by omega) ?_;rw[show((k:Int) - 1) / 2=(o:Int)by omega];refine Af U (qA (Ap (EB 14 Bs U U ?_)));refine BO U (Bh U (A3 CK U (BS DZ U (by rintro _ rfl;exact H.drew) at0 U ?_)));refine AY U (Bo Rk DQ Dh U U (by omega) ?_);refine Me _ U I9 Dh U U (by rintro _ rfl;exact(Rk.row hxk rfl)) ?_;refine BO U (Bh U (A3 CK U (BS DZ U (by rintro _ rfl;exact H.drew) at0 U ?_)))
   refine AY U (Bo Rk DQ Dh U U (by omega) ?_);refine Me _ U I9 Dh U U (by rintro _ rfl;exact(Rk.row hyo rfl)) ?_;refine BM ?_;replace H:=H.drew;refine Am qB (Q9 x y _) U ?_;rintro v w ⟨rfl,hx24⟩;replace H:=H.call hx24;refine B1 U (qA (Av _ U ?_ ?_))
   .intro h2;replace h2:=Bv h2;refine Be (Aj (FJ U (Aj (AH (MP (Dd U U ?_))))));have hnl:¬lt7 x y:=by simpa using h2
    exact⟨rfl,L',f',hp,hU.done fun a b _ ha hb=>by
     rw[hxk]at ha;rw[<-ho,hyo]at hb;cases ha;cases hb
     exact Xx hnl,O,H⟩
   .intro h2;replace h2:=Bw h2;obtain⟨w7,rfl⟩:=qD w;have R7:=O.rd (w:=w7.drew) (t:=321) (fun y hy=>H.drew.blk y (qai _ hy)) (fun _ _=>rfl) (by decide);have hol:=O.len;have hole:=O.le;refine Aq (Aa (C1 [([0,1,2,3,4,5,6,7,8,9,10,11,12,13,14,15,16,17,18,19,20,21,22,23,24],25),([26],27)] (fun z=>z=World.drew w7) [25,27] Bs (rfl) ?_));refine AO U U (BZ U (Bp U (A1 CK U (Mg DZ U (by rintro _ rfl;exact H.drew) at0 U ?_))));refine Bg U (BZ U (Bp U (A1 CK U (Mg DZ U (by rintro _ rfl;exact H.drew) at0 U ?_))));refine Bg U (BZ U (Bp U (A1 CK U (Mg DZ U (by rintro _ rfl;exact H.drew) at0 U ?_))));refine Bg U (C5 R7 DQ Dh U U (by omega) ?_);refine GX _ I9 Dh U U (fun _ hx=>(by subst hx;exact R7.row hyo rfl)) ?_
    refine BZ U (Bp U (A1 CK U (Mg DZ U (by rintro _ rfl;exact H.drew) at0 U ?_)));refine Bg U (C5 R7 DQ Dh U U (by omega) ?_);refine GX _ I9 Dh U U (fun _ hx=>(by subst hx;exact R7.row hxk rfl)) ?_;refine C5 R7 DQ Dh U U (by omega) (Bb ?_);replace H:=H.drew;refine Il (vs:=FG y) U Dh U U U (JI y) H at1 (by show 0+(k:Int).toNat*2+2<=_;omega) ?_;rintro w H;refine Ab (BH U (AO U U ?_));refine C5 R7 DQ Dh U U (by omega) (Bb (Il (vs:=FG x) U Dh U U U (JI x) H at1 (by rw[DY];show 0+(o:Int).toNat*2+2<=_;omega) ?_));rintro w H;refine Ab (BH U (BK (Ay (Ae U (Af U (Ab (A7 (Aa ?_))))))));have hne:k≠o:=by omega
    refine⟨(o,(L'.set k y).set o x,over (over f' (k*2) (FG y)) (o*2) (FG x)),rfl,⟨rfl,trivial⟩,⟨by dsimp only;omega,(Oa hxk hyo).trans hp,by dsimp only;rw[ho];exact hU.step (by omega) hxk (by rw[<-ho];exact hyo) (by simpa using h2),OS.over (OS.over O (fun _=>rfl) hxk y) (fun _=>rfl) (by rw[qbo hne];exact hyo) x,?_⟩,by dsimp only;omega⟩;simp only[adr0,qa7,qa2]at H;exact H
  .intro h1;replace h1:=AK h1;refine Be (Aj (Aj (AH (MP (Dd U U ?_)))));exact⟨rfl,L',f',hp,hU.done fun a b h0=>absurd h0 (by omega),O,H⟩
theorem Ajj{w:World}{bh q n c:Nat}{full:List Value}{L:List (Int × Nat)}(H0:Ctx w [bh,q] w (HB bh (some ⟨q,0,none⟩) n c full))(O:OS (some ⟨q,0,none⟩) n c 2 full (L.flatMap FG))(hD:DownI L 0)(hn:n<=1000000000:=by omega):
  Ret prog 281 #[ptr bh,.int .i64 0] w fun v w'=>v=.tuple #[]/\∃(L':List (Int × Nat)) (full':List Value),L'.Perm L/\HeapL L'/\OS (some ⟨q,0,none⟩) n c 2 full' (L'.flatMap FG)/\Ctx w [bh,q] w' (HB bh (some ⟨q,0,none⟩) n c full'):=by
 obtain⟨w0,rfl⟩:=qD w;have H:=H0;refine A2 (fn:=f281) func281 U [.pointer (some ⟨bh,0,none⟩),.int .i64 0] U ?_;refine Pt (Ap (Ps (Aa (Ax (Bn 77371252455336267181195250 (α:=Nat × List (Int × Nat) × List Value) (fun s=>[(1,.int .i64 (s.1:Int))]) (fun s w'=>s.1<=n/\s.2.1.Perm L/\DownI s.2.1 s.1/\OS (some ⟨q,0,none⟩) n c 2 s.2.2 (s.2.1.flatMap FG)/\Ctx w0 [bh,q] w' (HB bh (some ⟨q,0,none⟩) n c s.2.2)) (fun s=>n - s.1) (0,L,full) U ?_ ?_ ?_)))))
 .exact⟨rfl,trivial⟩
 .exact⟨qaf _,.refl _,hD,O,H⟩
 .rintro⟨k,L',f'⟩ j w ⟨hk,hp,hD,O,H⟩;dsimp only at hk hp hD O H;dsimp only;have hnum:n=L'.length:=O.numN (fun _ _=>rfl) (by decide);have hol:=O.len;have hole:=O.le;obtain⟨m,hm⟩:=qD (2*k+1);refine Ax (Ad (Ae U (D8 U U ?_)));refine Aw U U ?_;rw[show(2*(k:Int)+1)=(m:Int)by omega];refine Af U (qA (Ap (Ad (Ae U (A9 U (AP U (Ah CK U (AG DZ U H at0 U (AU DQ U ?_)))))))));refine Cq U U (qA (Av _ U ?_ ?_))
  .intro h1;replace h1:=AJ h1;refine Be (Aj (FJ U (Aj (AH (MP (Dd U U ?_))))));exact⟨rfl,L',f',hp,hD.none (by omega),O,H⟩
  .intro h1;replace h1:=AK h1;obtain⟨x,hxm⟩:=AB (l:=L') (i:=m);refine Aq (Aa (Ap (Eo 2199023222784 (α:=Bool) (fun z=>[(40,.bool z)]) (fun z w'=>(z=true->∃y,L'[m+1]?=some y/\lt7 y x)/\(z=false->∀y,L'[m+1]?=some y->¬lt7 y x)/\Ctx w0 [bh,q] w' (HB bh (some ⟨q,0,none⟩) n c f')) U ?_ ?_)))
   .skip
    have Rk:=O.rd (w:=w.drew) (t:=321) (fun y hy=>H.drew.blk y (qai _ hy)) (fun _ _=>rfl) (by decide)
    obtain⟨y,hy7⟩:∃y,m+1<n->L'[m+1]?=some y:=by
     by_cases h:m+1<n
     .obtain⟨y,hy⟩:=AB (l:=L') (i:=m+1);exact⟨y,fun _=>hy⟩
     .exact⟨x,fun h'=>absurd h' h⟩
    refine FK 24 Bs U U (AY U (CX U U ?_));refine BO U (Bh U (A3 CK U (BS DZ U (by rintro _ rfl;exact H.drew) at0 U ?_)));refine Mf DQ U (K8 U U (Co U (DE 23 U ?_ ?_)))
    .intro h2;replace h2:=AJ h2;refine BO U (Bh U (A3 CK U (BS DZ U (by rintro _ rfl;exact H.drew) at0 U ?_)));refine AY U (CX U U ?_);refine Bo Rk DQ Dh U U (by omega) ?_;refine Me _ U I9 Dh U U (by rintro _ rfl;exact(Rk.row (hy7 (by omega)) rfl)) ?_;refine BO U (Bh U (A3 CK U (BS DZ U (by rintro _ rfl;exact H.drew) at0 U ?_)));refine AY U (Bo Rk DQ Dh U U (by omega) ?_);refine Me _ U I9 Dh U U (by rintro _ rfl;exact(Rk.row hxm rfl)) ?_;refine BM ?_;replace H:=H.drew;refine Am qB (Q9 y x _) U ?_;rintro v w ⟨rfl,hx39⟩;replace H:=H.call hx39;refine A8 U (.bool _) U (qA ?_)
     exact⟨decide (lt7 y x),rfl,⟨rfl,trivial⟩,fun h=>⟨y,hy7 (by omega),qbd h⟩,fun h z hz=>by
      rw[hy7 (by omega)]at hz;cases hz
      exact qbk h,H⟩
    .intro h2;replace h2:=AK h2;refine A4 U (A4 U (A4 U (A4 U (A4 U (A4 U (A4 U (A4 U (A4 U (A4 U ?_)))))))));refine A4 U (A4 U (A4 U (A4 U (A4 U (BM ?_)))));replace H:=H.drew;refine Ag U (AA U (.bool _) U (qA ?_));exact⟨false,rfl,⟨rfl,trivial⟩,(fun h=>by cases h),(fun _ z hz=>by have:=Cb hz;omega),H⟩
   .rintro z j2 w ⟨hzt,hzf,H⟩;refine FO 6597069766672 (α:=Nat) (fun z=>[(4,.int .i64 (z:Int))]) (fun z w'=>(∃y,Xy L' k z y)/\Ctx w0 [bh,q] w' (HB bh (some ⟨q,0,none⟩) n c f')) U ?_ ?_
    .skip
     refine Av _ U ?_ ?_
     .intro h2;obtain⟨y,hy,hlt⟩:=hzt h2;have hz':=Cb hy;refine Ay (Ae U (Aw U U ?_));refine Af U (qA ?_);refine⟨m+1,rfl,⟨rfl,trivial⟩,⟨y,.inr (by omega),hy,fun i a hi h0 ha=>?_⟩,H⟩;have:i=m\/i=m+1:=by omega
      rcases this with rfl|rfl
      .rw[hxm]at ha;cases ha;exact hlt.le
      .rw[hy]at ha;cases ha;exact .inr ⟨rfl,qan _⟩
     .intro h2;refine Aq (Aa ?_);refine⟨m,rfl,⟨rfl,trivial⟩,⟨x,.inl (by omega),hxm,fun i a hi h0 ha=>?_⟩,H⟩;have:i=m\/i=m+1:=by omega
      rcases this with rfl|rfl
      .rw[hxm]at ha;cases ha;exact .inr ⟨rfl,qan _⟩
      .exact Xx (hzf h2 a ha)
    .rintro o j3 w ⟨⟨y,hl2⟩,H⟩;obtain⟨x,hxk⟩:=AB (l:=L') (i:=k);have hyo:=hl2.2.1;have hon:=Cb hyo;have hko:k<o:=by have:=hl2.1;omega
     have Rk:=O.rd (w:=w.drew) (t:=321) (fun y hy=>H.drew.blk y (qai _ hy)) (fun _ _=>rfl) (by decide);refine Ap (EB 14 Bs U U ?_);refine BO U (Bh U (A3 CK U (BS DZ U (by rintro _ rfl;exact H.drew) at0 U ?_)));refine AY U (Bo Rk DQ Dh U U (by omega) ?_);refine Me _ U I9 Dh U U (by rintro _ rfl;exact(Rk.row hyo rfl)) ?_;refine BO U (Bh U (A3 CK U (BS DZ U (by rintro _ rfl;exact H.drew) at0 U ?_)));refine AY U (Bo Rk DQ Dh U U (by omega) ?_);refine Me _ U I9 Dh U U (by rintro _ rfl;exact(Rk.row hxk rfl)) ?_;refine BM ?_;replace H:=H.drew;refine Am qB (Q9 y x _) U ?_;rintro v w ⟨rfl,hx57⟩;replace H:=H.call hx57;refine B1 U (qA (Av _ U ?_ ?_))
     .intro h2;replace h2:=Bv h2;refine Be (Aj (FJ U (Aj (AH (MP (Dd U U ?_))))));exact⟨rfl,L',f',hp,hD.done hxk hl2 (by simpa using h2),O,H⟩
     .intro h2;replace h2:=Bw h2;obtain⟨w7,rfl⟩:=qD w;have R7:=O.rd (w:=w7.drew) (t:=321) (fun y hy=>H.drew.blk y (qai _ hy)) (fun _ _=>rfl) (by decide);refine Aq (Aa (C1 [([0,1,2,3,4,5,6,7,8,9,10,11,12,13,14,15,16,17,18,19,20,21,22,23,24],25),([26],27)] (fun z=>z=World.drew w7) [25,27] Bs (rfl) ?_));refine AO U U (BZ U (Bp U (A1 CK U (Mg DZ U (by rintro _ rfl;exact H.drew) at0 U ?_))));refine Bg U (BZ U (Bp U (A1 CK U (Mg DZ U (by rintro _ rfl;exact H.drew) at0 U ?_))));refine Bg U (BZ U (Bp U (A1 CK U (Mg DZ U (by rintro _ rfl;exact H.drew) at0 U ?_))));refine Bg U (C5 R7 DQ Dh U U (by omega) ?_);refine GX _ I9 Dh U U (fun _ hx=>(by subst hx;exact R7.row hyo rfl)) ?_;refine BZ U (Bp U (A1 CK U (Mg DZ U (by rintro _ rfl;exact H.drew) at0 U ?_)))
      refine Bg U (C5 R7 DQ Dh U U (by omega) ?_);refine GX _ I9 Dh U U (fun _ hx=>(by subst hx;exact R7.row hxk rfl)) ?_;refine C5 R7 DQ Dh U U (by omega) (Bb ?_);replace H:=H.drew;refine Il (vs:=FG y) U Dh U U U (JI y) H at1 (by show 0+(k:Int).toNat*2+2<=_;omega) ?_;rintro w H;refine Ab (BH U (AO U U ?_));refine C5 R7 DQ Dh U U (by omega) (Bb (Il (vs:=FG x) U Dh U U U (JI x) H at1 (by rw[DY];show 0+(o:Int).toNat*2+2<=_;omega) ?_));rintro w H;refine Ab (BH U (BK (Ay (Ae U (Af U (Ab (A7 (Aa ?_))))))));have hne:k≠o:=by omega
      refine⟨(o,(L'.set k y).set o x,over (over f' (k*2) (FG y)) (o*2) (FG x)),rfl,⟨rfl,trivial⟩,⟨by dsimp only;omega,(Oa hxk hyo).trans hp,hD.step hxk hl2 (by simpa using h2),OS.over (OS.over O (fun _=>rfl) hxk y) (fun _=>rfl) (by rw[qbo hne];exact hyo) x,?_⟩,by dsimp only;omega⟩;simp only[adr0,qa7,qa2]at H;exact H
theorem Ajk(w:World):Ret prog 265 #[] w fun v w'=>∃b,v=ptr b/\w.heap.size<=b/\w'.heap[b]?=some (Bl 318 [.slice none 0 0])/\Ext [] w w':=by
 obtain⟨w0,rfl,H⟩:=qE w;refine A2 (fn:=f265) func265 U [] U (Ad (BE U (qA (Ad (Bz [.slice none 0 0] Apr Ap4 ?_)))));refine Bu [.slice none 0 0] (.agg _) U U H ?_;rintro b2 w - H;refine BE U (qA (A6 (AD (v:=(.pointer _)) U U U ?_)));exact⟨b2,rfl,(H.own _ (qaj ..)).elim (fun h=>by cases h) id,H.get at0,H.ext⟩
theorem Ajl{w:World}{bh:Nat}{a:Option Addr}{n c:Nat}(hb:w.heap[bh]?=some (Bl 318 [.slice a n c])):Ret prog 267 #[ptr bh] w fun v w'=>v=.int .i64 (n:Int)/\w=w':=by
 obtain⟨w0,rfl⟩:=qD w;refine A2 (fn:=f267) func267 U [.pointer (some ⟨bh,0,none⟩)] U ?_;refine Ad (Af U (qA (Ap (Ad (A9 U (C7 Xt U ?_))))));refine qA (Av _ U ?_ ?_)
 .intro h1;cases h1
 .intro h1;refine Aq (Aa (Ad (A9 U (AP U (Ah CK U (Ba DZ U ((by rw[An hb];rfl)) ?_))))));refine AU DQ U (Af U (qA (A6 (AD (v:=(.int _ _)) U U U ?_))));exact⟨rfl,rfl⟩
theorem Ajm{w:World}{bh:Nat}{a:Option Addr}{n c:Nat}{x:Int × Nat}{L:List (Int × Nat)}(hb:w.heap[bh]?=some (Bl 318 [.slice a n c]))(R:Rd w a 2 FG (x::L))(hn:n=L.length+1):Ret prog 280 #[ptr bh] w fun v w'=>v=.tuple #[.int .i64 x.1,.int .i64 (x.2:Int),.int .i64 0]/\Ext [] w w':=by
 obtain⟨w0,rfl,H⟩:=qE w;have hbd:w0.drew.heap[bh]?=some (Bl 318 [.slice a n c]):=hb;have Rd':=R.ext0 (Ext.drew [] w0);refine A2 (fn:=f280) func280 U [.pointer (some ⟨bh,0,none⟩)] U ?_;refine Ad (Af U (Af U (Af U (qA (Ap (Ax (Ad (A9 U (C7 Xt U ?_)))))))));refine Ai U (qA (Av _ U ?_ ?_))
 .intro h1;cases h1
 .intro h1;refine Ad (A9 U (AP U (Ah CK U (Ba DZ U ((by rw[An hb];rfl)) ?_))));refine AU DQ U (Cj U U (Ai U (qA (Av _ U ?_ ?_))))
  .intro h2;replace h2:=AJ h2;omega
  .intro h2;replace h2:=AK h2;refine Aq (A7 (Aa (CN (fun x=>x=_) Bs U ?_)));refine BO U (Bh U (A3 CK U (BF DZ U (by rintro _ rfl;exact((by rw[An hbd];rfl))) ?_)));refine Bo Rd' DQ Dh U U (by omega) ?_;refine A3 Lg U (BF Bm U (by rintro _ rfl;exact((Rd'.fld (i:=0) rfl rfl (j:=0) rfl))) ?_);refine BO U (Bh U (A3 CK U (BF DZ U (by rintro _ rfl;exact((by rw[An hbd];rfl))) ?_)));refine Bo Rd' DQ Dh U U (by omega) ?_;refine A3 Qw U (BF B6 U (by rintro _ rfl;exact((Rd'.fld (i:=0) rfl rfl (j:=1) rfl))) ?_);refine C6 U (C6 U (C6 U (BM ?_)));rintro _ rfl;replace H:=H.drew;refine A6 (KP (v1:=(.int _ _)) (v2:=(.int _ _)) (v3:=(.int _ _)) U U U U U ?_);exact⟨rfl,H.ext⟩
theorem YF{w:World}{bh n c:Nat}{a:Option Addr}{full:List Value}{L:List (Int × Nat)}(H0:Ctx w ((HB bh a n c full).map (·.1)) w (HB bh a n c full))(O:OS a n c 2 full (L.flatMap FG))(hH:HeapL L)(key:Int)(item:Nat)(hn:n<=100000000:=by omega):
  Ret prog 279 #[ptr bh,.int .i64 key,.int .i64 (item:Int)] w fun v w'=>v=.int .i64 0/\∃(a':Option Addr) (c':Nat) (full':List Value) (L':List (Int × Nat)),L'.Perm ((key,item)::L)/\HeapL L'/\OS a' (n+1) c' 2 full' (L'.flatMap FG)/\Ctx w ((HB bh a n c full).map (·.1)) w' (HB bh a' (n+1) c' full'):=by
 obtain⟨w0,rfl⟩:=qD w;have H:=H0;refine A2 (fn:=f279) func279 U [.pointer (some ⟨bh,0,none⟩),.int .i64 key,.int .i64 (item:Int)] U ?_;refine Ad (Af U (qA (Ap (Ad (A9 U (C7 Xt U ?_))))));refine qA (Av _ U ?_ ?_)
 .intro h1;cases h1
 .intro h1;refine Aq (Aa (Ad (A9 U (A9 U (AP U (Ah CK U (AG DZ U H at0 U (Ae U (Ae U (Bz (FG (key,item)) Aps Xu ?_))))))))));refine Cs (FG (key,item)) (.agg _) DQ Dh Xu U U U U H ?_;rintro b17 w - H;refine C3 (L:=[(bh,_)]) DQ DQ Dh Amy Xu U U U H O U (JI _) ?_;rintro a18 c18 f18 w H O18;have O8:OS a18 (n+1) c18 2 f18 ((L++[(key,item)]).flatMap FG):=by rw[qb1];simpa using O18
  refine AP U (Ah CK U (Cz (.slice _ _ _) Aef U U U H at0 (by(simp;done)) ?_));rintro w H;refine qA (Ad (A9 U (A9 U (AP U (Ah CK U (AG DZ U H at0 U (AU DQ U (B3 U U ?_))))))));rw[show(((n+1:Nat):Int) - 1)=(n:Int)by omega];obtain⟨q,rfl⟩:=O8.form (by omega);refine Am qB (up_ok (Ctx.lend (L2:=[]) H.app_nil) O8 n (by omega) (by omega) (by have hnum:n=L.length:=O.numN (fun _ _=>rfl) (by decide);rw[hnum];exact hH.snoc _)) U ?_;rintro v w ⟨rfl,L',f',hp,hH',O',H'⟩;replace H:=(Ctx.back (L2:=[]) H.app_nil H').nil_app;refine qA (Ad (Af U (qA (A6 (AD (v:=(.int _ _)) U U U ?_)))));exact⟨rfl,some ⟨q,0,none⟩,c18,f',L',hp.trans (qe7 _ _),hH',O',H⟩
theorem OS.short{α:Type}{a:Option Addr}{n c s:Nat}{full:List Value}{enc:α->List Value}{L:List α}(O:OS a n c s full (L.flatMap enc))(hs:∀x,(enc x).length=s){m:Nat}(hm:m<=n):OS a m c s full ((L.take m).flatMap enc):=by
 refine⟨O.zero,O.none',O.len,qbe hm O.le,?_⟩;have h1:=O.pre;have h2:full.take (m*s)=(full.take (n*s)).take (m*s):=by rw[List.take_take,qce (qcr _ hm)]
 have hl:=O.llen;rw[FE fun z _=>hs z]at hl;rw[h2,h1]
 conv=>lhs;rw[<-qbn m L,qb1]
 by_cases h0:s=0
 .subst h0;have hz:∀M:List α,M.flatMap enc=[]:=fun M=>qb5 (by rw[FE fun z _=>hs z];rfl);rw[hz,hz];simp
 .have hL:n=L.length:=Nat.eq_of_mul_eq_mul_right (by omega) hl.symm;exact qct (by rw[FE fun z _=>hs z,qbm,qce (by omega)])
theorem Ae1{α:Type}{x z:α}{L:List α}(hz:(x::L)[L.length]?=some z):(((x::L).set 0 z).take L.length).Perm L:=by
 rcases List.eq_nil_or_concat L with rfl|⟨M,y,rfl⟩
 .simp
 .have:z=y:=by
   rw[List.concat_eq_append,qat,qbx,List.getElem?_cons_succ,qc4 (qan _),qd2]at hz
   simpa using hz.symm
  subst this;rw[List.concat_eq_append,List.set_cons_zero,qat,qbx,List.take_succ_cons,qct rfl];exact(qe7 _ _).symm
theorem Ap8{w:World}{bh q n c:Nat}{full:List Value}{x:Int × Nat}{L:List (Int × Nat)}(H0:Ctx w [bh,q] w (HB bh (some ⟨q,0,none⟩) n c full))(O:OS (some ⟨q,0,none⟩) n c 2 full ((x::L).flatMap FG))(hH:HeapL (x::L))(hn:n<=100000000:=by omega):
  Ret prog 268 #[ptr bh] w fun v w'=>v=.tuple #[.int .i64 x.1,.int .i64 (x.2:Int),.int .i64 0]/\∃(full':List Value) (L':List (Int × Nat)),L'.Perm L/\HeapL L'/\OS (some ⟨q,0,none⟩) L.length c 2 full' (L'.flatMap FG)/\Ctx w [bh,q] w' (HB bh (some ⟨q,0,none⟩) L.length c full'):=by
 obtain⟨w0,rfl⟩:=qD w;have H:=H0;have hnum:n=L.length+1:=O.numN (fun _ _=>rfl) (by decide);subst hnum;have hol:=O.len;have hole:=O.le;refine A2 (fn:=f268) func268 U [.pointer (some ⟨bh,0,none⟩)] U ?_;refine Ad (Af U (Af U (Af U (qA (Ad (A9 U (Am qB (Ajm (H.get at0) (O.rd (t:=321) (fun y hy=>H.blk y (qai _ hy)) (fun _ _=>rfl) (by decide)) U) U ?_)))))));rintro v w ⟨rfl,hx8⟩;replace H:=H.call hx8;refine BN U (AF U U (AF U U (AF U U (Af U (Af U (Af U (qA (Ap (Ad ?_)))))))));refine Ae U (Cj U U (qA (Av _ U ?_ ?_)))
 .intro h1;replace h1:=AJ h1;obtain⟨z,hz⟩:=AB (l:=x::L) (i:=L.length) (h:=by simp);refine Ad (A9 U (AP U (Ah CK U (AG DZ U H at0 U (AU DQ U (B3 U U ?_))))));rw[show(((L.length+1:Nat):Int) - 1)=(L.length:Int)by omega];refine Af U (qA ?_);obtain⟨w7,rfl⟩:=qD w;have R7:=O.rd (w:=w7.drew) (t:=321) (fun y hy=>H.drew.blk y (qai _ hy)) (fun _ _=>rfl) (by decide);have O9:=OS.short (OS.over O (fun _=>rfl) (i:=0) (x:=x) rfl z) (fun _=>rfl) (m:=L.length) (by omega);refine C1 [([0,1,2,3,4,5,6,7,8,9,10,11],12)] (fun z=>z=World.drew w7) [12] Bs (rfl) (AO U U ?_);refine BZ U (Bp U (A1 CK U (Mg DZ U (by rintro _ rfl;exact H.drew) at0 U ?_)));refine BZ U (Bp U (A1 CK U (Mg DZ U (by rintro _ rfl;exact H.drew) at0 U ?_)));refine Bg U (C5 R7 DQ Dh U U (by rfl) ?_)
  refine GX _ I9 Dh U U (fun _ hx=>(by subst hx;exact R7.row hz rfl)) ?_;refine C5 R7 DQ Dh U U (by rfl) (Bb ?_);replace H:=H.drew;refine Il (vs:=FG z) U Dh U U U (JI z) H at1 (by show 0+(0:Int).toNat*2+2<=_;rw[hol];omega) ?_;rintro w H;rw[adr0,show(0:Nat)+(0:Int).toNat*2=0*2 from rfl]at H;refine Ab (BH U (BK (Ad (A9 U (A9 U (AP U (Ah CK U (AG DZ U H at0 U (Ae U (Hz U DQ Dh U U ?_))))))))));refine AP U (Ah CK U (Cz (.slice _ _ _) Aef U U U H at0 (by(simp;done)) ?_));rintro w H;refine qA (Ay (A9 U (Am qB (Ajj (Ctx.lend (L2:=[]) H.app_nil) O9 hH.cut) U ?_)));rintro v w ⟨rfl,L',f',hp,hH',O',H'⟩;replace H:=(Ctx.back (L2:=[]) H.app_nil H').nil_app
  refine qA (Ad (Ae U (Ae U (Ae U (Af U (Af U (Af U (qA (A6 (KP (v1:=(.int _ _)) (v2:=(.int _ _)) (v3:=(.int _ _)) U U U U U ?_))))))))));exact⟨rfl,f',L',hp.trans (Ae1 hz),hH',O',H⟩
 .intro h1;replace h1:=AK h1;exact absurd U h1
theorem Lp{P:Program}{e:Env}{w:World}{fn:Func}{R:Value->World->Prop}{a:Tmp}{t:TypeId}{p:Addr}(hr:fn.results=#[.cell a t])(ha:e.g a=.pointer (some p))(h:Marks e.ds w fun w'=>∃v,(loadVar t p).run P w'=.ok v w'/\R v w'):Vb P fn R .ret e w :=
 Marks.mono (fun w ⟨v,hv,h⟩ tmps ht=>by
  have h1:=(ht a).trans ha;rw[qa5]at h1
  exact⟨v,by simp[results,hr,h1,asAddr,hv],h⟩) h
def HW(g:Gr)(p:Nat->Int)(k:Nat):List Value:=[.int .i64 (k:Int),.int .i64 (g.u k:Int),.int .i64 (g.v k:Int),.int .i64 (g.len p k)]
theorem QA(g:Gr)(p:Nat->Int)(k:Nat):∀v∈HW g p k,AS v=true:=fun v hv=>by
 simp only[HW,qag,qar,or_false]at hv
 rcases hv with rfl|rfl|rfl|rfl <;> rfl
def Fl(cap x:Nat->Int)(k:Nat):List Nat:=(List.range (2*k)).filter fun a=>decide (0<Da cap x a)
def Mm(g:Gr)(p:Nat->Int)(l:List Nat):List (List Value):=l.map fun a=>[.agg (HW g p a).toArray]
theorem Tb(cap x:Nat->Int)(k:Nat):Fl cap x (k+1)=Fl cap x k++((if 0<Da cap x (2*k)then[2*k]else[])++if 0<Da cap x (2*k+1)then[2*k+1]else[]):=by
 unfold Fl;rw[show 2*(k+1)=2*k+1+1 by omega,qc9,qc9,qa9,qco]
 congr 1
 rw[qco]
 congr 1
 .by_cases h:0<Da cap x (2*k)
  .rw[if_pos h,qbw,qal h];rfl
  .rw[if_neg h,qbw,qay h];rfl
 .by_cases h:0<Da cap x (2*k+1)
  .rw[if_pos h,qbw,qal h];rfl
  .rw[if_neg h,qbw,qay h];rfl
theorem Vy(cap x:Nat->Int):∀{m k:Nat},k<=m->∃r,Fl cap x m=Fl cap x k++r
 |0,k,h=>⟨[],by rw[show k=0 by omega,qa4]⟩
 |m+1,k,h=>by
  rcases qap k (m+1)with h1|h1
  .obtain⟨r,hr⟩:=Vy (m:=m) (k:=k) cap x (by omega);exact⟨_,by rw[Tb,hr,qa9]⟩
  .exact⟨[],by rw[show k=m+1 by omega,qa4]⟩
theorem YG{g:Gr}{p cap x:Nat->Int}{m k:Nat}{l r:List Nat}{a:Nat}(h:Fl cap x (k+1)=l++a::r)(hk:k<m:=by omega):(Mm g p (Fl cap x m))[l.length]?=some [.agg (HW g p a).toArray]:=by
 obtain⟨s,hs⟩:=Vy cap x (m:=m) (k:=k+1) (by omega);unfold Mm;rw[hs,h,qa1,qa9,qc4 (qan _),qd2];rfl
def FH(pot:List Int)(i:Nat):Int:=pot.getD i 0
structure EAt(N:Int)(es:List Ed)(fl pot:List Int)(i:Nat)(e:Ed)(xx pu pv:Int)(un vn:Nat):Prop where
 he:es[i]?=some e
 hx:fl[i]?=some xx
 hpu:pot[un]?=some pu
 hpv:pot[vn]?=some pv
 f:e.f=(un:Int)
 t:e.t=(vn:Int)
 un':un<N.toNat
 vn':vn<N.toNat
 gf:(grE N es).f i=un
 gt:(grE N es).t i=vn
 co:(grE N es).co i=e.cost
 cap:CA es i=e.cap
 fx:flE fl i=xx
 xb:0<=xx/\xx<=e.cap/\e.cap<=4503599627370496
 cb : -1000<=e.cost/\e.cost<=1000
 ub : -1099511627776<=pu/\pu<=1099511627776
 vb : -1099511627776<=pv/\pv<=1099511627776
 pu':FH pot un=pu
 pv':FH pot vn=pv
theorem eat{N:Int}{es:List Ed}{fl pot:List Int}(hw:Cf N es fl=true)(hp:FQ N pot=true){i:Nat}(hi:i<es.length:=by omega):∃e xx pu pv un vn,EAt N es fl pot i e xx pu pv un vn:=by
 obtain⟨hl,hr,hin⟩:=Cw hw;obtain⟨hpl,hpb⟩:=Lo hp;obtain⟨e,he⟩:=AB (l:=es) (i:=i) (h:=hi);obtain⟨xx,hx⟩:=AB (l:=fl) (i:=i);have hco:=Em ((CB hr).2.2.2.1 e (qac he));have hxx:=hin i e xx he hx;obtain⟨un,hun⟩:∃un:Nat,e.f=un:=⟨e.f.toNat,by omega⟩;obtain⟨vn,hvn⟩:∃vn:Nat,e.t=vn:=⟨e.t.toNat,by omega⟩;obtain⟨pu,hpu⟩:=AB (l:=pot) (i:=un);obtain⟨pv,hpv⟩:=AB (l:=pot) (i:=vn);refine⟨e,xx,pu,pv,un,vn,he,hx,hpu,hpv,hun,hvn,by omega,by omega,?_,?_,?_,?_,Br hx,by omega,by omega,hpb _ _ hpu,hpb _ _ hpv,Br hpu,Br hpv⟩
 .show(es.getD i e0).f.toNat=un;rw[Br he,hun];rfl
 .show(es.getD i e0).t.toNat=vn;rw[Br he,hvn];rfl
 .show(es.getD i e0).cost=e.cost;rw[Br he]
 .show(es.getD i e0).cap=e.cap;rw[Br he]
theorem Rd.rowE{α:Type}{enc:α->List Value}{w:World}{a:Option Addr}{s:Nat}{xs:List α}(R:Rd w a s enc xs){i:Nat}{x:α}(hx:xs[i]?=some x){l:List Value}(he:enc x=l)(hs:l.length=s):∀j v,l[j]?=some v->w.cell? ⟨(adr a).block,(adr a).off+i*s+j,none⟩=some v:=by
 subst he;exact R.row hx hs
section
variable {N:Int}{es:List Ed}{fl pot:List Int}{i:Nat}{e:Ed}{xx pu pv:Int}{un vn:Nat}
theorem EAt.enc(h:EAt N es fl pot i e xx pu pv un vn):CJ e=[.int .i64 (un:Int),.int .i64 (vn:Int),.int .i64 e.cap,.int .i64 e.cost]:=by
 unfold CJ;rw[h.f,h.t]
theorem EAt.fwd(h:EAt N es fl pot i e xx pu pv un vn):HW (grE N es) (FH pot) (2*i)=[.int .i64 ((2*i:Nat):Int),.int .i64 (un:Int),.int .i64 (vn:Int),.int .i64 (e.cost+pu - pv)]:=by
 unfold HW Gr.len Gr.u Gr.v Gr.c;rw[show 2*i % 2=0 by omega,show 2*i / 2=i by omega];simp only[if_true];rw[h.gf,h.gt,h.co,h.pu',h.pv']
theorem EAt.bwd(h:EAt N es fl pot i e xx pu pv un vn):HW (grE N es) (FH pot) (2*i+1)=[.int .i64 ((2*i+1:Nat):Int),.int .i64 (vn:Int),.int .i64 (un:Int),.int .i64 (-(e.cost+pu - pv))]:=by
 unfold HW Gr.len Gr.u Gr.v Gr.c;rw[show(2*i+1) % 2=1 by omega,show(2*i+1) / 2=i by omega];simp only[if_false,Nat.one_ne_zero];rw[h.gf,h.gt,h.co,h.pu',h.pv',show -e.cost+pv - pu = -(e.cost+pu - pv)by omega]
theorem EAt.room0(h:EAt N es fl pot i e xx pu pv un vn):Da (CA es) (flE fl) (2*i)=e.cap - xx:=by
 unfold Da;rw[show 2*i % 2=0 by omega,show 2*i / 2=i by omega,if_pos rfl,h.cap,h.fx]
theorem EAt.room1(h:EAt N es fl pot i e xx pu pv un vn):Da (CA es) (flE fl) (2*i+1)=xx:=by
 unfold Da;rw[show(2*i+1) % 2=1 by omega,show(2*i+1) / 2=i by omega,if_neg (by omega),h.fx]
end
theorem YH(N:Int)(a b p:Option Addr)(n c m d q r:Nat)(w:World):Ret prog 264 #[Dx N a n c,.slice b m d,.slice p q r] w fun v w'=>∃b1 b2 b3,v=.func (.func 278) #[] #[ptr b1,ptr b2,ptr b3]/\w'.heap[b1]?=some (Bl 51 [.int .i64 N,.slice a n c])/\w'.heap[b2]?=some (Bl 35 [.slice p q r])/\w'.heap[b3]?=some (Bl 35 [.slice b m d])/\w.heap.size<=b1/\w.heap.size<=b2/\w.heap.size<=b3/\Ext [] w w':=by
 obtain⟨w0,rfl,H⟩:=qE w;refine A2 (fn:=f264) func264 U [Dx N a n c,.slice b m d,.slice p q r] U (Ad (Bu [.int .i64 N,.slice a n c] (.agg _) U U H ?_));rintro b3 w - H;refine Bu _ (.slice _ _ _) U U H ?_;rintro b4 w - H;refine Bu _ (.slice _ _ _) U U H ?_;rintro b5 w - H;refine Dg U .nilFunc U (qA (Ad (Cm [.pointer _,.pointer _,.pointer _] U (Dg U (.func _ _ _) U ?_))));refine qA (A6 (AD (v:=(.func _ _ _)) U U U ?_));have ho:∀x∈[(b5,Bl 35 [.slice p q r]),(b4,Bl 35 [.slice b m d]),(b3,Bl 51 [.int .i64 N,.slice a n c])],w0.heap.size<=x.1:=fun x hx=>(H.own x hx).elim (fun h=>by cases h) id;exact⟨b3,b5,b4,rfl,H.get at2,H.get at0,H.get at1,ho (b3,_) (qac (i:=2) U),ho (b5,_) (qac (i:=0) U),ho (b4,_) (qac (i:=1) U),H.ext⟩
structure ArcK(b1 b2 b3:Nat)(N:Int)(a b p:Option Addr)(c d r:Nat)(es:List Ed)(fl pot:List Int)(M:Mt)(w:World):Prop where
 h1:w.heap[b1]?=some (Bl 51 [.int .i64 N,.slice a es.length c])
 h2:w.heap[b2]?=some (Bl 35 [.slice p pot.length r])
 h3:w.heap[b3]?=some (Bl 35 [.slice b fl.length d])
 R:Rd w a 4 CJ es
 Rf:Rd w b 1 I1 fl
 Rp:Rd w p 1 I1 pot
theorem Vz{b1 b2 b3:Nat}{N:Int}{a b p:Option Addr}{c d r:Nat}{es:List Ed}{fl pot:List Int}(hw:Cf N es fl=true)(hp:FQ N pot=true) :
  TY prog 278 #[ptr b1,ptr b2,ptr b3] [] (ArcK b1 b2 b3 N a b p c d r es fl pot) (Mm (grE N es) (FH pot) (Fl (CA es) (flE fl) es.length)):=by
 intro l w J E hJ0 hJs hEs hK hY;obtain⟨M0,hJ0⟩:=hJ0;obtain⟨hl,hri,-⟩:=Cw hw;obtain⟨hN1,hN40,hn200,-⟩:=CB hri;obtain⟨hpl,-⟩:=Lo hp;obtain⟨w0,rfl⟩:=qD w;refine A2 (fn:=f278) func278 U [.func (.yield l) #[] #[],.pointer (some ⟨b1,0,none⟩),.pointer (some ⟨b2,0,none⟩),.pointer (some ⟨b3,0,none⟩)] U ?_;have K0:=(hK _ _ _ hJ0).2;refine Ad (Ah C8 U (Ba DO U ((by rw[An K0.h1];rfl)) ?_));refine AU CU U (Ae U (qA (Ax (Bn 2361183241434822605024 (α:=Nat) (fun i=>[(11,.int .i64 (i:Int))]) (fun i w'=>i<=es.length/\∃M,J (Fl (CA es) (flE fl) i).length M w') (fun i=>es.length - i) 0 U ?_ ?_ ?_))))
 .exact⟨rfl,trivial⟩
 .exact⟨qaf _,M0,hJ0⟩
 .rintro i j w ⟨hi,M,hJ⟩;refine Ad (AZ U U (qA (Ap (Av _ U ?_ ?_))))
  .intro h1;replace h1:=AJ h1;obtain⟨e,xx,pu,pv,un,vn,A⟩:=eat (i:=i) hw hp;obtain⟨he,hfx,hpu,hpv,hf,ht,hun,hvn,-,-,-,-,-,hxb,hcb,hub,hvb,-,-⟩:=id A;have hrs:=Tb (CA es) (flE fl) i;rw[A.room0,A.room1]at hrs;obtain⟨w1,rfl⟩:=qD w;have KR:∀{z},Ext [] w1 z->ArcK b1 b2 b3 N a b p c d r es fl pot M z:=fun hz=>(hK _ _ _ (hJs _ _ _ _ hJ hz)).2;have R:=(KR (.refl _ _)).R;have Rf:=(KR (.refl _ _)).Rf;have Rp:=(KR (.refl _ _)).Rp;have H:=Ctx.start w1 [];refine Aq (Aa (Ap (Ax (Ad (Ae U (AM R CU CW U U (by rfl) ?_))))));refine Ca _ Je CW U U (Rd.rowE (KR H.ext).R he A.enc U) (AX GY H ?_);rintro b6 w - H;refine Af U (Bi CW U U U (by simp[AS]) H at0 U ?_);rintro w H;refine qA (CN (fun x=>x=_) Bs U ?_);refine A3 EZ U (BS Bm U (by rintro _ rfl;exact H.drew) at0 U ?_)
   refine BF Cc U (by rintro _ rfl;exact((by rw[An (KR H.drew.ext).h2];rfl))) ?_;refine A3 EX U (BS B6 U (by rintro _ rfl;exact H.drew) at0 U ?_);refine Bo Rp AR Bt U U (by rfl) ?_;refine BF Bm U (by rintro _ rfl;exact(((KR H.drew.ext).Rp.fld hpu rfl (j:=0) rfl))) ?_;refine CX U U ?_;refine BF Cc U (by rintro _ rfl;exact((by rw[An (KR H.drew.ext).h2];rfl))) ?_;refine A3 EY U (BS B6 U (by rintro _ rfl;exact H.drew) at0 U ?_);refine Bo Rp AR Bt U U (by rfl) ?_;refine BF Bm U (by rintro _ rfl;exact(((KR H.drew.ext).Rp.fld hpv rfl (j:=0) rfl))) ?_;refine Dp U U (C6 U (BM ?_));rintro _ rfl;replace H:=H.drew;refine Ap ?_;obtain⟨len,hlen⟩:=qD (e.cost+pu - pv);rw[<-hlen];have hf7:=A.fwd;have hb7:=A.bwd;rw[<-hlen]at hf7 hb7
   have hb6:=(H.own _ (qaj ..)).elim (fun h=>by cases h) id;have hM:=(hK _ _ _ hJ).1;have hn6:¬M b6:=fun h=>by have:=hM _ h;omega
   have hk6:=H.drew.get at0;have hJ6:=hJs _ _ _ _ hJ H.drew.ext;refine Eo 1125898833100800 (α:=Bool) (fun z=>[(49,.bool z)]) (fun z w'=>(z=true->E w')/\(z=false->w'.heap[b6]?=some (Bl 59 [.int .i64 (un:Int),.int .i64 (vn:Int),.int .i64 e.cap,.int .i64 e.cost])/\∃M',¬M' b6/\J (Fl (CA es) (flE fl) i++(if 0<e.cap - xx then[2*i]else[])).length M' w')) U ?_ ?_
   .skip
    refine FK 17 Bs U U ?_;refine BF Cc U (by rintro _ rfl;exact((by rw[An (KR H.drew.ext).h3];rfl))) ?_;refine AY U (Bo Rf AR Bt U U (by rfl) ?_);refine BF Bm U (by rintro _ rfl;exact(((KR H.drew.ext).Rf.fld hfx rfl (j:=0) rfl))) ?_;refine A3 DX U (BS Bm U (by rintro _ rfl;exact H.drew) at0 U ?_);refine K8 U U (Co U (DE 37 U ?_ ?_))
    .intro h2;replace h2:=AJ h2;refine NH U (.func _ _ _) U (AY U (SG U U U ?_));refine A3 EX U (BS B6 U (by rintro _ rfl;exact H.drew) at0 U ?_);refine A3 EY U (BS B6 U (by rintro _ rfl;exact H.drew) at0 U ?_);refine AY U (Acr (HW (grE N es) (FH pot) (2*i)) U Aeb Lh (by rw[hf7];kernel_rfl) ?_);refine BM ?_;replace H:=H.drew;refine HG (vs:=[.agg (HW (grE N es) (FH pot) (2*i)).toArray]) U (hY _ _ M _ (YG (l:=Fl (CA es) (flE fl) i) (k:=i) (by rw[hrs,if_pos (by omega)];rfl)) hJ6) U ?_;rintro u w hu
     obtain⟨bb,rfl,hu1,hu0⟩:∃bb,u=.bool bb/\(bb=true->w.heap[b6]?=some (Bl 59 [.int .i64 (un:Int),.int .i64 (vn:Int),.int .i64 e.cap,.int .i64 e.cost])/\∃M',¬M' b6/\J ((Fl (CA es) (flE fl) i).length+1) M' w)/\(bb=false->E w):=hu.elim (fun h=>⟨true,h.1,fun _=>let ⟨M',h1,g⟩:=h.2;⟨g.to hk6 hn6,M',g.not (Bf hk6) hn6,h1⟩,fun h=>by cases h⟩) (fun h=>⟨false,h.1,(fun h=>by cases h),fun _=>h.2⟩);refine B1 U (A8 U (.bool _) U (qA ?_));exact⟨!bb,rfl,⟨rfl,trivial⟩,fun h=>hu0 (by simpa using h),fun h=>by rw[if_pos (by omega),qat];exact hu1 (by simpa using h)⟩
    .intro h2;replace h2:=AK h2;refine A4 U (A4 U (A4 U (A4 U (A4 U (A4 U (A4 U (A4 U (A4 U (BM ?_)))))))));replace H:=H.drew;refine Ag U (Ag U (AA U (.bool _) U (qA ?_)));exact⟨false,rfl,⟨rfl,trivial⟩,(fun h=>by cases h),fun _=>⟨hk6,M,hn6,by rw[if_neg (by omega),qa4];exact hJ6⟩⟩
   .rintro z j2 w ⟨hz1,hz0⟩;refine Av _ U ?_ ?_
    .intro h2;refine A6 (Al (A5 (Al (Al (A5 (Gx U U ?_))))));exact .inr (hz1 h2)
    .intro h2;obtain⟨hk7,M7,hn7,hJ7⟩:=hz0 h2;obtain⟨w7,rfl⟩:=qD w;have K7:=(hK _ _ _ hJ7).2;have H:=Ctx.start w7 [];refine Aq (Aa (Ad (Ba Cc U ((by rw[An K7.h3];rfl)) ?_)));refine Ae U (AM Rf AR Bt U U (by rfl) ?_);refine Ba Bm U ((K7.Rf.fld hfx U (j:=0) U)) ?_;refine Cp U U (Au U (AE 55 U ?_ ?_))
     .intro h3;replace h3:=AJ h3;have hat:=YG (g:=grE N es) (p:=FH pot) (cap:=CA es) (x:=flE fl) (m:=es.length) (l:=Fl (CA es) (flE fl) i++(if 0<e.cap - xx then[2*i]else[])) (k:=i) (a:=2*i+1) (r:=[]) (by rw[hrs,if_pos h3,qa9]);refine De U (.func _ _ _) U (Ae U (D8 U U ?_));refine Aw U U (Ah EY U (Ba B6 U ((by rw[An hk7];rfl)) ?_));refine Ah EX U (Ba B6 U ((by rw[An hk7];rfl)) ?_);refine Ae U (JZ U U ?_);refine Bz (HW (grE N es) (FH pot) (2*i+1)) Aeb Lh (hl:=by rw[hb7];kernel_rfl) ?_;refine HG (vs:=[.agg (HW (grE N es) (FH pot) (2*i+1)).toArray]) U (hY _ _ M7 _ hat hJ7) U ?_;rintro u w hu
      obtain⟨bb,rfl,hu1,hu0⟩:∃bb,u=.bool bb/\(bb=true->∃M',J ((Fl (CA es) (flE fl) i++(if 0<e.cap - xx then[2*i]else[])).length+1) M' w)/\(bb=false->E w):=hu.elim (fun h=>⟨true,h.1,fun _=>let ⟨M',h1,_⟩:=h.2;⟨M',h1⟩,fun h=>by cases h⟩) (fun h=>⟨false,h.1,(fun h=>by cases h),fun _=>h.2⟩);refine B1 U (A8 U (.bool _) U (qA (Av _ U ?_ ?_)))
      .intro h4;replace h4:=Bv h4;refine A6 (A5 (Al (Al (A5 (Gx U U ?_)))));exact .inr (hu0 (by simpa using h4))
      .intro h4;replace h4:=Bw h4;refine Aq (A7 (Aa (Ay (Aw U U ?_))));refine Ae U (qA ?_);refine⟨i+1,rfl,⟨rfl,trivial⟩,⟨by omega,?_⟩,by omega⟩;rw[hrs,if_pos h3,<-qa9,qat];exact hu1 (by simpa using h4)
     .intro h3;replace h3:=AK h3;refine Ag U (Ag U (Ag U (Ag U (Ag U (Ag U (Ag U (Ag U (Ag U (Ag U ?_)))))))));refine Ag U (Ag U (Ag U (AA U (.bool _) U (qA (D5 U (Aq (A7 (Aa (Ay (Aw U U ?_))))))))));refine Ae U (qA ?_);refine⟨i+1,rfl,⟨rfl,trivial⟩,⟨by omega,M7,?_⟩,by omega⟩;rw[hrs,if_neg h3,qa4];exact hJ7
  .intro h1;replace h1:=AK h1;refine Be (Aj (Aj (AH (Dd U U ?_))));obtain rfl:i=es.length:=by omega
   exact .inl ⟨M,by unfold Mm;rw[qak];exact hJ⟩
def arcB(g:Gr)(p:Nat->Int)(a:Nat):Bool:=decide (0<=g.len p a)
def Jg(N:Int)(es:List Ed)(fl pot:List Int):Bool:=Cf N es fl && (FQ N pot && (Fl (CA es) (flE fl) es.length).all (arcB (grE N es) (FH pot)))
theorem Ajn(N:Int)(a b p:Option Addr)(n c m d q r:Nat)(es:List Ed)(fl pot:List Int)(w:World)(R:Rd w a 4 CJ es)(hn:es.length=n)(hN:I64 N)(Rf:Rd w b 1 I1 fl)(hm:fl.length=m)(hm2:m<=9223372036854775000)(Rp:Rd w p 1 I1 pot)(hq:pot.length=q)(hq2:q<=9223372036854775000) :
  Ret prog 263 #[Dx N a n c,.slice b m d,.slice p q r] w fun v w'=>v=.bool (Jg N es fl pot)/\Ext [] w w':=by
 subst hn hm hq;obtain⟨w0,rfl,H⟩:=qE w;refine Iv (fn:=f263) func263 U [Dx N a es.length c,.slice b fl.length d,.slice p pot.length r] U (Ad (Bu [.int .i64 N,.slice a es.length c] (.agg _) U U H ?_));rintro b3 w - H;refine AX zc_4 H ?_;rintro b6 w - H;refine qA (Ap (Ad (BV CG C2 U H at1 U (Ao U (Am qB (LN N a b es.length c fl.length d es fl _ (R.ext0 H.ext) U hN (Rf.ext0 H.ext) U hm2) U ?_)))));rintro v w ⟨rfl,hx12⟩;replace H:=H.call hx12;refine B1 U (Au U (AE 14 U ?_ ?_))
 .intro h1;replace h1:=Bv h1;refine Ag U (Ag U (Ag U (Ag U (Ag U (A8 U (.bool _) U (qA (D4 U (Ad (Cz (.bool _) NV U U U H at0 (by decide) ?_)))))))));rintro w H;refine qA (A6 (Al (Lp U U ?_)));have h1':Cf N es fl=false:=by simpa using h1
  exact⟨_,G9 HI (by rw[An (H.get at0)];rfl),qaa Value.bool (by unfold Jg;rw[h1'];rfl),H.ext⟩
 .intro h1;replace h1:=Bw h1;have h1':Cf N es fl=true:=by simpa using h1
  refine Ao U (AU AR U (Ah DW U (AG B6 U H at1 U (C0 U U (AA U (.bool _) U (qA (Av _ U ?_ ?_)))))))
  .intro h2;replace h2:=CC h2;refine Ad (Cz (.bool _) NV U U U H at0 (by decide) ?_);rintro w H;refine qA (A6 (Al (Lp U U ?_)));have h2':FQ N pot=false:=by unfold FQ;rw[qay h2,qcn]
   exact⟨_,G9 HI (by rw[An (H.get at0)];rfl),qaa Value.bool (by unfold Jg;rw[h2',qd5,qcn]),H.ext⟩
  .intro h2;replace h2:=CD h2;have hpl:(pot.length:Int)=N:=by simpa using h2
   refine Aq (Aa (Ap (Ad (Ao U (AU AR U (Ae U (qA (Ax (Bn 17171480832 (α:=Nat) (fun i=>[(23,.int .i64 (i:Int))]) (fun i w'=>i<=pot.length/\Ctx w0 [] w' [(b6,Bl 4 [.bool false]),(b3,Bl 51 [.int .i64 N,.slice a es.length c])]/\∀(k:Nat) (x:Int),k<i->pot[k]?=some x->LZ x=true) (fun i=>pot.length - i) 0 U ?_ ?_ ?_)))))))))
   .exact⟨rfl,trivial⟩
   .exact⟨qaf _,H,fun k x h=>absurd h (qaw _)⟩
   .rintro i j w ⟨hi,H,hb⟩;refine Ad (AZ U U (qA (Ap (Av _ U ?_ ?_))))
    .intro h3;replace h3:=AJ h3;obtain⟨x,h7x⟩:=AB (l:=pot) (i:=i);refine Aq (Aa (Ap (Ax (Ad (AM Rp AR Bt U U (by rfl) ?_)))));refine Ba Bm U (((Rp.ext0 H.ext).fld h7x U (j:=0) U)) ?_;refine Af U (qA (Ad (B9 (α:=Unit) 8455716864 (fun _=>[(32,.bool (!LZ x))]) (fun _ w'=>Ctx w0 [] w' [(b6,Bl 4 [.bool false]),(b3,Bl 51 [.int .i64 N,.slice a es.length c])]) U ?_ ?_)))
     .refine Ae U (AZ U U (Au U (AE 29 U ?_ ?_)))
      .intro h1;replace h1:=AJ h1;refine Ag U (Ag U (A8 U (.bool _) U (Ab ?_)));exact⟨rfl,(),rfl,⟨qaa Value.bool (by unfold LZ;rw[qad];simp_all;try omega),trivial⟩,H⟩
      .intro h2;replace h2:=AK h2;refine Ae U (Cp U U (AA U (.bool _) U (Ab ?_)));exact⟨rfl,(),rfl,⟨qaa Value.bool (by unfold LZ;rw[qad];simp_all;try omega),trivial⟩,H⟩
     rintro - j32 w H;refine Av _ U ?_ ?_
     .intro h4;replace h4:=Bv h4;refine Ad (Cz (.bool _) NV U U U H at0 (by decide) ?_);rintro w H;refine qA (A6 (A5 (Al (Al (A5 (Al (Lp U U ?_)))))));have h2':FQ N pot=false:=by unfold FQ;rw[Dw h7x (by simpa using h4),qd5]
      exact⟨_,G9 HI (by rw[An (H.get at0)];rfl),qaa Value.bool (by unfold Jg;rw[h2',qd5,qcn]),H.ext⟩
     .intro h4;replace h4:=Bw h4;refine Aq (A7 (Aa (Ay (Aw U U ?_))));refine Ae U (qA ?_);refine⟨i+1,rfl,⟨rfl,trivial⟩,⟨by omega,H,fun k y hk hy=>?_⟩,by omega⟩
      rcases qap k i with h7|h7
      .exact hb k y h7 hy
      .obtain rfl:k=i:=by omega
       rw[h7x]at hy;cases hy
       simpa using h4
    .intro h3;replace h3:=AK h3
     have hp:FQ N pot=true:=by
      unfold FQ;rw[Eb fun k x hk hx=>hb k x (by omega) hx,qal hpl];rfl
     obtain⟨hl,hri,-⟩:=Cw h1';obtain⟨hN1,hN40,hn200,-⟩:=CB hri;have hfN:Jg N es fl pot=(Fl (CA es) (flE fl) es.length).all (arcB (grE N es) (FH pot)):=by unfold Jg;rw[h1',hp];rfl
     refine Be (Aj (Aj (AH (Aa (Ap (Ad (BV CG C2 U H at1 U (Ao U (Ao U ?_)))))))));have hlt:=H.lt (k:=0) rfl;have hlt1:=H.lt (k:=1) rfl;refine Am qB (YH N a b p es.length c fl.length d pot.length r _) U ?_;rintro v w ⟨x1,x2,x3,rfl,hb1,hb2,hb3,hs1,hs2,hs3,hx37⟩;have hbb:=(H.call hx37);have hx7:=H.ext.trans hx37;have hs07:=H.size;refine qA (Ax ?_);obtain⟨ws,rfl⟩:=qD w;have hk6:=hbb.lt (k:=0) rfl;have hk1:=Bf hb1;have hk2:=Bf hb2;have hk3:=Bf hb3;have hk66:=hbb.get at0;have hs0:=hbb.size;have h60:w0.heap.size<=b6:=(hbb.own _ (qaj ..)).elim (fun h=>by cases h) id
     refine Px (gf:=278) U qB (Vz (b1:=x1) (b2:=x2) (b3:=x3) (a:=a) (b:=b) (p:=p) (c:=c) (d:=d) (r:=r) h1' hp) (by kernel_rfl) (by kernel_rfl) (fun v hv=>by obtain⟨p,-,rfl⟩:=qah.1 hv;rfl)
      (fun i M w'=>(M=fun _=>False)/\Ext [] w0 w'/\w'.heap[b6]?=some (Bl 4 [.bool false])/\w'.heap[x1]?=some (Bl 51 [.int .i64 N,.slice a es.length c])/\w'.heap[x2]?=some (Bl 35 [.slice p pot.length r])/\w'.heap[x3]?=some (Bl 35 [.slice b fl.length d])/\∀(k:Nat) (y:Nat),k<i->(Fl (CA es) (flE fl) es.length)[k]?=some y->arcB (grE N es) (FH pot) y=true)
      (fun w'=>Ext [] w0 w'/\w'.heap[b6]?=some (Bl 4 [.bool false])/\(Fl (CA es) (flE fl) es.length).all (arcB (grE N es) (FH pot))=false) (by simp)
      (fun w2 hx2 _=>⟨_,rfl,hx7.trans hx2,hx2.to hk66 (by simp),hx2.to hb1 (by simp),hx2.to hb2 (by simp),hx2.to hb3 (by simp),fun k y h=>absurd h (qaw _)⟩)
      (fun i M w' w'' hJ hx=>⟨hJ.1,hJ.2.1.then hx (fun z hz => .inr (by simp only[qag,qar,or_false]at hz;omega)),hx.to hJ.2.2.1 (by simp;omega),hx.to hJ.2.2.2.1 (by simp;omega),hx.to hJ.2.2.2.2.1 (by simp;omega),hx.to hJ.2.2.2.2.2.1 (by simp;omega),hJ.2.2.2.2.2.2⟩)
      (fun w' w'' hE hx=>⟨hE.1.then hx (fun z hz => .inr (by simp only[qag,qar,or_false]at hz;omega)),hx.to hE.2.1 (by simp;omega),hE.2.2⟩)
      (fun i M w' hJ=>⟨fun y hy=>by rw[hJ.1]at hy;exact hy.elim,hJ.2.2.2.1,hJ.2.2.2.2.1,hJ.2.2.2.2.2.1,R.ext0 hJ.2.1,Rf.ext0 hJ.2.1,Rp.ext0 hJ.2.1⟩) ?_ ?_ ?_
     .rintro i v _ w hxv ⟨rfl,hx0,g6,g1,g2,g3,hall⟩ hsz;unfold Mm at hxv;rw[qa1]at hxv;obtain⟨y,hy,rfl⟩:=qdn.1 hxv;obtain⟨w1,rfl,H⟩:=qE w;refine Ay (AX Lh H ?_);rintro b9 w - H;refine Bi IB U U U (by exact QA _ _ _) H at0 U ?_;rintro w H;refine Ab ?_;refine⟨H.ext,fun wB hxB=>?_⟩;have hb9:=(H.own _ (qaj ..)).elim (fun h=>by cases h) id;have k9:=hxB.to (H.get at0) (by rw[qab];omega);have k6:=hxB.to (H.ext.to g6 (by simp)) (by rw[qab];omega);have k1:=hxB.to (H.ext.to g1 (by simp)) (by rw[qab];omega);have k2:=hxB.to (H.ext.to g2 (by simp)) (by rw[qab];omega);have k3:=hxB.to (H.ext.to g3 (by simp)) (by rw[qab];omega);have hx0B:=(hx0.trans H.ext).then hxB fun z hz => .inr (by rw[qab.1 hz];omega)
      obtain⟨w2,rfl⟩:=qD wB;replace H:=Ctx.start1 k6;have hn9:b9∉[b6]:=by rw[qab];omega
      refine Ax (Ad (Ah Qv U (Ba Bm U ((H.old (An k9 _) hn9)) ?_)));refine AZ U U (qA (Av _ U ?_ ?_))
      .intro h5;replace h5:=AJ h5;refine Ad (Cz (.bool _) NV U U U H at0 (by decide) ?_);rintro w H;refine qA (A6 (A5 ?_));exact⟨⟨hx0B.then H.ext fun z hz => .inr (by rw[qab.1 hz];exact h60),H.get at0,Dw hy (qay (by omega))⟩,_,H.ext,by rw[qab];omega,by rw[qab];omega⟩
      .intro h5;replace h5:=AK h5;refine Aq (A7 ?_);refine⟨_,⟨rfl,hx0B,k6,k1,k2,k3,fun k z hk hz=>?_⟩,fun _ h=>h.elim,[],.refl _ _,fun _ h=>by cases h⟩
       rcases qap k i with h7|h7
       .exact hall k z h7 hz
       .obtain rfl:k=i:=by omega
        rw[hy]at hz;cases hz;exact qal (by omega)
     .rintro M w ⟨-,hx0,g6,-,-,-,hall⟩ hD;have hlen:(Mm (grE N es) (FH pot) (Fl (CA es) (flE fl) es.length)).length=(Fl (CA es) (flE fl) es.length).length:=by unfold Mm;rw[qak]
      rw[hlen]at hall;replace H:=Ctx.start1 g6;refine A7 (Aa (Ad (Cz (.bool _) NV U U U H at0 (by decide) ?_)));rintro w H;refine qA (A6 (Lp U U (Iw (by rw[H.ext.block _ (Bf hD) (by rw[qab];omega)];exact hD) U fun wF hxF=>?_)));exact⟨_,G9 HI (by rw[An (hxF.to (H.get at0) (by rw[qab];omega))];rfl),qaa Value.bool (by rw[hfN,Eb fun k x hk hx=>hall k x hk hx]),(hx0.then H.ext fun z hz => .inr (by rw[qab.1 hz];exact h60)).then hxF fun z hz => .inr (by rw[qab.1 hz];omega)⟩
     .rintro w ⟨hx0,g6,hall⟩ hD;refine A5 (Al (Lp U U (Iw hD U fun wF hxF=>?_)));exact⟨_,G9 HI (by rw[An (hxF.to g6 (by rw[qab];omega))];rfl),qaa Value.bool (by rw[hfN,hall]),hx0.then hxF fun z hz => .inr (by rw[qab.1 hz];omega)⟩
def JJ(A:List Ar)(v:Nat):Int:=((A.filter fun a=>decide (a.1=v)).length:Nat)
def gv(n:Nat)(D:Int)(s:Lb)(hp:List Tg)(v:Nat):Int:=if s.d v ≠ -1/\s.d v<=D then(hp.count (s.d v,v):Nat)+(s.h v:Nat)else(n:Nat)+1
def psi(n:Nat)(A:List Ar)(D:Int)(s:Lb)(hp:List Tg):Int:=(hp.length:Nat)+BQ (fun v=>JJ A v*gv n D s hp v) n
structure PI(n:Nat)(D:Int)(s:Lb)(hp:List Tg):Prop where
 keys:∀t∈hp,D<=t.1
 item:∀t∈hp,s.d t.2 ≠ -1/\s.d t.2<=t.1
 lab:∀v,s.d v ≠ -1->hp.count (s.d v,v)+s.h v<=n
theorem Ae2(A:List Ar)(v:Nat):0<=JJ A v:=by unfold JJ;omega
theorem Ajo{n:Nat}{D:Int}{s:Lb}{hp hq:List Tg}(h:hp.Perm hq)(v:Nat):gv n D s hp v=gv n D s hq v:=by unfold gv;rw[h.count_eq]
theorem QB{n:Nat}{A:List Ar}{D:Int}{s:Lb}{hp hq:List Tg}(h:hp.Perm hq):psi n A D s hp=psi n A D s hq:=by
 unfold psi;rw[h.length_eq,CF fun i _=>by rw[Ajo h]]
theorem PI.perm{n:Nat}{D:Int}{s:Lb}{hp hq:List Tg}(P:PI n D s hp)(h:hp.Perm hq):PI n D s hq :=
 ⟨fun t ht=>P.keys t (h.mem_iff.2 ht),fun t ht=>P.item t (h.mem_iff.2 ht),fun v hv=>by rw[<-h.count_eq];exact P.lab v hv⟩
theorem gv0{n:Nat}{D:Int}{s:Lb}{hp:List Tg}(v:Nat):0<=gv n D s hp v:=by unfold gv;split <;> omega
theorem Uw{n:Nat}{A:List Ar}{D:Int}{s:Lb}{hp:List Tg}:(hp.length:Int)<=psi n A D s hp:=by
 have:=IC (f:=fun v=>JJ A v*gv n D s hp v) (k:=n) fun i _=>qc7 (Ae2 A i) (gv0 i);unfold psi;omega
theorem PI.pop{n:Nat}{A:List Ar}{D:Int}{s:Lb}{t:Tg}{hp:List Tg}(P:PI n D s (t::hp))(hmin:∀x∈hp,t.1<=x.1)(ht:t.2<n) :
  PI n t.1 s hp/\psi n A t.1 s hp+1<=psi n A D s (t::hp)/\(t.1=s.d t.2->psi n A t.1 s hp+1+JJ A t.2<=psi n A D s (t::hp)):=by
 have hD:=P.keys t (qaj ..)
 have hc:∀v,((t::hp).count (s.d v,v):Int)=(hp.count (s.d v,v):Int)+one (t=(s.d v,v)):=fun v=>by
  rw[qew]
  by_cases e:t=(s.d v,v)
  .rw[if_pos (by rw[e];exact beq_self_eq_true _),one,if_pos e];omega
  .rw[if_neg (by simpa using e),one,if_neg e];omega
 have hone:∀v,0<=one (t=(s.d v,v)):=fun v=>by unfold one;split <;> omega
 have hg:∀v,gv n t.1 s hp v<=gv n D s (t::hp) v/\(t=(s.d v,v)->gv n t.1 s hp v+1<=gv n D s (t::hp) v):=fun v=>by
  have h1:=hc v;have h2:=hone v;have h4:t=(s.d v,v)->one (t=(s.d v,v))=1:=fun e=>if_pos e
  have h5:t=(s.d v,v)->t.1=s.d v/\s.d v ≠ -1:=fun e=>⟨by rw[e],by
   have:=(P.item t (qaj ..)).1;rw[show t.2=v by rw[e]]at this
   exact this⟩
  unfold gv
  by_cases a1:s.d v ≠ -1/\s.d v<=t.1
  .have h3:=P.lab v a1.1;rw[if_pos a1]
   by_cases a2:s.d v ≠ -1/\s.d v<=D
   .rw[if_pos a2];refine⟨by omega,fun e=>?_⟩;have:=h4 e;omega
   .rw[if_neg a2];refine⟨by omega,fun e=>?_⟩;have:=h4 e;omega
  .rw[if_neg a1,if_neg (fun h=>a1 ⟨h.1,by omega⟩)];refine⟨qav _,fun e=>?_⟩;have:=h5 e;exact absurd ⟨this.2,by omega⟩ a1
 refine⟨⟨hmin,fun x hx=>P.item x (qai _ hx),fun v hv=>?_⟩,?_,fun e=>?_⟩
 .have h1:=hc v;have h2:=hone v;have h3:=P.lab v hv;omega
 .have h1:=Li (f:=fun v=>JJ A v*gv n t.1 s hp v) (g:=fun v=>JJ A v*gv n D s (t::hp) v) (k:=n) fun i _=>qdl (hg i).1 (Ae2 A i);unfold psi;rw[qa6];omega
 .have h1:=Li (f:=fun v=>JJ A v*gv n t.1 s hp v) (g:=fun v=>JJ A v*gv n D s (t::hp) v - one (t.2=v)*JJ A v) (k:=n) fun i _=>by
   by_cases e1:t.2=i
   .subst e1;have h2:=qdl ((hg t.2).2 (Prod.ext e rfl)) (Ae2 A t.2);rw[qdk]at h2;rw[one,if_pos rfl];omega
   .have h2:=qdl (hg i).1 (Ae2 A i);rw[one,if_neg e1];omega
  rw[LK,Ip (fun v=>JJ A v) ht]at h1;unfold psi;rw[qa6];omega
theorem PI.relax{n:Nat}{A:List Ar}{D:Int}{s:Lb}{hp:List Tg}{a:Ar}(P:PI n D s hp)(hs:s.d a.1=D)(hD0:0<=D)(hl:0<=a.2.2)(hlow:∀v,s.d v = -1\/0<=s.d v)(hhop:(HU s a).d a.2.1 ≠ -1->(HU s a).h a.2.1+1<=n) :
  PI n D (HU s a) (Jv s a hp)/\psi n A D (HU s a) (Jv s a hp)<=psi n A D s hp+1:=by
 by_cases hb:EJ s a.2.1 (s.d a.1+a.2.2) (s.h a.1+1)
 .have hS:HU s a=ID s a.2.1 (s.d a.1+a.2.2) (s.h a.1+1):=by unfold HU;rw[if_pos hb]
  have hH:Jv s a hp=(s.d a.1+a.2.2,a.2.1)::hp:=by unfold Jv;rw[if_pos hb]
  rw[hS]at hhop;rw[hS,hH];obtain⟨d',hd'⟩:∃d',d'=s.d a.1+a.2.2:=⟨_,rfl⟩;obtain⟨h',hh'⟩:∃h',h'=s.h a.1+1:=⟨_,rfl⟩;obtain⟨v,hv⟩:=qD a.2.1;rw[<-hd',<-hh',<-hv]at hb hhop |-;have hdD:D<=d':=by omega
  have p1:(ID s v d' h').d v=d':=if_pos rfl;have p2:(ID s v d' h').h v=h':=if_pos rfl;have p3:∀x,x≠v->(ID s v d' h').d x=s.d x:=fun x hx=>if_neg hx;have p4:∀x,x≠v->(ID s v d' h').h x=s.h x:=fun x hx=>if_neg hx;have hsD:=hlow a.1;unfold EJ at hb
  have hc1:∀x,x≠v->((d',v)::hp).count (s.d x,x)=hp.count (s.d x,x):=fun x hx=>by
   rw[qew,if_neg (by simp;intro _ h;exact hx h.symm)];rfl
  have hc2:((d',v)::hp).count (d',v)=hp.count (d',v)+1:=by rw[List.count_cons_self]
  have hc3:s.d v = -1\/d'<s.d v->hp.count (d',v)=0:=fun h=>List.count_eq_zero.2 fun hm=>by
   have:=P.item _ hm;dsimp only at this;omega
  have h0:d' ≠ -1:=by omega
  have hh1:=hhop (by rw[p1];exact h0);rw[p2]at hh1
  have hlabv:((d',v)::hp).count (d',v)+h'<=n:=by
   rw[hc2]
   rcases hb with h|h|⟨h,hlt⟩
   .rw[hc3 (.inl h)];omega
   .rw[hc3 (.inr h)];omega
   .have:=P.lab v (by rw[<-h];exact h0);rw[<-h]at this;omega
  have hgx:∀x,gv n D (ID s v d' h') ((d',v)::hp) x<=gv n D s hp x:=fun x=>by
   unfold gv
   by_cases e:x=v
   .subst e;rw[p1,p2]
    by_cases a1:d' ≠ -1/\d'<=D
    .rw[if_pos a1]
     by_cases a2:s.d x ≠ -1/\s.d x<=D
     .rw[if_pos a2];have e3:d'=s.d x/\h'<s.h x:=by omega
      rw[hc2,<-e3.1];omega
     .rw[if_neg a2];omega
    .rw[if_neg a1];rw[if_neg (fun h=>a1 ⟨h0,by omega⟩)];exact qav _
   .rw[p3 x e,p4 x e,hc1 x e];exact qav _
  refine⟨⟨fun t ht=>?_,fun t ht=>?_,fun x hx=>?_⟩,?_⟩
  .rcases qag.1 ht with rfl|ht
   .exact hdD
   .exact P.keys t ht
  .rcases qag.1 ht with rfl|ht
   .rw[p1];exact⟨h0,qav _⟩
   .obtain⟨i1,i2⟩:=P.item t ht
    by_cases e:t.2=v
    .rw[e,p1];rw[e]at i1 i2;exact⟨h0,by omega⟩
    .rw[p3 _ e];exact⟨i1,i2⟩
  .by_cases e:x=v
   .subst e;rw[p1,p2];exact hlabv
   .rw[p3 x e,p4 x e,hc1 x e];rw[p3 x e]at hx;exact P.lab x hx
  .have h1:=Li (f:=fun x=>JJ A x*gv n D (ID s v d' h') ((d',v)::hp) x) (g:=fun x=>JJ A x*gv n D s hp x) (k:=n) fun i _=>qdl (hgx i) (Ae2 A i);unfold psi;rw[qa6];omega
 .have hS:HU s a=s:=by unfold HU;rw[if_neg hb]
  have hH:Jv s a hp=hp:=by unfold Jv;rw[if_neg hb]
  rw[hS,hH];exact⟨P,by omega⟩
abbrev FB(oo od oh ob n:Nat):List Value:=[.slice (some ⟨oo,0,none⟩) n n,.slice (some ⟨od,0,none⟩) n n,.slice (some ⟨oh,0,none⟩) n n,.slice (some ⟨ob,0,none⟩) n n]
def RV(s:Lb)(v:Nat):Int:=(s.h v:Nat)
def Kk(g:Gr)(p:Nat->Int)(a:Nat):Ar:=(g.u a,g.v a,g.len p a)
theorem Aaa{w:World}{bf oo od oh ob n:Nat}{s:Lb}(hf:w.heap[bf]?=some (Bl 294 (FB oo od oh ob n)))(hd:w.heap[od]?=some (Bl 2 (Ce s.d n)))(hh:w.heap[oh]?=some (Bl 3 (Ce (RV s) n)))(v:Nat)(hv:v<n)(_:n<=1000000)(d:Int)(h:Nat) :
  Ret prog 282 #[ptr bf,.int .i64 (v:Int),.int .i64 d,.int .i64 (h:Int)] w fun r w'=>r=.bool (decide (EJ s v d h))/\w=w':=by
 obtain⟨w0,rfl⟩:=qD w;have Rdd:=CE hd;have Rhh:=CE hh;have hhv:RV s v=(s.h v:Nat):=rfl;obtain⟨x,hx⟩:=qD (s.d v);obtain⟨y,hy⟩:=qD (s.h v);have hgd:(tab s.d n)[v]?=some x:=by rw[Cd hv,hx]
 have hgh:(tab (RV s) n)[v]?=some (y:Int):=by rw[Cd hv,hhv,hy]
 have hiff:EJ s v d h↔(x = -1\/d<x\/(d=x/\h<y)):=by rw[hx,hy];exact Iff.rfl
 rw[show decide (EJ s v d h)=decide (x = -1\/d<x\/(d=x/\h<y))from decide_eq_decide.2 hiff];clear hiff;refine A2 (fn:=f282) func282 U [.pointer (some ⟨bf,0,none⟩),.int .i64 (v:Int),.int .i64 d,.int .i64 (h:Int)] U ?_;refine Ad (Ai U (qA (Ad (A9 U (AP U (Ah EP U (Ba Cc U ((by rw[An hf];rfl)) ?_)))))));refine Ae U (Bq AR Bt U U ?_);refine Ba Bm U ((Rdd.fld hgd U (j:=0) U)) (Cj U U (Au U (AE 17 U ?_ ?_)))
 .intro h1;replace h1:=AJ h1;refine Ag U (Ag U (Ag U (Ag U (Ag U (Ag U (Ag U (Ag U (Ag U (A8 U (.bool _) U ?_)))))))));refine Au U (Ag U (Ag U (Ag U (Ag U (Ag U (Ag U (Ag U (Ag U (Ag U ?_)))))))));refine Ag U (Ag U (Ag U (Ag U (Ag U (Ag U (Ag U (Ag U (Ag U (Ag U ?_)))))))));refine Ag U (A8 U (.bool _) U (Ai U (qA (A6 (AD (v:=(.bool _)) U U U ?_)))));exact⟨qaa Value.bool (by clear hgd hgh hx hy;rw[qad];simp_all;try omega),rfl⟩
 .intro h2;replace h2:=AK h2;refine Ae U (A9 U (AP U (Ah EP U (Ba Cc U ((by rw[An hf];rfl)) ?_))));refine Ae U (Bq AR Bt U U ?_);refine Ba Bm U ((Rdd.fld hgd U (j:=0) U)) ?_;refine AZ U U (AA U (.bool _) U (Au U (AE 28 U ?_ ?_)))
  .intro h3;replace h3:=AJ h3;refine Ag U (Ag U (Ag U (Ag U (Ag U (Ag U (Ag U (Ag U (Ag U (Ag U ?_)))))))));refine Ag U (Ag U (Ag U (Ag U (Ag U (Ag U (Ag U (Ag U (Ag U (Ag U ?_)))))))));refine A8 U (.bool _) U (Ai U (qA (A6 (AD (v:=(.bool _)) U U U ?_))));exact⟨qaa Value.bool (by clear hgd hgh hx hy;rw[qad];simp_all;try omega),rfl⟩
  .intro h4;replace h4:=AK h4;refine Ae U (A9 U (AP U (Ah EP U (Ba Cc U ((by rw[An hf];rfl)) ?_))));refine Ae U (Bq AR Bt U U ?_);refine Ba Bm U ((Rdd.fld hgd U (j:=0) U)) ?_;refine Cj U U (Au U (AE 38 U ?_ ?_))
   .intro h5;replace h5:=AJ h5;refine Ae U (A9 U (AP U (Ah IA U (Ba GK U ((by rw[An hf];rfl)) ?_))));refine Ae U (Bq Ct D9 U U ?_);refine Ba B6 U ((Rhh.fld hgh U (j:=0) U)) (AZ U U (A8 U (.bool _) U (AA U (.bool _) U (Ai U (qA (A6 (AD (v:=(.bool _)) U U U ?_)))))));exact⟨qaa Value.bool (by clear hgd hgh hx hy;rw[qad];simp_all;try omega),rfl⟩
   .intro h6;replace h6:=AK h6;refine Ag U (Ag U (Ag U (Ag U (Ag U (Ag U (Ag U (Ag U (Ag U (AA U (.bool _) U ?_)))))))));refine AA U (.bool _) U (Ai U (qA (A6 (AD (v:=(.bool _)) U U U ?_))));exact⟨qaa Value.bool (by clear hgd hgh hx hy;rw[qad];simp_all;try omega),rfl⟩
def Kl(x:Lb × List Tg)(a:Ar):Lb × List Tg:=(HU x.1 a,Jv x.1 a x.2)
def goP(g:Gr)(p:Nat->Int)(s:Lb)(hp:List Tg)(l:List Nat):Lb × List Tg:=(l.map (Kk g p)).foldl Kl (s,hp)
theorem Ae3(g:Gr)(p:Nat->Int)(s:Lb)(hp:List Tg){l:List Nat}{i a:Nat}(h:l[i]?=some a):goP g p s hp (l.take (i+1))=Kl (goP g p s hp (l.take i)) (Kk g p a):=by
 unfold goP;rw[CP h,qax,qej];rfl
abbrev GB(od oh n:Nat)(s:Lb)(bh:Nat)(a:Option Addr)(hn c:Nat)(full:List Value):List (Nat × Obj):=(od,Bl 2 (Ce s.d n))::(oh,Bl 3 (Ce (RV s) n))::HB bh a hn c full
structure GSt where
 i:Nat
 a:Option Addr
 hn:Nat
 c:Nat
 full:List Value
 L:List Tg
theorem Ajp{w:World}{bf oo od oh ob n:Nat}{s:Lb}{g:Gr}{p:Nat->Int}{bh:Nat}{a:Option Addr}{hn c:Nat}{full:List Value}{L:List Tg}{La:List Nat}{au:Option Addr}{cu u:Nat}{outs:List Value}(H0:Ctx w ((GB od oh n s bh a hn c full).map (·.1)) w (GB od oh n s bh a hn c full))(O:OS a hn c 2 full (L.flatMap FG))(hH:HeapL L)(hf:w.heap[bf]?=some (Bl 294 (FB oo od oh ob n)))(hfn:bf∉(GB od oh n s bh a hn c full).map (·.1))(ho:w.heap[oo]?=some (Bl 300 outs))(_hon:oo∉(GB od oh n s bh a hn c full).map (·.1))(hou:outs[u]?=some (.slice au La.length cu))(hun:u<n)(R:Rd w au 4 (HW g p) La)(hRn:La≠[]->(adr au).block∉(GB od oh n s bh a hn c full).map (·.1))(hLa:∀x∈La,g.u x=u/\g.v x<n /\ -1152921504606846976<=g.len p x/\g.len p x<=1152921504606846976)(hhn:hn+La.length<=100000000)(hbd:∀k x,k<=La.length -> -1<=(goP g p s L (La.take k)).1.d x/\(goP g p s L (La.take k)).1.d x<=1152921504606846976/\(goP g p s L (La.take k)).1.h x<=1000000)(hn6:n<=1000000:=by omega):
  Ret prog 269 #[ptr bf,ptr bh,.int .i64 (u:Int)] w fun v w'=>v=.tuple #[]/\∃(a':Option Addr) (hn' c':Nat) (full':List Value) (L':List Tg),L'.Perm (goP g p s L La).2/\HeapL L'/\OS a' hn' c' 2 full' (L'.flatMap FG)/\Ctx w ((GB od oh n s bh a hn c full).map (·.1)) w' (GB od oh n (goP g p s L La).1 bh a' hn' c' full'):=by
 obtain⟨w0,rfl⟩:=qD w;obtain⟨ids,hids⟩:=qD ((GB od oh n s bh a hn c full).map (·.1));rw[<-hids]at H0 hfn _hon hRn |-;have H:=H0;refine A2 (fn:=f269) func269 U [.pointer (some ⟨bf,0,none⟩),.pointer (some ⟨bh,0,none⟩),.int .i64 (u:Int)] U ?_;refine Ad (A9 U (AP U (Ah MZ U (Ba Ub U ((by rw[An hf];rfl)) ?_))));refine Ae U (Bq NS NU U U ?_);refine Ba Xb U ((by rw[An ho];simpa using hou)) ?_;refine AU M1 U (Ae U (qA (Ax (Bn 9444732965739290296704 (α:=GSt) (fun t=>[(17,.int .i64 (t.i:Int))]) (fun t w'=>t.i<=La.length/\t.L.Perm (goP g p s L (La.take t.i)).2/\HeapL t.L/\t.hn<=hn+t.i/\OS t.a t.hn t.c 2 t.full (t.L.flatMap FG)/\Ctx w0 ids w' (GB od oh n (goP g p s L (La.take t.i)).1 bh t.a t.hn t.c t.full)) (fun t=>La.length - t.i) ⟨0,a,hn,c,full,L⟩ U ?_ ?_ ?_))))
 .exact⟨rfl,trivial⟩
 .exact⟨qaf _,.refl _,hH,qan _,O,H⟩
 .rintro⟨i,a,hk,c,full,L'⟩ j w ⟨hi,hp,hH,hkn,O,H⟩;dsimp only at hi hp hH hkn O H;dsimp only;obtain⟨si,hsi⟩:=qD ((goP g p s L (La.take i)).1);obtain⟨hi2,hhi2⟩:=qD ((goP g p s L (La.take i)).2);have hgi:goP g p s L (La.take i)=(si,hi2):=by rw[hsi,hhi2]
  rw[<-hsi]at H;rw[<-hhi2]at hp;refine Ad (AZ U U (qA (Ap (Av _ U ?_ ?_))))
  .intro h1;replace h1:=AJ h1;obtain⟨x,hxa⟩:=AB (l:=La) (i:=i);obtain⟨hxu,hxv,hl1,hl2⟩:=hLa x (qac hxa);have hsn:=Ae3 g p s L hxa;rw[hgi]at hsn;have hbu:=hbd i u hi;have hbv:=hbd i (g.v x) hi;rw[hgi]at hbu hbv;dsimp only at hbu hbv;obtain⟨v,hv⟩:=qD (g.v x);obtain⟨ln,hln⟩:=qD (g.len p x);have hrow:HW g p x=[.int .i64 (x:Int),.int .i64 (u:Int),.int .i64 (v:Int),.int .i64 ln]:=by unfold HW;rw[hxu,hv,hln]
   rw[<-hv]at hxv hbv;rw[<-hln]at hl1 hl2;have hne:La≠[]:=fun h=>by rw[h]at hxa;cases hxa
   refine Aq (Aa (Ap (Ax (Ad (AM R M1 IB U U (by rfl) ?_)))));refine Ca _ Xa IB U U (Rd.rowE (R.ext H.ext (hRn hne)) hxa hrow U) (AX Lh H ?_);rintro b7 w - H;refine Bi IB U U U (by simp[AS]) H at0 U ?_;rintro w H;refine qA ?_;have K0:∀{z},Ext ids w0 z->z.heap[bf]?=some (Bl 294 (FB oo od oh ob n)):=fun hz=>hz.to hf hfn;obtain⟨du,hdu⟩:=qD (si.d u);obtain⟨hu,hhu⟩:=qD (si.h u);have hgd:(tab si.d n)[u]?=some du:=by rw[Cd hun,hdu]
   have hgh:(tab (RV si) n)[u]?=some (hu:Int):=by rw[Cd hun,hhu];rfl
   have har:Kk g p x=(u,v,ln):=by unfold Kk;rw[hxu,<-hv,<-hln]
   rw[<-hdu,<-hhu]at hbu;have RD:=CE (H.drew.get at1);refine CN (fun x=>x=_) Bs U ?_;refine BO U (Bh U (A3 EP U (BF Cc U (by rintro _ rfl;exact((by rw[An (K0 H.drew.ext)];rfl))) ?_)));refine AY U (Bd AR Bt U U ?_);refine BF Bm U (by rintro _ rfl;exact((RD.fld hgd rfl (j:=0) rfl))) ?_;refine A3 Qv U (BS Bm U (by rintro _ rfl;exact H.drew) at0 U ?_);refine CX U U (C6 U (BM ?_));rintro _ rfl;replace H:=H.drew;have RH:=CE (H.drew.get at2);refine EB 12 Bs U U (BO U (A3 Gp U (BS B6 U (by rintro _ rfl;exact H.drew) at0 U ?_)));refine AY U (BO U (Bh U (A3 IA U (BF GK U (by rintro _ rfl;exact((by rw[An (K0 H.drew.ext)];rfl))) ?_))));refine AY U (Bd Ct D9 U U ?_)
   refine BF B6 U (by rintro _ rfl;exact((RH.fld hgh rfl (j:=0) rfl))) ?_;refine CX U U ?_;rw[show(hu:Int)+1=((hu+1:Nat):Int)by omega];refine BM ?_;replace H:=H.drew;refine Am qB (Aaa (K0 H.ext) (H.get at1) (H.get at2) v hxv hn6 (du+ln) (hu+1)) U ?_;rintro rv w ⟨rfl,rfl⟩;refine qA (Av _ U ?_ ?_)
   .intro h2;have h2':EJ si v (du+ln) (hu+1):=by simpa using h2
    have hS:HU si (Kk g p x)=ID si v (du+ln) (hu+1):=by rw[har];unfold HU;dsimp only;rw[<-hdu,<-hhu,if_pos h2']
    have hHH:Jv si (Kk g p x) hi2=(du+ln,v)::hi2:=by rw[har];unfold Jv;dsimp only;rw[<-hdu,<-hhu,if_pos h2']
    refine C1 [([0,1,2,3,4,5,6,7,8,9,10,11,12,13,14,15,16,17,18,19,20,21],22),([23],24)] (fun z=>z.heap[bf]?=some (Bl 294 (FB oo od oh ob n))/\z.heap[b7]?=some (Bl 299 [.int .i64 (x:Int),.int .i64 (u:Int),.int .i64 (v:Int),.int .i64 ln])/\z.heap[oh]?=some (Bl 3 (Ce (RV si) n))) [24] Bs (⟨K0 H.drew.ext,H.drew.get at0,H.drew.get at2⟩) ?_;refine AO U U (BZ U (Bp U (A1 EP U (B5 Cc U (fun _ hx=>(by rw[An hx.1];rfl)) ?_))));refine A1 Gp U (B5 B6 U (fun _ hx=>(by rw[An hx.2.1];rfl)) ?_);refine BZ U (Bp U (A1 IA U (B5 GK U (fun _ hx=>(by rw[An hx.1];rfl)) ?_)));refine A1 Gp U (B5 B6 U (fun _ hx=>(by rw[An hx.2.1];rfl)) ?_);refine Bg U (BZ U (Bp U (A1 IA U (B5 GK U (fun _ hx=>(by rw[An hx.1];rfl)) ?_))));refine Bg U (AV Ct D9 U U ?_)
    refine B5 B6 U (fun _ hx=>((CE hx.2.2).fld hgh rfl (j:=0) rfl)) (E6 U U ?_);rw[show(hu:Int)+1=((hu+1:Nat):Int)by omega];refine AV AR Bt U U (Bb ?_);replace H:=H.drew;refine Cl v (fun q => .int .i64 ((ID si v (du+ln) (hu+1)).d q)) (.int _ _) Bt U U U H at1 (by simp) (by show Value.int _ (if v=v then _ else _)=_;rw[if_pos rfl]) (fun q _ hq=>by show Value.int _ (if q=v then _ else _)=_;rw[if_neg hq]) ?_;rintro w H;refine Ab (BR (⟨K0 H.ext,H.get at0,H.get at2⟩) (AO U U ?_));refine AV Ct D9 U U ?_
    refine Bb (Cl v (fun q => .int .i64 (RV (ID si v (du+ln) (hu+1)) q)) (.int _ _) D9 U U U H at2 (by simp) (by show Value.int _ (((if v=v then _ else _:Nat)):Int)=_;rw[if_pos rfl]) (fun q _ hq=>by show Value.int _ (((if q=v then _ else _:Nat)):Int)=_;rw[if_neg hq];rfl) ?_);rintro w H;refine Ab (BH U (BK (Ay (A9 U (Ae U (Ah Gp U (AG B6 U H at0 U ?_)))))));have Hc:=Ctx.comm (L:=[_,_,_]) (L':=HB bh a hk c full) H;refine Am qB (YF (Ctx.lend (L1:=HB bh a hk c full) (L2:=[_,_,_]) Hc) O hH (du+ln) v) U ?_;rintro rv w ⟨rfl,a',c',f',L2,hp2,hH2,O2,H2⟩;replace H:=Ctx.comm (L:=HB bh a' (hk+1) c' f') (L':=[_,_,_]) (Ctx.back (L1:=HB bh a hk c full) (L2:=[_,_,_]) Hc H2);refine Ab (A7 (Aa (Ay (Aw U U ?_))));refine Ae U (qA ?_)
    refine⟨⟨i+1,a',hk+1,c',f',L2⟩,rfl,⟨rfl,trivial⟩,⟨by dsimp only;omega,?_,hH2,by dsimp only;omega,O2,?_⟩,by dsimp only;omega⟩
    .dsimp only;rw[hsn];show L2.Perm (Jv si (Kk g p x) hi2);rw[hHH];exact hp2.trans (hp.cons _)
    .dsimp only;rw[hsn];show Ctx w0 ids w (GB od oh n (HU si (Kk g p x)) bh a' (hk+1) c' f');rw[hS];exact H.tail
   .intro h2;have h2':¬EJ si v (du+ln) (hu+1):=by simpa using h2
    have hS:HU si (Kk g p x)=si:=by rw[har];unfold HU;dsimp only;rw[<-hdu,<-hhu,if_neg h2']
    have hHH:Jv si (Kk g p x) hi2=hi2:=by rw[har];unfold Jv;dsimp only;rw[<-hdu,<-hhu,if_neg h2']
    refine Aq (A7 (Aa (Ay (Aw U U ?_))));refine Ae U (qA ?_);refine⟨⟨i+1,a,hk,c,full,L'⟩,rfl,⟨rfl,trivial⟩,⟨by dsimp only;omega,?_,hH,by dsimp only;omega,O,?_⟩,by dsimp only;omega⟩
    .dsimp only;rw[hsn];show L'.Perm (Jv si (Kk g p x) hi2);rw[hHH];exact hp
    .dsimp only;rw[hsn];show Ctx w0 ids _ (GB od oh n (HU si (Kk g p x)) bh a hk c full);rw[hS];exact H.tail
  .intro h1;replace h1:=AK h1;refine Be (Aj (Aj (AH (Dd U U ?_))));obtain rfl:i=La.length:=by omega
   rw[qbf]at hsi hhi2;rw[hsi]at H;rw[hhi2]at hp;exact⟨rfl,a,hk,c,full,L',hp,hH,O,H⟩
end Go.Proofs.YtdagmpmdcgedcaaGreat
