/- Part 5 of the proof. -/
import Derived.Test.YtapphbmlkdhnmaaGreatPart2
import Derived.Test.YtapphbmlkdhnmaaGreatPart4
import Derived.Test.YtapphbmlkdhnmaaGreatPart3
/- What flows over: the walks. -/
namespace Go.Proofs.YtapphbmlkdhnmaaGreat
open Go.GV
attribute [local irreducible] A2 W Wq Wt

abbrev ptr (b:Nat):Value := .pointer (some ⟨b,0,none⟩)
/-! ### Tables -/
def tab (f:Nat→Int) (n:Nat):List Int:=(List.range n).map f
theorem Db (f:Nat→Int) (n:Nat):(tab f n).length=n:=by unfold tab; simp
theorem BM {f:Nat→Int} {n i:Nat} (h:i<n):(tab f n)[i]? = some (f i):=Dl h
theorem WT (l:List Int):tab (fun i=>l.getD i 0) l.length=l:=by
 apply List.ext_getElem?
 intro j
 by_cases hj:j<l.length
 ·rw [BM hj,List.getD_eq_getElem?_getD,List.getElem?_eq_getElem hj]; rfl
 ·rw [List.getElem?_eq_none (by rw [Db]; omega),List.getElem?_eq_none (by omega)]
theorem MA {f:Nat→Int} {n i:Nat} {x:Int} (h:(tab f n)[i]? = some x):i<n∧x=f i:=by
 have h1:=CB h
 rw [Db] at h1
 rw [BM h1] at h
 cases h
 exact ⟨h1,rfl⟩
abbrev B4 (f:Nat→Int) (n:Nat):List Value:=(List.range n).map fun i => .int .i64 (f i)
theorem UJ (f:Nat→Int) (n:Nat):B4 f n=(tab f n).flatMap I1:=by
 unfold tab I1
 rw [VL,List.map_map]; rfl
theorem Ct {w:World} {b:Nat} {t:TypeId} {f:Nat→Int} {n:Nat} (h:w.heap[b]? = some (Bl t (B4 f n))):Rd w (some ⟨b,0,none⟩) 1 I1 (tab f n) :=
 Rd.of_bl (r:=[]) (enc:=I1) (xs:=tab f n) h (by rw [UJ,List.append_nil]) fun _ _=>rfl

def e0:Ed:=⟨0,0,0,0⟩
/-- A net as a graph. -/
def grE (N:Int) (es:List Ed):Gr:=⟨N.toNat,es.length,fun i=>(es.getD i e0).f.toNat,fun i=>(es.getD i e0).t.toNat,fun i=>(es.getD i e0).cost⟩
def Cl (es:List Ed) (i:Nat):Int:=(es.getD i e0).cap
def flE (fl:List Int) (i:Nat):Int:=fl.getD i 0
theorem Bn {α:Type} {l:List α} {i:Nat} {x d:α} (h:l[i]? = some x):l.getD i d=x:=by rw [List.getD_eq_getElem?_getD,h]; rfl
def Jt (N:Int) (es:List Ed) (fl:List Int):List Int:=tab (B0 (grE N es) (flE fl)) N.toNat
def Er (N:Int) (es:List Ed) (fl:List Int):Bool:=B1 N es fl && (Jt N es fl).all fun x=>decide (x=0)

/-! ### The edges, one by one -/
theorem WV (N:Int) (a b:Option Addr) (n c m d:Nat) (w:World):Ret Tryz.prog 210 #[CG N a n c,.slice b m d] w fun v w'=>∃ b2 b3,v = .func (.func 224) #[] #[ptr b2,ptr b3]∧w'.heap[b2]? = some (Bl 28 [.int .i64 N,.slice a n c])∧w'.heap[b3]? = some (Bl 29 [.slice b m d])∧w.heap.size≤b2∧w.heap.size≤b3∧b2≠b3∧Ext [] w w':=by
 obtain ⟨w0,rfl⟩:∃ w0,w0=w:=⟨_,rfl⟩
 have H:=Ctx.start w0 []
 refine A1 (fn:=Tryz.f210) Tryz.func210 rfl [CG N a n c,.slice b m d] rfl (by kernel_rfl) ?_
 refine Ag (Bs rfl [.int .i64 N,.slice a n c] (.agg _) rfl rfl H ?_)
 rintro b2 w - H
 refine Bs rfl _ (.slice _ _ _) rfl rfl H ?_
 rintro b3 w - H
 refine BW rfl .nilFunc rfl ?_
 refine Ab (Aa (Ag (C1 rfl [.pointer _,.pointer _] rfl (BW rfl (.func _ _ _) rfl ?_))))
 refine Ab (Aa (A9 (AB (v:=(.func _ _ _)) rfl rfl rfl ?_)))
 have ho:∀ x∈[(b3,Bl 29 [.slice b m d]),(b2,Bl 28 [.int .i64 N,.slice a n c])],w0.heap.size≤x.1:=fun x hx=>(H.own x hx).elim (fun h=>by cases h) id
 exact ⟨b2,b3,rfl,H.get at1,H.get at0,ho (b2,_) (List.mem_cons_of_mem _ (List.mem_cons_self ..)),ho (b3,_) (List.mem_cons_self ..),H.ne at1 at0 (by decide),H.ext⟩
def TF (p:Ed × Int):List Value:=[.agg (Bv p.1).toArray,.int .i64 p.2]
/-- What the rounds leave. -/
structure EdgeK (b2 b3:Nat) (N:Int) (a b:Option Addr) (n c m d:Nat) (es:List Ed) (fl:List Int) (w:World):Prop where
 h2:w.heap[b2]? = some (Bl 28 [.int .i64 N,.slice a n c])
 h3:w.heap[b3]? = some (Bl 29 [.slice b m d])
 R:Rd w a 4 Bv es
 Rf:Rd w b 1 I1 fl
theorem YT {α β:Type} {l:List α} {m:List β} {i:Nat} {x:α} {y:β} (h1:l[i]? = some x) (h2:m[i]? = some y):(l.zip m)[i]? = some (x,y):=by
 rw [List.getElem?_zip_eq_some]; exact ⟨h1,h2⟩

set_option maxRecDepth 20000 in
set_option maxHeartbeats 2000000 in
theorem UK {b2 b3:Nat} {N:Int} {a b:Option Addr} {n c m d:Nat} {es:List Ed} {fl:List Int} (hn:es.length=n) (hm:fl.length=m) (hnm:n=m) (hn2:n≤1000000):Mk Tryz.prog 224 #[ptr b2,ptr b3] [] (fun _ w=>EdgeK b2 b3 N a b n c m d es fl w) ((es.zip fl).map TF):=by
 subst hn hm
 intro l w J E hJ0 hJs hEs hK hY
 obtain ⟨M0,hJ0⟩:=hJ0
 obtain ⟨w0,rfl⟩:∃ w0,w0=w:=⟨_,rfl⟩
 have hlen:((es.zip fl).map TF).length=es.length:=by rw [List.length_map,List.length_zip]; omega
 refine A1 (fn:=Tryz.f224) Tryz.func224 rfl [.func (.yield l) #[] #[],.pointer (some ⟨b2,0,none⟩),.pointer (some ⟨b3,0,none⟩)] rfl (by kernel_rfl) ?_
 have K0:=(hK _ _ _ hJ0).2
 refine Ag (Ah rfl BU rfl (AX rfl CI rfl ((by rw [Ay K0.h2]; rfl)) ?_))
 refine AU rfl Ce rfl (Ad rfl rfl (Ab (Aa (Au (Bi 8388144 (α:=Nat) (fun i=>[(9,.int .i64 (i:Int))]) (fun i w'=>i≤es.length∧∃ M,J i M w') (fun i=>es.length - i) 0 rfl ?_ ?_ ?_)))))
 ·exact ⟨rfl,trivial⟩
 ·exact ⟨Nat.zero_le _,M0,hJ0⟩
 ·rintro i j w ⟨hi,M,hJ⟩
  have KK:=(hK _ _ _ hJ).2
  have R:=KK.R
  have Rf:=KK.Rf
  obtain ⟨w1,rfl⟩:∃ w1,w1=w:=⟨_,rfl⟩
  have H:=Ctx.start w1 []
  refine Ag (AN rfl rfl rfl (Ab (Aa (Aq (Ax _ rfl ?_ ?_)))))
  ·intro h1
   replace h1:=AF h1
   obtain ⟨e,he⟩:=AC (l:=es) (i:=i) (by omega)
   obtain ⟨x,hfx⟩:=AC (l:=fl) (i:=i) (by omega)
   refine Av (Aa (Aq (Au (Ag (Ad rfl rfl (AZ R rfl Ce BC rfl rfl (by omega) (by omega) (by rfl) ?_))))))
   refine Cr _ rfl DX BC rfl rfl ((R.ext0 H.ext).row he rfl) ?_
   refine Bm rfl DH H ?_
   rintro b5 w - H
   refine Af rfl rfl (BD rfl BC rfl rfl rfl (by exact Dk _) H at0 rfl ?_)
   rintro w H
   refine Ab (Aa ?_)
   have hY1:=hY i (TF (e,x)) M w.drew (by rw [List.getElem?_map,YT he hfx]; rfl) (hJs _ _ _ _ hJ (H.ext.trans (Ext.drew [] w)))
   have KR:=(hK _ _ _ (hJs _ _ _ _ hJ (H.ext.trans (Ext.drew [] w)))).2
   refine Ek 6 B3 (by kernel_rfl) rfl rfl ?_
   refine Ky rfl (.func _ _ _) rfl ?_
   refine VK rfl DX BC rfl (by rintro _ rfl; exact H.drew) at0 rfl ?_
   refine Cc rfl BF rfl (by rintro _ rfl; exact ((by rw [Ay KR.h3]; rfl))) ?_
   refine AM rfl rfl (BN Rf rfl AR B2 rfl rfl (by omega) (by omega) (by rfl) ?_)
   refine Cc rfl Bw rfl (by rintro _ rfl; exact ((KR.Rf.fld hfx rfl (j:=0) rfl))) ?_
   refine BQ ?_
   replace H:=H.drew
   refine FD (vs:=TF (e,x)) rfl rfl hY1 rfl ?_
   rintro u w hu
   obtain ⟨bb,rfl,hu1,hu0⟩:∃ bb,u = .bool bb∧(bb=true→∃ M,J (i+1) M w)∧(bb=false→E w):=hu.elim (fun h=>⟨true,h.1,fun _=>let ⟨M',h1,_⟩:=h.2; ⟨M',h1⟩,fun h=>by cases h⟩) (fun h=>⟨false,h.1,(fun h=>by cases h),fun _=>h.2⟩)
   refine Bu rfl rfl (Ab (Aa (Ax _ rfl ?_ ?_)))
   ·intro h2
    replace h2:=Bp h2
    refine A9 (A4 (Al (Al (A4 (EM rfl rfl ?_)))))
    exact .inr (hu0 (by simpa using h2))
   ·intro h2
    replace h2:=Bq h2
    refine Av (A5 (Aa (Aw (Ap rfl rfl rfl (by omega) (by omega) ?_))))
    refine Ad rfl rfl (Ab (Aa ?_))
    exact ⟨i+1,rfl,⟨rfl,trivial⟩,⟨by omega,hu1 (by simpa using h2)⟩,by omega⟩
  ·intro h1
   replace h1:=AG h1
   refine Bd (Aj (Aj (AD (CJ rfl rfl ?_))))
   obtain rfl:i=es.length:=by omega
   exact .inl ⟨M,by rw [hlen]; exact hJ⟩

/-! ### What comes to each node, less what goes -/
theorem Hj {p:Prop} [Decidable p] (h:p):one p=1:=if_pos h
theorem GC {p:Prop} [Decidable p] (h:¬ p):one p=0:=if_neg h
theorem Dd (p:Nat→Int) (v:Nat) (x:Int):upd p v x v=x:=if_pos rfl
theorem DZ {p:Nat→Int} {v:Nat} {x:Int} {u:Nat} (h:u≠v):upd p v x u=p u:=if_neg h
theorem NL (g:Gr) (x:Nat→Int) (k v:Nat):E7 g x (k+1) v=E7 g x k v+(one (g.t k=v) - one (g.f k=v))*x k:=rfl

set_option maxRecDepth 20000 in
set_option maxHeartbeats 4000000 in
theorem YU (N:Int) (a b:Option Addr) (n c m d:Nat) (es:List Ed) (fl:List Int) (w:World) (R:Rd w a 4 Bv es) (hn:es.length=n) (hN:I64 N) (Rf:Rd w b 1 I1 fl) (hm:fl.length=m) (hm2:m≤9223372036854775000) :
  Ret Tryz.prog 179 #[CG N a n c,.slice b m d] w fun v w'=>(B1 N es fl=false→v = .slice none 0 0)∧(B1 N es fl=true→∃ b',v = .slice (some ⟨b',0,none⟩) N.toNat N.toNat∧w'.heap[b']? = some (Bl 2 (B4 (B0 (grE N es) (flE fl)) N.toNat))∧w.heap.size≤b')∧Ext [] w w':=by
 subst hn hm
 obtain ⟨w0,rfl⟩:∃ w0,w0=w:=⟨_,rfl⟩
 have H:=Ctx.start w0 []
 refine Gc (fn:=Tryz.f179) Tryz.func179 rfl [CG N a es.length c,.slice b fl.length d] rfl (by kernel_rfl) ?_
 refine Ag (Bs rfl [.int .i64 N,.slice a es.length c] (.agg _) rfl rfl H ?_)
 rintro b2 w - H
 refine AJ rfl rfl (Ab (Aa (Aq (Ag (Bh rfl Cu Ci rfl H at0 rfl (An rfl rfl (Ao rfl OZ (Jd N a b es.length c fl.length d es fl _ (R.ext0 H.ext) rfl hN (Rf.ext0 H.ext) rfl hm2) rfl ?_)))))))
 rintro v w ⟨rfl,hx10⟩
 replace H:=H.call hx10
 refine Bu rfl rfl (Ab (Aa (Ax _ rfl ?_ ?_)))
 ·intro h1
  replace h1:=Bp h1
  refine Ag (AJ rfl rfl (Ab (Aa (A9 (Al (JU (v:=(.slice _ _ _)) rfl rfl ?_))))))
  have h1':B1 N es fl=false:=by simpa using h1
  exact ⟨fun _=>rfl,fun h=>(by rw [h1'] at h; cases h),H.ext⟩
 ·intro h1
  replace h1:=Bq h1
  have h1':B1 N es fl=true:=by simpa using h1
  obtain ⟨hl,hr,hin⟩:=BE h1'
  obtain ⟨hN1,hN40,hn200,hed,-⟩:=BR hr
  obtain ⟨nn,rfl⟩:∃ nn:Nat,N=(nn:Int):=⟨N.toNat,by omega⟩
  obtain ⟨g,hg⟩:∃ g,g=grE (nn:Int) es:=⟨_,rfl⟩
  obtain ⟨x,hx⟩:∃ x,x=flE fl:=⟨_,rfl⟩
  have hgE:g.E=es.length:=by rw [hg]; rfl
  refine Av (Aa (Ag (Ah rfl Dn rfl (AA rfl BH rfl H at0 rfl (FX rfl AR B2 OV GP rfl rfl (by omega) (by omega) (by omega) (by omega) H ?_)))))
  rintro b14 w - H
  rw [show ((nn:Int)).toNat=nn from rfl,Ex] at H
  refine Bm rfl zc_29 H ?_
  rintro b5 w - H
  refine Cj (.slice _ _ _) rfl WD rfl rfl rfl H at0 (by decide) ?_
  rintro w H
  refine Ab (Aa (Aq (Ag (Bh rfl Cu Ci rfl H at2 rfl (An rfl rfl ?_)))))
  have hlt:=H.lt (k:=0) rfl
  have hlt1:=H.lt (k:=1) rfl
  refine Ao rfl Aco (WV (nn:Int) a b es.length c fl.length d _) rfl ?_
  rintro v w ⟨x2,x3,rfl,hb2,hb3,hs2,hs3,hne,hx17⟩
  have H3:=(H.callAdd hx17 hb2 hs2).add hb3 (.inr (Nat.le_trans H.size hs3)) (fun y hy=>(List.mem_cons.1 hy).elim (fun h=>by rw [h]; exact hne) fun hy=>Nat.ne_of_lt (Nat.lt_of_lt_of_le (Bt (H.blk y hy)) hs3))
  refine Ab (Aa (Au ?_))
  obtain ⟨ws,rfl⟩:∃ z,z=w:=⟨_,rfl⟩
  have hk3:=H3.lt (k:=0) rfl
  have hk2:=H3.lt (k:=1) rfl
  have hk5:=H3.lt (k:=2) rfl
  have hk14:=H3.lt (k:=3) rfl
  have hkb:=H3.lt (k:=4) rfl
  have hs0:=H3.size
  replace H3:=H3.perm (List.perm_middle (l₁:=[_,_,_]) (l₂:=[_]))
  refine JW (gf:=224) rfl Acw (UK (b2:=x2) (b3:=x3) (N:=(nn:Int)) (a:=a) (b:=b) (c:=c) (d:=d) (es:=es) (fl:=fl) rfl rfl hl.symm (by omega)) (by kernel_rfl) (by kernel_rfl) (fun v hv=>by obtain ⟨p,-,rfl⟩:=List.mem_map.1 hv; rfl)
   (fun i M w'=>(M=fun y=>y=b14)∧Ctx w0 [] w' [(b14,Bl 2 (B4 (E7 g x i) nn)),(x3,Bl 29 [.slice b fl.length d]),(x2,Bl 28 [.int .i64 (nn:Int),.slice a es.length c]),(b5,Bl 29 [.slice (some ⟨b14,0,none⟩) nn nn]),(b2,Bl 28 [.int .i64 (nn:Int),.slice a es.length c])]) (fun _=>False) (by simp)
   (fun w2 hx2 _=>⟨_,rfl,H3.call hx2⟩) (fun i M w' w'' hJ hx=>⟨hJ.1,hJ.2.step hx (fun y hy=>?_) fun z hz => .inr ?_⟩) (fun _ _ h _=>h) (fun i M w' hJ=>⟨fun y hy=>?_,hJ.2.get at2,hJ.2.get at1,R.ext0 hJ.2.ext,Rf.ext0 hJ.2.ext⟩) ?_ ?_ (fun _ h _=>h.elim)
  ·simp only [List.mem_cons,List.not_mem_nil,or_false] at hy ⊢
   rcases hy with rfl | rfl | rfl | rfl | rfl <;> (dsimp only; omega)
  ·simp only [List.mem_cons,List.not_mem_nil,or_false] at hz
   omega
  ·rw [hJ.1] at hy
   subst hy
   exact ⟨Bt (hJ.2.get at0),by omega,by omega⟩
  ·rintro i v _ w hxv ⟨rfl,HJ⟩ hsz
   rw [List.getElem?_map] at hxv
   obtain ⟨⟨e,xx⟩,hez,rfl⟩:=Option.map_eq_some_iff.1 hxv
   obtain ⟨he,hfx⟩:=List.getElem?_zip_eq_some.1 hez
   have hi:=CB he
   obtain ⟨hf0,hfN,ht0,htN,-⟩:=CN (hed e (List.mem_of_getElem? he))
   obtain ⟨fn,hfn⟩:∃ fn:Nat,e.f=fn:=⟨e.f.toNat,by omega⟩
   obtain ⟨tn,htn⟩:∃ tn:Nat,e.t=tn:=⟨e.t.toNat,by omega⟩
   have hgf:g.f i=fn:=by rw [hg]; show ((es.getD i e0).f.toNat)=fn; rw [Bn he,hfn]; rfl
   have hgt:g.t i=tn:=by rw [hg]; show ((es.getD i e0).t.toNat)=tn; rw [Bn he,htn]; rfl
   have hxi:x i=xx:=by rw [hx]; exact Bn hfx
   have hxb:∀ j,j<i+1→0≤x j∧x j≤4503599627370496:=fun j hj=>by
    obtain ⟨e',he'⟩:=AC (l:=es) (i:=j) (by omega)
    obtain ⟨y,hy⟩:=AC (l:=fl) (i:=j) (by omega)
    have h3:=hin j e' y he' hy
    have h4:=CN (hed e' (List.mem_of_getElem? he'))
    rw [hx]
    show 0≤fl.getD j 0∧fl.getD j 0≤4503599627370496
    rw [Bn hy]
    omega
   have hbf:=I6 (g:=g) (x:=x) fn (k:=i) fun j hj=>hxb j (by omega)
   have hbt:=I6 (g:=g) (x:=x) tn (k:=i) fun j hj=>hxb j (by omega)
   have hxx:=hxb i (by omega)
   rw [hxi] at hxx
   obtain ⟨o',ho'⟩:∃ o',o'=upd (E7 g x i) fn (E7 g x i fn - xx):=⟨_,rfl⟩
   have hof:o' fn=E7 g x i fn - xx:=by rw [ho',Dd]
   have hon:∀ q,q≠fn→o' q=E7 g x i q:=fun q hq=>by rw [ho',DZ hq]
   have hot : -(201*4503599627370496)≤o' tn∧o' tn≤201*4503599627370496:=by
    by_cases h:tn=fn
    ·rw [h,hof]; omega
    ·rw [hon tn h]; omega
   have hst:∀ q,E7 g x (i+1) q=upd o' tn (o' tn+xx) q:=fun q=>by
    rw [NL,hgf,hgt,hxi]
    by_cases h1:q=tn
    ·subst h1
     rw [Dd,Hj rfl]
     by_cases h2:fn=q
     ·subst h2; rw [Hj rfl,hof]; omega
     ·rw [GC h2,hon q (Ne.symm h2)]; omega
    ·rw [DZ h1,GC (Ne.symm h1)]
     by_cases h2:fn=q
     ·subst h2; rw [Hj rfl,hof]; omega
     ·rw [GC h2,hon q (Ne.symm h2)]; omega
   obtain ⟨w1,rfl⟩:∃ z,z=w:=⟨_,rfl⟩
   have H:=Ctx.start w1 []
   refine Ag (Bm rfl DH H ?_)
   rintro b6 w - H
   refine BD rfl BC rfl rfl rfl (by exact Dk _) H at0 rfl ?_
   rintro w H
   refine Ab (Aa (Aw (Af rfl rfl (Ab ?_))))
   refine ⟨H.ext,fun wB hxB=>?_⟩
   have hb6:=(H.own _ (List.mem_cons_self ..)).elim (fun h=>by cases h) id
   have HB:=((HJ.callAdd H.ext (H.get at0) hb6).step hxB (fun y hy=>by
    simp only [List.mem_cons,List.not_mem_nil,or_false] at hy ⊢
    rcases hy with rfl | rfl | rfl | rfl | rfl | rfl <;> (dsimp only; omega)) (fun z hz => .inr (by rw [List.mem_singleton.1 hz]; omega))).perm (List.Perm.swap _ _ _)
   obtain ⟨w2,rfl⟩:∃ z,z=wB:=⟨_,rfl⟩
   have hb6B:=HB.get at1
   have hb5B:=HB.get at4
   have hn6:b6∉[b14]:=by rw [List.mem_singleton]; omega
   have hn5:b5∉[b14]:=by rw [List.mem_singleton]; exact HB.ne at4 at0 (by decide)
   have H:=Ctx.lend (L1:=[_]) (L2:=_) HB
   dsimp only [List.map] at H
   refine Au (Ag (AX rfl BF rfl ((H.old (Ay hb5B _) hn5)) ?_))
   refine Ah rfl Dp rfl (AX rfl BH rfl ((H.old (Ay hb6B _) hn6)) ?_)
   refine Bb rfl AR B2 rfl rfl (by omega) (by omega) ?_
   refine RM fn _ rfl Bw rfl H at0 (by rw [hfn]; simp) (by omega) rfl ?_
   refine Ad rfl rfl (Bf rfl rfl rfl (by omega) (by omega) ?_)
   refine Bb rfl AR B2 rfl rfl (by omega) (by omega) ?_
   refine BP fn (fun q => .int .i64 (o' q)) (.int _ _) rfl B2 rfl rfl rfl H at0 (by rw [hfn]; simp) (by omega) (by rw [hof]) (fun q _ hq=>by rw [hon q hq]) ?_
   rintro w H
   refine Ab (Aa (Aw (AX rfl BF rfl ((H.old (Ay hb5B _) hn5)) ?_)))
   refine Ah rfl Dz rfl (AX rfl BH rfl ((H.old (Ay hb6B _) hn6)) ?_)
   refine Bb rfl AR B2 rfl rfl (by omega) (by omega) ?_
   refine RM tn _ rfl Bw rfl H at0 (by rw [htn]; simp) (by omega) rfl ?_
   refine Ad rfl rfl (Ap rfl rfl rfl (by omega) (by omega) ?_)
   refine Bb rfl AR B2 rfl rfl (by omega) (by omega) ?_
   refine BP tn (fun q => .int .i64 (E7 g x (i+1) q)) (.int _ _) rfl B2 rfl rfl rfl H at0 (by rw [htn]; simp) (by omega) (by rw [hst,Dd]) (fun q _ hq=>by rw [hst,DZ hq]) ?_
   rintro w H
   refine Ab (A5 ?_)
   exact ⟨_,⟨rfl,((Ctx.back (L1:=[_]) (L1':=[_]) HB H).perm (List.Perm.swap _ _ _)).tail⟩,fun y h => .inl h,[b14],H.ext,fun y hy => .inl (List.mem_singleton.1 hy)⟩
  ·rintro M w ⟨-,HJ⟩ hD
   rw [List.length_map,List.length_zip,hl,Nat.min_self] at HJ
   replace H:=HJ
   refine A5 (Aa (Ag (AA rfl BF rfl H at3 rfl (AJ rfl rfl (Ab (Aa (A9 (JU (v:=(.slice _ _ _)) rfl rfl (Gd hD rfl fun wF hxF=>?_)))))))))
   refine ⟨fun h=>(by rw [h1'] at h; cases h),fun _=>⟨b14,rfl,?_,?_⟩,H.ext.then hxF fun z hz => .inr (by rw [List.mem_singleton.1 hz]; omega)⟩
   ·rw [hxF.block b14 (Bt (H.get at0)) (by rw [List.mem_singleton]; omega)]
    have h3:=H.get at0
    rw [show B0 (grE (nn:Int) es) (flE fl)=E7 g x es.length by rw [hg,hx]; rfl]
    exact h3
   ·exact (H.own (b14,_) (List.mem_of_getElem? (i:=0) rfl)).elim (fun h=>by cases h) id

theorem WX (N:Int) (a b:Option Addr) (n c m d:Nat) (es:List Ed) (fl:List Int) (w:World) (R:Rd w a 4 Bv es) (hn:es.length=n) (hN:I64 N) (Rf:Rd w b 1 I1 fl) (hm:fl.length=m) (hm2:m≤9223372036854775000) :
  Ret Tryz.prog 131 #[CG N a n c,.slice b m d] w fun v w'=>v = .bool (Er N es fl)∧Ext [] w w':=by
 subst hn hm
 obtain ⟨w0,rfl⟩:∃ w0,w0=w:=⟨_,rfl⟩
 have H:=Ctx.start w0 []
 refine A1 (fn:=Tryz.f131) Tryz.func131 rfl [CG N a es.length c,.slice b fl.length d] rfl (by kernel_rfl) ?_
 refine Ag (Bs rfl [.int .i64 N,.slice a es.length c] (.agg _) rfl rfl H ?_)
 rintro b2 w - H
 refine Ai rfl rfl (Ab (Aa (Aq (Ag (Bh rfl Cu Ci rfl H at0 rfl (An rfl rfl (Ao rfl OZ (Jd N a b es.length c fl.length d es fl _ (R.ext0 H.ext) rfl hN (Rf.ext0 H.ext) rfl hm2) rfl ?_)))))))
 rintro v w ⟨rfl,hx9⟩
 replace H:=H.call hx9
 refine Bu rfl rfl (Ab (Aa (Ax _ rfl ?_ ?_)))
 ·intro h1
  replace h1:=Bp h1
  refine Ag (Ai rfl rfl (Ab (Aa (A9 (Al (AB (v:=(.bool _)) rfl rfl rfl ?_))))))
  have h1':B1 N es fl=false:=by simpa using h1
  exact ⟨congrArg Value.bool (by unfold Er; rw [h1']; rfl),H.ext⟩
 ·intro h1
  replace h1:=Bq h1
  have h1':B1 N es fl=true:=by simpa using h1
  have hfN:Er N es fl=(Jt N es fl).all fun x=>decide (x=0):=by unfold Er; rw [h1']; rfl
  obtain ⟨hN1,hN40,-⟩:=BR (BE h1').2.1
  obtain ⟨nn,rfl⟩:∃ nn:Nat,N=(nn:Int):=⟨N.toNat,by omega⟩
  refine Av (Aa (Aq (Ag (Bh rfl Cu Ci rfl H at0 rfl (An rfl rfl (Ao rfl Ab5 (YU (nn:Int) a b es.length c fl.length d es fl _ (R.ext0 H.ext) rfl hN (Rf.ext0 H.ext) rfl hm2) rfl ?_))))))
  rintro v w ⟨-,hv,hx13⟩
  obtain ⟨b13,rfl,hb13,hs13⟩:=hv h1'
  replace H:=H.call hx13
  have R7:=Ct hb13
  rw [show ((nn:Int)).toNat=nn from rfl] at R7 ⊢
  refine AU rfl AR rfl (Ad rfl rfl (Ab (Aa (Au ?_))))
  have hov:Jt (nn:Int) es fl=tab (B0 (grE (nn:Int) es) (flE fl)) nn:=rfl
  rw [← hov] at R7
  have hlen:(Jt (nn:Int) es fl).length=nn:=by rw [hov,Db]
  obtain ⟨w7,rfl⟩:∃ z,z=w:=⟨_,rfl⟩
  refine Bi 4161616 (α:=Nat) (fun i=>[(15,.int .i64 (i:Int))]) (fun i w'=>i≤nn∧Ext [] w7 w'∧Ctx w0 [] w' [(b2,Bl 28 [.int .i64 (nn:Int),.slice a es.length c])]∧∀ (k:Nat) (x:Int),k<i→(Jt (nn:Int) es fl)[k]? = some x→decide (x=0)=true) (fun i=>nn - i) 0 rfl ?_ ?_ ?_
  ·exact ⟨rfl,trivial⟩
  ·exact ⟨Nat.zero_le _,.refl _ _,H,fun k x h=>absurd h (Nat.not_lt_zero _)⟩
  ·rintro i j w ⟨hi,hx7,H,hb⟩
   refine Ag (AN rfl rfl rfl (Ab (Aa (Aq (Ax _ rfl ?_ ?_)))))
   ·intro h2
    replace h2:=AF h2
    obtain ⟨x,h7x⟩:=AC (l:=Jt (nn:Int) es fl) (i:=i) (by omega)
    refine Av (Aa (Aq (Au (Ag (AZ R7 rfl AR B2 rfl rfl (by omega) (by omega) (by omega) ?_)))))
    refine AX rfl Bw rfl (((R7.ext0 hx7).fld h7x rfl (j:=0) rfl)) ?_
    refine Af rfl rfl (Ab (Aa (Ag (Ad rfl rfl (CH rfl rfl rfl (Ab (Aa (Ax _ rfl ?_ ?_))))))))
    ·intro h3
     replace h3:=CO h3
     refine Ag (Ai rfl rfl (Ab (Aa (A9 (A4 (Al (Al (A4 (Al (AB (v:=(.bool _)) rfl rfl rfl ?_))))))))))
     exact ⟨congrArg Value.bool (by rw [hfN,D5 h7x (decide_eq_false (by simpa using h3))]),H.ext⟩
    ·intro h3
     replace h3:=CP h3
     refine Av (A5 (Aa (Aw (Ap rfl rfl rfl (by omega) (by omega) ?_))))
     refine Ad rfl rfl (Ab (Aa ?_))
     refine ⟨i+1,rfl,⟨rfl,trivial⟩,⟨by omega,hx7,H,fun k y hk hy=>?_⟩,by omega⟩
     rcases Nat.lt_or_ge k i with h7 | h7
     ·exact hb k y h7 hy
     ·obtain rfl:k=i:=by omega
      rw [h7x] at hy
      cases hy
      simpa using h3
   ·intro h2
    replace h2:=AG h2
    refine Bd (Aj (Aj (AD (Aa (Ag (Ai rfl rfl (Ab (Aa (A9 (AB (v:=(.bool _)) rfl rfl rfl ?_))))))))))
    exact ⟨congrArg Value.bool (by rw [hfN,E8 fun k x hk hx=>hb k x (by omega) hx]),H.ext⟩
theorem Fq {N:Int} {es:List Ed} {fl:List Int} (h:Er N es fl=true):B1 N es fl=true∧∀ v,v<N.toNat→B0 (grE N es) (flE fl) v=0:=by
 unfold Er Jt at h
 rw [Bool.and_eq_true] at h
 refine ⟨h.1,fun v hv=>?_⟩
 have h2:=List.all_eq_true.1 h.2 _ (List.mem_of_getElem? (BM hv))
 simpa using h2

end Go.Proofs.YtapphbmlkdhnmaaGreat

/- Whether what flows is the best: the walks. -/
namespace Go.Proofs.YtapphbmlkdhnmaaGreat
open Go.GV
attribute [local irreducible] A2 W Wq Wt

def I8 (x:Int):Bool:=decide (-1099511627776≤x) && decide (x≤1099511627776)
def E3 (N:Int) (pot:List Int):Bool:=pot.all I8 && decide ((pot.length:Int)=N)
def Q0 (N:Int) (es:List Ed) (pot:List Int) (k:Int):Int:=(EX N es k).2.2+pot.getD (EX N es k).1.toNat 0 - pot.getD (EX N es k).2.1.toNat 0
def EO (N:Int) (es:List Ed) (fl pot:List Int) (k:Nat):Bool := !(decide (Q0 N es pot (k:Int)<0) && decide (0<Js N es fl (k:Int)))
def FQ (N:Int) (es:List Ed) (fl pot:List Int):Bool:=(List.range (2*es.length)).all (EO N es fl pot)
def Ea (N:Int) (es:List Ed) (fl pot:List Int):Bool:=BV N es && (Er N es fl && (E3 N pot && FQ N es fl pot))

set_option maxRecDepth 20000 in
theorem YV (N:Int) (a p:Option Addr) (n c m d:Nat) (pot:List Int) (w:World) (R:Rd w p 1 I1 pot) (hm:pot.length=m) (hm2:m≤9223372036854775000) :
  Ret Tryz.prog 133 #[CG N a n c,.slice p m d] w fun v w'=>v = .bool (E3 N pot)∧Ext [] w w':=by
 subst hm
 obtain ⟨w0,rfl⟩:∃ w0,w0=w:=⟨_,rfl⟩
 have H:=Ctx.start w0 []
 refine A1 (fn:=Tryz.f133) Tryz.func133 rfl [CG N a n c,.slice p pot.length d] rfl (by kernel_rfl) ?_
 refine Ag (Bs rfl [.int .i64 N,.slice a n c] (.agg _) rfl rfl H ?_)
 rintro b2 w - H
 refine Ai rfl rfl (Ab (Aa (Aq (Ag (An rfl rfl (AU rfl AR rfl (Ad rfl rfl (Ab (Aa (Au (Bi 1048144 (α:=Nat) (fun i=>[(9,.int .i64 (i:Int))]) (fun i w'=>i≤pot.length∧Ctx w0 [] w' [(b2,Bl 28 [.int .i64 N,.slice a n c])]∧∀ (k:Nat) (x:Int),k<i→pot[k]? = some x→I8 x=true) (fun i=>pot.length - i) 0 rfl ?_ ?_ ?_)))))))))))
 ·exact ⟨rfl,trivial⟩
 ·exact ⟨Nat.zero_le _,H,fun k x h=>absurd h (Nat.not_lt_zero _)⟩
 ·rintro i j w ⟨hi,H,hb⟩
  refine Ag (AN rfl rfl rfl (Ab (Aa (Aq (Ax _ rfl ?_ ?_)))))
  ·intro h2
   replace h2:=AF h2
   obtain ⟨x,h7x⟩:=AC (l:=pot) (i:=i) (by omega)
   refine Av (Aa (Aq (Au (Ag (AZ R rfl AR B2 rfl rfl (by omega) (by omega) (by rfl) ?_)))))
   refine AX rfl Bw rfl (((R.ext0 H.ext).fld h7x rfl (j:=0) rfl)) ?_
   refine Af rfl rfl (Ab (Aa (Ag (B5 (α:=Unit) 516096 (fun _=>[(18,.bool (!I8 x))]) (fun _ w'=>Ctx w0 [] w' [(b2,Bl 28 [.int .i64 N,.slice a n c])]) rfl ?_ ?_))))
   ·refine Ad rfl rfl (AN rfl rfl rfl (Ak rfl rfl (A8 15 rfl ?_ ?_)))
    ·intro h1
     replace h1:=AF h1
     refine Ae rfl (Ae rfl (Am rfl rfl (.bool _) rfl (Ab ?_)))
     exact ⟨rfl,(),rfl,⟨congrArg Value.bool (by unfold I8; rw [Bool.eq_iff_iff]; simp_all; try omega),trivial⟩,H⟩
    ·intro h2
     replace h2:=AG h2
     refine Ad rfl rfl (C0 rfl rfl rfl (A3 rfl rfl (.bool _) rfl (Ab ?_)))
     exact ⟨rfl,(),rfl,⟨congrArg Value.bool (by unfold I8; rw [Bool.eq_iff_iff]; simp_all; try omega),trivial⟩,H⟩
   rintro - j18 w H
   refine Ax _ rfl ?_ ?_
   ·intro h3
    replace h3:=Bp h3
    refine Ag (Ai rfl rfl (Ab (Aa (A9 (A4 (Al (Al (A4 (Al (AB (v:=(.bool _)) rfl rfl rfl ?_))))))))))
    exact ⟨congrArg Value.bool (by unfold E3; rw [D5 h7x (by simpa using h3)]; rfl),H.ext⟩
   ·intro h3
    replace h3:=Bq h3
    refine Av (A5 (Aa (Aw (Ap rfl rfl rfl (by omega) (by omega) ?_))))
    refine Ad rfl rfl (Ab (Aa ?_))
    refine ⟨i+1,rfl,⟨rfl,trivial⟩,⟨by omega,H,fun k y hk hy=>?_⟩,by omega⟩
    rcases Nat.lt_or_ge k i with h7 | h7
    ·exact hb k y h7 hy
    ·obtain rfl:k=i:=by omega
     rw [h7x] at hy
     cases hy
     simpa using h3
  ·intro h2
   replace h2:=AG h2
   refine Bd (Aj (Aj (AD (Aa (Ag (An rfl rfl (AU rfl AR rfl (Ah rfl Dn rfl (AA rfl BH rfl H at0 rfl (BX rfl rfl rfl (Ai rfl rfl (Ab (Aa (A9 (AB (v:=(.bool _)) rfl rfl rfl ?_)))))))))))))))
   exact ⟨congrArg Value.bool (by unfold E3; rw [E8 fun k x hk hx=>hb k x (by omega) hx,Bool.true_and]),H.ext⟩

theorem L7 {N:Int} {es:List Ed} (hr:BV N es=true) {k:Nat} (hk:k<2*es.length):∃ e,es[k / 2]? = some e∧EX N es (k:Int)=EL e k∧0≤(EL e k).1∧(EL e k).1<N∧0≤(EL e k).2.1∧(EL e k).2.1<N ∧ -1000≤(EL e k).2.2∧(EL e k).2.2≤1000:=by
 obtain ⟨e,he⟩:=AC (l:=es) (i:=k / 2) (by omega)
 have hco:=CN ((BR hr).2.2.2.1 e (List.mem_of_getElem? he))
 refine ⟨e,he,?_,?_⟩
 ·unfold EX
  rw [if_pos (by rw [hr,Bool.and_true]; unfold Hi; simp; omega),Int.toNat_natCast,Bn he]
 ·unfold EL
  split <;> (dsimp only; omega)
theorem JE {N:Int} {pot:List Int} (hp:E3 N pot=true):(pot.length:Int)=N∧∀ (i:Nat) (x:Int),pot[i]? = some x → -1099511627776≤x∧x≤1099511627776:=by
 unfold E3 I8 at hp
 simp only [Bool.and_eq_true,decide_eq_true_eq,List.all_eq_true] at hp
 exact ⟨hp.2,fun i x hx=>hp.1 x (List.mem_of_getElem? hx)⟩
theorem L8 {N:Int} {es:List Ed} {fl:List Int} (hw:B1 N es fl=true) {k:Nat} (hk:k<2*es.length):∃ e x,es[k / 2]? = some e∧fl[k / 2]? = some x∧Js N es fl (k:Int)=I7 e x k∧0≤x∧x≤e.cap∧e.cap≤4503599627370496:=by
 obtain ⟨hl,hri,hin⟩:=BE hw
 obtain ⟨e,he⟩:=AC (l:=es) (i:=k / 2) (by omega)
 obtain ⟨x,hx⟩:=AC (l:=fl) (i:=k / 2) (by omega)
 have hco:=CN ((BR hri).2.2.2.1 e (List.mem_of_getElem? he))
 have:=hin _ e x he hx
 refine ⟨e,x,he,hx,?_,this.1,this.2,by omega⟩
 unfold Js
 rw [if_pos (by rw [hw,Bool.and_true]; unfold Hi; simp; omega),Int.toNat_natCast,Bn he,Bn hx]
abbrev MB (b p:Option Addr) (m d q r:Nat):Value := .agg #[.slice b m d,.slice p q r]

set_option maxRecDepth 20000 in
set_option maxHeartbeats 2000000 in
theorem WY (N:Int) (a b p:Option Addr) (n c m d q r:Nat) (es:List Ed) (fl pot:List Int) (w:World) (R:Rd w a 4 Bv es) (hn:es.length=n) (hN:I64 N) (Rf:Rd w b 1 I1 fl) (hm:fl.length=m) (Rp:Rd w p 1 I1 pot) (hq:pot.length=q)
  (hr:BV N es=true) (hw:B1 N es fl=true) (hp:E3 N pot=true) :
  Ret Tryz.prog 135 #[CG N a n c,MB b p m d q r] w fun v w'=>v = .bool (FQ N es fl pot)∧Ext [] w w':=by
 subst hn hm hq
 obtain ⟨w0,rfl⟩:∃ w0,w0=w:=⟨_,rfl⟩
 have H:=Ctx.start w0 []
 obtain ⟨hN1,hN40,hn200,-⟩:=BR hr
 obtain ⟨hpl,hpb⟩:=JE hp
 have hfl:=(BE hw).1
 refine A1 (fn:=Tryz.f135) Tryz.func135 rfl [CG N a es.length c,MB b p fl.length d pot.length r] rfl (by kernel_rfl) ?_
 refine Ag (Bs rfl [.int .i64 N,.slice a es.length c] (.agg _) rfl rfl H ?_)
 rintro b2 w - H
 refine Bs rfl [.slice b fl.length d,.slice p pot.length r] (.agg _) rfl rfl H ?_
 rintro b3 w - H
 refine Ai rfl rfl (Ab (Aa (Aq (Ag (Ah rfl BU rfl (AA rfl CI rfl H at1 rfl (AU rfl Ce rfl (Cf rfl rfl rfl (by omega) (by omega) ?_))))))))
 refine Ad rfl rfl (Ab (Aa (Au (Bi 70368744169968 (α:=Nat) (fun i=>[(13,.int .i64 (i:Int))]) (fun i w'=>i≤2*es.length∧Ctx w0 [] w' [(b3,Bl 31 [.slice b fl.length d,.slice p pot.length r]),(b2,Bl 28 [.int .i64 N,.slice a es.length c])]∧∀ k,k<i→EO N es fl pot k=true) (fun i=>2*es.length - i) 0 rfl ?_ ?_ ?_))))
 ·exact ⟨rfl,trivial⟩
 ·exact ⟨Nat.zero_le _,H,fun k h=>absurd h (Nat.not_lt_zero _)⟩
 ·rintro i j w ⟨hi,H,hb⟩
  refine Ag (AN rfl rfl rfl (Ab (Aa (Aq (Ax _ rfl ?_ ?_)))))
  ·intro h2
   replace h2:=AF h2
   have hi2:i<2*es.length:=by omega
   obtain ⟨e,he,hE,q1,q2,q3,q4,q5,q6⟩:=L7 hr hi2
   obtain ⟨e',x,he',hx,hro,r1,r2,r3⟩:=L8 hw hi2
   obtain ⟨un,hun⟩:∃ un:Nat,(EL e i).1=un:=⟨(EL e i).1.toNat,by omega⟩
   obtain ⟨vn,hvn⟩:∃ vn:Nat,(EL e i).2.1=vn:=⟨(EL e i).2.1.toNat,by omega⟩
   obtain ⟨pu,hpu⟩:=AC (l:=pot) (i:=un) (by omega)
   obtain ⟨pv,hpv⟩:=AC (l:=pot) (i:=vn) (by omega)
   have hbu:=hpb _ _ hpu
   have hbv:=hpb _ _ hpv
   have hli:Q0 N es pot (i:Int)=(EL e i).2.2+pu - pv:=by
    unfold Q0
    rw [hE,hun,hvn,Int.toNat_natCast,Int.toNat_natCast,Bn hpu,Bn hpv]
   have hgo:EO N es fl pot i=true→∀ k,k<i+1→EO N es fl pot k=true:=fun h3 k hk=>by
    rcases Nat.lt_or_ge k i with h7 | h7
    ·exact hb k h7
    ·obtain rfl:k=i:=by omega
     exact h3
   refine Av (Aa (Aq (Au (Ag (Ad rfl rfl (Af rfl rfl (Ab (Aa (Ag (Bh rfl Cu Ci rfl H at1 rfl (Ad rfl rfl ?_)))))))))))
   refine Ao rfl Sj (Pj N a es.length c es _ (R.ext0 H.ext) rfl (by omega) hN (i:Int)) rfl ?_
   rintro v w ⟨rfl,hx19⟩
   replace H:=H.call hx19
   rw [hE,hun,hvn]
   refine BG rfl rfl (A7 rfl rfl rfl (A7 rfl rfl rfl (A7 rfl rfl rfl (Af rfl rfl (Af rfl rfl (Af rfl rfl (Ab (Aa (Ek 19 B3 (by kernel_rfl) rfl rfl ?_)))))))))
   refine AM rfl rfl (A6 rfl F7 rfl (BZ rfl BF rfl (by rintro _ rfl; exact H.drew) at0 rfl ?_))
   refine AM rfl rfl (BN Rp rfl AR B2 rfl rfl (by omega) (by omega) (by rfl) ?_)
   refine Cc rfl Bw rfl (by rintro _ rfl; exact (((Rp.ext0 (H.ext.trans (Ext.drew [] _))).fld hpu rfl (j:=0) rfl))) ?_
   refine CE rfl rfl rfl (by omega) (by omega) ?_
   refine A6 rfl F7 rfl (BZ rfl BF rfl (by rintro _ rfl; exact H.drew) at0 rfl ?_)
   refine AM rfl rfl (BN Rp rfl AR B2 rfl rfl (by omega) (by omega) (by rfl) ?_)
   refine Cc rfl Bw rfl (by rintro _ rfl; exact (((Rp.ext0 (H.ext.trans (Ext.drew [] _))).fld hpv rfl (j:=0) rfl))) ?_
   refine CW rfl rfl rfl (by omega) (by omega) ?_
   refine KS rfl rfl rfl (Di rfl rfl (Dc 37 rfl ?_ ?_))
   ·intro h3
    replace h3:=AF h3
    refine VK rfl Cu Ci rfl (by rintro _ rfl; exact H.drew) at1 rfl ?_
    refine A6 rfl Fp rfl (BZ rfl BF rfl (by rintro _ rfl; exact H.drew) at0 rfl ?_)
    refine AM rfl rfl (BQ ?_)
    replace H:=H.drew
    refine Ao rfl Sh (Pk N a b es.length c fl.length d es fl _ (R.ext0 H.ext) rfl (by omega) hN (Rf.ext0 H.ext) rfl (by omega) (i:Int)) rfl ?_
    rintro v w ⟨rfl,hx42⟩
    replace H:=H.call hx42
    refine C0 rfl rfl rfl (Am rfl rfl (.bool _) rfl (Ab (Aa (Ax _ rfl ?_ ?_))))
    ·intro h4
     replace h4:=AF h4
     refine Ag (Ai rfl rfl (Ab (Aa (A9 (A4 (Al (Al (A4 (Al (AB (v:=(.bool _)) rfl rfl rfl ?_))))))))))
     exact ⟨congrArg Value.bool (by unfold FQ; rw [D5 (List.getElem?_range hi2) (by unfold EO; rw [hli,decide_eq_true h3,decide_eq_true h4]; rfl)]),H.ext⟩
    ·intro h4
     replace h4:=AG h4
     refine Av (A5 (Aa (Aw (Ap rfl rfl rfl (by omega) (by omega) ?_))))
     refine Ad rfl rfl (Ab (Aa ?_))
     exact ⟨i+1,rfl,⟨rfl,trivial⟩,⟨by omega,H,hgo (by unfold EO; rw [hli,decide_eq_false h4,Bool.and_false]; rfl)⟩,by omega⟩
   ·intro h3
    replace h3:=AG h3
    refine Az rfl (Az rfl (Az rfl (Az rfl (BQ ?_))))
    replace H:=H.drew
    refine Ae rfl (Ae rfl (A3 rfl rfl (.bool _) rfl (Ab (Aa (Fg rfl (Av (A5 (Aa (Aw (Ap rfl rfl rfl (by omega) (by omega) ?_))))))))))
    refine Ad rfl rfl (Ab (Aa ?_))
    exact ⟨i+1,rfl,⟨rfl,trivial⟩,⟨by omega,H,hgo (by unfold EO; rw [hli,decide_eq_false h3,Bool.false_and]; rfl)⟩,by omega⟩
  ·intro h2
   replace h2:=AG h2
   refine Bd (Aj (Aj (AD (Aa (Ag (Ai rfl rfl (Ab (Aa (A9 (AB (v:=(.bool _)) rfl rfl rfl ?_))))))))))
   exact ⟨congrArg Value.bool (by unfold FQ; rw [List.all_eq_true.2 fun k hk=>hb k (by have:=List.mem_range.1 hk; omega)]),H.ext⟩

end Go.Proofs.YtapphbmlkdhnmaaGreat

/- Whether it is the best: the walk. -/
namespace Go.Proofs.YtapphbmlkdhnmaaGreat
open Go.GV
attribute [local irreducible] A2 W Wq Wt

theorem Hk {w:World} {b:Nat} {t:TypeId} {l:List Value} (h:w.heap[b]? = some (Bl t l)):∀ j v,l[j]? = some v→w.cell? ⟨b,0+j,none⟩=some v:=fun j v hv=>by
 rw [Ay h,Nat.zero_add]; exact hv
/-- What the four questions read. -/
structure ChkK (b2 b3:Nat) (N:Int) (a b p:Option Addr) (c d r:Nat) (es:List Ed) (fl pot:List Int) (w:World):Prop where
 h2:w.heap[b2]? = some (Bl 28 [.int .i64 N,.slice a es.length c])
 h3:w.heap[b3]? = some (Bl 31 [.slice b fl.length d,.slice p pot.length r])
 R:Rd w a 4 Bv es
 Rf:Rd w b 1 I1 fl
 Rp:Rd w p 1 I1 pot
theorem ChkK.ext {b2 b3:Nat} {N:Int} {a b p:Option Addr} {c d r:Nat} {es:List Ed} {fl pot:List Int} {w w':World} (K:ChkK b2 b3 N a b p c d r es fl pot w) (h:Ext [] w w'):ChkK b2 b3 N a b p c d r es fl pot w' :=
 ⟨h.to K.h2 (by simp),h.to K.h3 (by simp),K.R.ext0 h,K.Rf.ext0 h,K.Rp.ext0 h⟩
section
variable {b2 b3:Nat} {N:Int} {a b p:Option Addr} {c d r:Nat} {es:List Ed} {fl pot:List Int} {w:World}
theorem YW (K:ChkK b2 b3 N a b p c d r es fl pot w) (hN:I64 N):Ret Tryz.prog 129 #[ptr b2] w fun v w'=>v = .bool (BV N es)∧Ext [] w w':=by
 obtain ⟨w0,rfl⟩:∃ w0,w0=w:=⟨_,rfl⟩
 have H:=Ctx.start w0 []
 refine A1 (fn:=Tryz.f129) Tryz.func129 rfl [.pointer (some ⟨b2,0,none⟩)] rfl (by kernel_rfl) ?_
 refine Ag (Ai rfl rfl (Ab (Aa (Ag (Cr _ rfl Cu Ci rfl rfl (Hk K.h2) ?_)))))
 refine Ao rfl OW (Kg N a es.length c es _ K.R rfl hN) rfl ?_
 rintro v w ⟨rfl,hx3⟩
 replace H:=H.call hx3
 refine Ai rfl rfl (Ab (Aa (A9 (AB (v:=(.bool _)) rfl rfl rfl ?_))))
 exact ⟨rfl,H.ext⟩
theorem YX (K:ChkK b2 b3 N a b p c d r es fl pot w) (hN:I64 N) (hf:fl.length≤9223372036854775000):Ret Tryz.prog 130 #[ptr b2,ptr b3] w fun v w'=>v = .bool (Er N es fl)∧Ext [] w w':=by
 obtain ⟨w0,rfl⟩:∃ w0,w0=w:=⟨_,rfl⟩
 have H:=Ctx.start w0 []
 refine A1 (fn:=Tryz.f130) Tryz.func130 rfl [.pointer (some ⟨b2,0,none⟩),.pointer (some ⟨b3,0,none⟩)] rfl (by kernel_rfl) ?_
 refine Ag (Ai rfl rfl (Ab (Aa (Ag (Cr _ rfl Cu Ci rfl rfl (Hk K.h2) ?_)))))
 refine Ah rfl Fp rfl (AX rfl BF rfl ((by rw [Ay K.h3]; rfl)) ?_)
 refine Ao rfl Abh (WX N a b es.length c fl.length d es fl _ K.R rfl hN K.Rf rfl hf) rfl ?_
 rintro v w ⟨rfl,hx3⟩
 replace H:=H.call hx3
 refine Ai rfl rfl (Ab (Aa (A9 (AB (v:=(.bool _)) rfl rfl rfl ?_))))
 exact ⟨rfl,H.ext⟩
theorem YY (K:ChkK b2 b3 N a b p c d r es fl pot w) (hq:pot.length≤9223372036854775000):Ret Tryz.prog 132 #[ptr b2,ptr b3] w fun v w'=>v = .bool (E3 N pot)∧Ext [] w w':=by
 obtain ⟨w0,rfl⟩:∃ w0,w0=w:=⟨_,rfl⟩
 have H:=Ctx.start w0 []
 refine A1 (fn:=Tryz.f132) Tryz.func132 rfl [.pointer (some ⟨b2,0,none⟩),.pointer (some ⟨b3,0,none⟩)] rfl (by kernel_rfl) ?_
 refine Ag (Ai rfl rfl (Ab (Aa (Ag (Cr _ rfl Cu Ci rfl rfl (Hk K.h2) ?_)))))
 refine Ah rfl F7 rfl (AX rfl BF rfl ((by rw [Ay K.h3]; rfl)) ?_)
 refine Ao rfl Abj (YV N a p es.length c pot.length r pot _ K.Rp rfl hq) rfl ?_
 rintro v w ⟨rfl,hx3⟩
 replace H:=H.call hx3
 refine Ai rfl rfl (Ab (Aa (A9 (AB (v:=(.bool _)) rfl rfl rfl ?_))))
 exact ⟨rfl,H.ext⟩
theorem YZ (K:ChkK b2 b3 N a b p c d r es fl pot w) (hN:I64 N) (hr:BV N es=true) (hw:B1 N es fl=true) (hp:E3 N pot=true):Ret Tryz.prog 134 #[ptr b2,ptr b3] w fun v w'=>v = .bool (FQ N es fl pot)∧Ext [] w w':=by
 obtain ⟨w0,rfl⟩:∃ w0,w0=w:=⟨_,rfl⟩
 have H:=Ctx.start w0 []
 refine A1 (fn:=Tryz.f134) Tryz.func134 rfl [.pointer (some ⟨b2,0,none⟩),.pointer (some ⟨b3,0,none⟩)] rfl (by kernel_rfl) ?_
 refine Ag (Ai rfl rfl (Ab (Aa (Ag (Cr _ rfl Cu Ci rfl rfl (Hk K.h2) ?_)))))
 refine Cr _ rfl Qn M1 rfl rfl (Hk K.h3) ?_
 refine Ao rfl Abl (WY N a b p es.length c fl.length d pot.length r es fl pot _ K.R rfl hN K.Rf rfl K.Rp rfl hr hw hp) rfl ?_
 rintro v w ⟨rfl,hx3⟩
 replace H:=H.call hx3
 refine Ai rfl rfl (Ab (Aa (A9 (AB (v:=(.bool _)) rfl rfl rfl ?_))))
 exact ⟨rfl,H.ext⟩
end
def askN (N:Int) (es:List Ed) (fl pot:List Int):Nat→Bool
 | 0=>BV N es
 | 1=>Er N es fl
 | 2=>E3 N pot
 | _=>FQ N es fl pot
theorem Za {N:Int} {es:List Ed} {fl pot:List Int} (h:∀ k,k<4→askN N es fl pot k=true):Ea N es fl pot=true:=by
 have h0:=h 0 (by omega)
 have h1:=h 1 (by omega)
 have h2:=h 2 (by omega)
 have h3:=h 3 (by omega)
 unfold Ea
 rw [show BV N es=true from h0,show Er N es fl=true from h1,show E3 N pot=true from h2,show FQ N es fl pot=true from h3]; rfl
theorem Zb {N:Int} {es:List Ed} {fl pot:List Int} {k:Nat} (hk:k<4) (h:askN N es fl pot k=false):Ea N es fl pot=false:=by
 have:k=0∨k=1∨k=2∨k=3:=by omega
 unfold Ea
 rcases this with rfl | rfl | rfl | rfl
 ·rw [show BV N es=false from h]; simp
 ·rw [show Er N es fl=false from h]; simp
 ·rw [show E3 N pot=false from h]; simp
 ·rw [show FQ N es fl pot=false from h]; simp

set_option maxRecDepth 20000 in
set_option maxHeartbeats 2000000 in
theorem WZ (N:Int) (a b p:Option Addr) (n c m d q r:Nat) (es:List Ed) (fl pot:List Int) (w:World) (R:Rd w a 4 Bv es) (hn:es.length=n) (hN:I64 N) (Rf:Rd w b 1 I1 fl) (hm:fl.length=m) (hm2:m≤9223372036854775000) (Rp:Rd w p 1 I1 pot) (hq:pot.length=q) (hq2:q≤9223372036854775000) :
  Ret Tryz.prog 66 #[CG N a n c,MB b p m d q r] w fun v w'=>v = .bool (Ea N es fl pot)∧Ext [] w w':=by
 subst hn hm hq
 obtain ⟨w0,rfl⟩:∃ w0,w0=w:=⟨_,rfl⟩
 have H:=Ctx.start w0 []
 refine A1 (fn:=Tryz.f66) Tryz.func66 rfl [CG N a es.length c,MB b p fl.length d pot.length r] rfl (by kernel_rfl) ?_
 refine Ag (Bs rfl [.int .i64 N,.slice a es.length c] (.agg _) rfl rfl H ?_)
 rintro b2 w - H
 refine Bs rfl [.slice b fl.length d,.slice p pot.length r] (.agg _) rfl rfl H ?_
 rintro b3 w - H
 refine Ai rfl rfl (Ab (Aa (Aq (Ag (C1 rfl [.pointer _] rfl (C1 rfl [.pointer _,.pointer _] rfl (C1 rfl [.pointer _,.pointer _] rfl (C1 rfl [.pointer _,.pointer _] rfl (Dm [.func (.func 129) #[] #[ptr b2],.func (.func 130) #[] #[ptr b2,ptr b3],.func (.func 132) #[] #[ptr b2,ptr b3],.func (.func 134) #[] #[ptr b2,ptr b3]] rfl So Aac zc_34 (by decide) (by decide) (by kernel_rfl) H ?_)))))))))
 rintro b11 w - H
 refine AU rfl So rfl (Ad rfl rfl (Ab (Aa (Au (Bi 2089040 (α:=Nat) (fun i=>[(13,.int .i64 (i:Int))]) (fun i w'=>i≤4∧Ctx w0 [] w' [(b11,Bl 34 [.func (.func 129) #[] #[ptr b2],.func (.func 130) #[] #[ptr b2,ptr b3],.func (.func 132) #[] #[ptr b2,ptr b3],.func (.func 134) #[] #[ptr b2,ptr b3]]),(b3,Bl 31 [.slice b fl.length d,.slice p pot.length r]),(b2,Bl 28 [.int .i64 N,.slice a es.length c])]∧∀ k,k<i→askN N es fl pot k=true) (fun i=>4 - i) 0 rfl ?_ ?_ ?_)))))
 ·exact ⟨rfl,trivial⟩
 ·exact ⟨Nat.zero_le _,H,fun k h=>absurd h (Nat.not_lt_zero _)⟩
 ·rintro i j w ⟨hi,H,hb⟩
  refine Ag (AN rfl rfl rfl (Ab (Aa (Aq (Ax _ rfl ?_ ?_)))))
  ·intro h2
   replace h2:=AF h2
   have KK:ChkK b2 b3 N a b p c d r es fl pot w:=⟨H.get at2,H.get at1,R.ext0 H.ext,Rf.ext0 H.ext,Rp.ext0 H.ext⟩
   obtain ⟨f,ca,hfi,hcf,hret⟩:∃ f ca,[Value.func (.func 129) #[] #[ptr b2],.func (.func 130) #[] #[ptr b2,ptr b3],.func (.func 132) #[] #[ptr b2,ptr b3],.func (.func 134) #[] #[ptr b2,ptr b3]][i]? = some (.func (.func f) #[] ca)∧A0 Tryz.prog f=true∧Ret Tryz.prog f ca w (fun v w'=>v = .bool (askN N es fl pot i)∧Ext [] w w'):=by
    have:i=0∨i=1∨i=2∨i=3:=by omega
    rcases this with rfl | rfl | rfl | rfl
    ·exact ⟨_,_,rfl,Abf,YW KK hN⟩
    ·exact ⟨_,_,rfl,Abg,YX KK hN hm2⟩
    ·exact ⟨_,_,rfl,Abi,YY KK hq2⟩
    ·exact ⟨_,_,rfl,Abk,YZ KK hN (hb 0 (by omega)) (Fq (hb 1 (by omega))).1 (hb 2 (by omega))⟩
   refine Av (Aa (Aq (Au (Ag (Bb rfl So Aac rfl rfl (by omega) (by omega) ?_)))))
   refine AX rfl ag_34 rfl ((by rw [Ay (H.get at0)]; simpa using hfi)) ?_
   refine BW rfl (.func _ _ _) rfl ?_
   refine Ab (Aa (Ag (Cd rfl (.func _ _ _) rfl ?_)))
   refine Cs (l:=ca.toList) rfl rfl hcf (by simpa using hret) (by simp) ?_
   rintro v w ⟨rfl,hx18⟩
   replace H:=H.call hx18
   refine Bu rfl rfl (Ab (Aa (Ax _ rfl ?_ ?_)))
   ·intro h3
    replace h3:=Bp h3
    refine Ag (Ai rfl rfl (Ab (Aa (A9 (A4 (Al (Al (A4 (Al (AB (v:=(.bool _)) rfl rfl rfl ?_))))))))))
    exact ⟨congrArg Value.bool (by rw [Zb (k:=i) (by omega) (by simpa using h3)]),H.ext⟩
   ·intro h3
    replace h3:=Bq h3
    refine Av (A5 (Aa (Aw (Ap rfl rfl rfl (by omega) (by omega) ?_))))
    refine Ad rfl rfl (Ab (Aa ?_))
    refine ⟨i+1,rfl,⟨rfl,trivial⟩,⟨by omega,H,fun k hk=>?_⟩,by omega⟩
    rcases Nat.lt_or_ge k i with h7 | h7
    ·exact hb k h7
    ·obtain rfl:k=i:=by omega
     simpa using h3
  ·intro h2
   replace h2:=AG h2
   refine Bd (Aj (Aj (AD (Aa (Ag (Ai rfl rfl (Ab (Aa (A9 (AB (v:=(.bool _)) rfl rfl rfl ?_))))))))))
   exact ⟨congrArg Value.bool (by rw [Za fun k hk=>hb k (by omega)]),H.ext⟩

end Go.Proofs.YtapphbmlkdhnmaaGreat

/- Plain law of heaps: what swaps keep. -/
namespace Go.Proofs.YtapphbmlkdhnmaaGreat
open Go.GV

abbrev Tg:=Int × Nat
def lt7 (x y:Tg):Prop:=x.1<y.1∨(x.1=y.1∧x.2<y.2)
instance (x y:Tg):Decidable (lt7 x y):=by unfold lt7; infer_instance
def le7 (x y:Tg):Prop:=x.1<y.1∨(x.1=y.1∧x.2≤y.2)
theorem le7.trans {x y z:Tg} (h:le7 x y) (k:le7 y z):le7 x z:=by unfold le7 at *; omega
theorem lt7.le {x y:Tg} (h:lt7 x y):le7 x y:=by unfold lt7 at h; unfold le7; omega
theorem Sx {x y:Tg} (h:¬ lt7 y x):le7 x y:=by unfold lt7 at h; unfold le7; omega
/-- Each stands behind none of the two below it. -/
def HeapL (L:List Tg):Prop:=∀ i x y,0<i→L[i]? = some x→L[(i - 1) / 2]? = some y→le7 y x
def UpI (L:List Tg) (k:Nat):Prop :=
 (∀ i x y,0<i→i≠k→L[i]? = some x→L[(i - 1) / 2]? = some y→le7 y x)∧∀ c x y,0<k→0<c→(c - 1) / 2=k→L[c]? = some x→L[(k - 1) / 2]? = some y→le7 y x
def DownI (L:List Tg) (k:Nat):Prop :=
 (∀ i x y,0<i→(i - 1) / 2≠k→L[i]? = some x→L[(i - 1) / 2]? = some y→le7 y x)∧∀ c x y,0<k→0<c→(c - 1) / 2=k→L[c]? = some x→L[(k - 1) / 2]? = some y→le7 y x
theorem FK {L:List Tg} {k o:Nat} {x y:Tg} (hx:L[k]? = some x) (hy:L[o]? = some y) (i:Nat):((L.set k y).set o x)[i]? = if i=o then some x else if i=k then some y else L[i]? := by
 have h1:k<L.length:=(List.getElem?_eq_some_iff.1 hx).1
 have h2:o<L.length:=(List.getElem?_eq_some_iff.1 hy).1
 by_cases e:i=o
 ·subst e; rw [if_pos rfl,List.getElem?_set_self (by rw [List.length_set]; exact h2)]
 ·rw [if_neg e,List.getElem?_set_ne (Ne.symm e)]
  by_cases e2:i=k
  ·subst e2; rw [if_pos rfl,List.getElem?_set_self h1]
  ·rw [if_neg e2,List.getElem?_set_ne (Ne.symm e2)]
theorem UpI.done {L:List Tg} {k:Nat} (h:UpI L k) (h0:∀ x y,0<k→L[k]? = some x→L[(k - 1) / 2]? = some y→le7 y x):HeapL L:=fun i x y hi hx hy=>by
 by_cases e:i=k
 ·subst e; exact h0 x y hi hx hy
 ·exact h.1 i x y hi e hx hy
theorem UpI.step {L:List Tg} {k:Nat} (h:UpI L k) {x y:Tg} (hk:0<k) (hx:L[k]? = some x) (hy:L[(k - 1) / 2]? = some y) (hlt:lt7 x y):UpI ((L.set k y).set ((k - 1) / 2) x) ((k - 1) / 2):=by
 obtain ⟨o,ho⟩:∃ o,o=(k - 1) / 2:=⟨_,rfl⟩
 rw [← ho] at hy ⊢
 have hko:k≠o:=by omega
 refine ⟨fun i a b hi hio ha hb=>?_,fun c a b h0 hc hco ha hb=>?_⟩
 ·rw [FK hx hy,if_neg hio] at ha
  rw [FK hx hy] at hb
  by_cases e:i=k
  ·subst e
   rw [if_pos rfl] at ha
   rw [if_pos ho.symm] at hb
   cases ha; cases hb
   exact hlt.le
  ·rw [if_neg e] at ha
   by_cases p1:(i - 1) / 2=o
   ·rw [if_pos p1] at hb
    cases hb
    exact hlt.le.trans (h.1 i a y hi e ha (by rw [p1]; exact hy))
   ·rw [if_neg p1] at hb
    by_cases p2:(i - 1) / 2=k
    ·rw [if_pos p2] at hb
     cases hb
     exact h.2 i a _ hk hi p2 ha (by rw [← ho]; exact hy)
    ·rw [if_neg p2] at hb
     exact h.1 i a b hi e ha hb
 ·rw [FK hx hy,if_neg (by omega:c≠o)] at ha
  rw [FK hx hy,if_neg (by omega:(o - 1) / 2≠o),if_neg (by omega:(o - 1) / 2≠k)] at hb
  have hz:=h.1 o y b h0 (Ne.symm hko) hy hb
  by_cases e:c=k
  ·rw [if_pos e] at ha
   cases ha
   exact hz
  ·rw [if_neg e] at ha
   exact hz.trans (h.1 c a y hc e ha (by rw [hco]; exact hy))
theorem DownI.none {L:List Tg} {k:Nat} (h:DownI L k) (hn:L.length≤2*k+1):HeapL L:=fun i x y hi hx hy=>by
 have hil:i<L.length:=(List.getElem?_eq_some_iff.1 hx).1
 exact h.1 i x y hi (by omega) hx hy
/-- The lesser one of the two below. -/
def Sy (L:List Tg) (k o:Nat) (y:Tg):Prop:=(o=2*k+1∨o=2*k+2)∧L[o]? = some y∧∀ i z,(i - 1) / 2=k→0<i→L[i]? = some z→le7 y z
theorem DownI.done {L:List Tg} {k o:Nat} {x y:Tg} (h:DownI L k) (hx:L[k]? = some x) (hl:Sy L k o y) (hn:¬ lt7 y x):HeapL L:=fun i a b hi ha hb=>by
 by_cases e:(i - 1) / 2=k
 ·rw [e,hx] at hb
  cases hb
  exact (Sx hn).trans (hl.2.2 i a e hi ha)
 ·exact h.1 i a b hi e ha hb
theorem DownI.step {L:List Tg} {k o:Nat} {x y:Tg} (h:DownI L k) (hx:L[k]? = some x) (hl:Sy L k o y) (hlt:lt7 y x):DownI ((L.set k y).set o x) o:=by
 obtain ⟨ho,hy,hmin⟩:=hl
 have hko:k≠o:=by omega
 have hpo:(o - 1) / 2=k:=by omega
 refine ⟨fun i a b hi hio ha hb=>?_,fun c a b h0 hc hco ha hb=>?_⟩
 ·rw [FK hx hy,if_neg hio] at hb
  rw [FK hx hy] at ha
  by_cases p:(i - 1) / 2=k
  ·rw [if_pos p] at hb
   cases hb
   by_cases e:i=o
   ·rw [if_pos e] at ha
    cases ha
    exact hlt.le
   ·rw [if_neg e,if_neg (by omega:i≠k)] at ha
    exact hmin i a p hi ha
  ·rw [if_neg p] at hb
   rw [if_neg (by omega:i≠o)] at ha
   by_cases e:i=k
   ·rw [if_pos e] at ha
    cases ha
    subst e
    exact h.2 o _ b hi (by omega) hpo hy hb
   ·rw [if_neg e] at ha
    exact h.1 i a b hi p ha hb
 ·rw [FK hx hy,if_neg (by omega:c≠o),if_neg (by omega:c≠k)] at ha
  rw [FK hx hy,hpo,if_neg hko,if_pos rfl] at hb
  cases hb
  exact h.1 c a _ hc (by omega) ha (by rw [hco]; exact hy)
theorem HeapL.root {L:List Tg} (h:HeapL L) {r:Tg} (hr:L[0]? = some r):∀ (i:Nat) (x:Tg),L[i]? = some x→le7 r x:=fun i=>by
 induction i using Nat.strongRecOn with
 | _ i ih =>
  intro x hx
  by_cases e:i=0
  ·subst e
   rw [hr] at hx
   cases hx
   exact .inr ⟨rfl,Nat.le_refl _⟩
  ·have hil:i<L.length:=(List.getElem?_eq_some_iff.1 hx).1
   obtain ⟨y,hy⟩:∃ y,L[(i - 1) / 2]? = some y:=⟨_,List.getElem?_eq_getElem (by omega)⟩
   exact (ih _ (by omega) y hy).trans (h i x y (by omega) hx hy)
theorem HeapL.snoc {L:List Tg} (h:HeapL L) (z:Tg):UpI (L++[z]) L.length:=by
 have hg:∀ (i:Nat) (x:Tg),i≠L.length→(L++[z])[i]? = some x→L[i]? = some x:=fun i x hi hx=>by
  have hil:i<(L++[z]).length:=(List.getElem?_eq_some_iff.1 hx).1
  rw [List.length_append,List.length_singleton] at hil
  rwa [List.getElem?_append_left (by omega)] at hx
 refine ⟨fun i x y hi hn hx hy=>?_,fun c x y h0 hc hco hx hy=>?_⟩
 ·have h1:=hg i x hn hx
  have hil:i<L.length:=(List.getElem?_eq_some_iff.1 h1).1
  exact h i x y hi h1 (hg _ y (by omega) hy)
 ·have hil:c<(L++[z]).length:=(List.getElem?_eq_some_iff.1 hx).1
  rw [List.length_append,List.length_singleton] at hil
  omega
theorem HeapL.cut {x z:Tg} {L:List Tg} (h:HeapL (x::L)):DownI (((x::L).set 0 z).take L.length) 0:=by
 have hg:∀ (i:Nat) (a:Tg),0<i→(((x::L).set 0 z).take L.length)[i]? = some a→(x::L)[i]? = some a:=fun i a hi ha=>by
  rw [List.getElem?_take] at ha
  split at ha
  ·rwa [List.getElem?_set_ne (by omega)] at ha
  ·cases ha
 exact ⟨fun i a b hi hn ha hb=>h i a b hi (hg i a hi ha) (hg _ b (by omega) hb),fun c a b h0=>absurd h0 (Nat.lt_irrefl 0)⟩

end Go.Proofs.YtapphbmlkdhnmaaGreat

/- Heaps of things: nothing but which things there are: the walks. -/
namespace Go.Proofs.YtapphbmlkdhnmaaGreat
open Go.GV
attribute [local irreducible] A2 W Wq Wt

/-! ### Rows of a block -/
theorem Ev {α:Type} {enc:α→List Value} {s:Nat}:∀ {L:List α},(∀ x∈L,(enc x).length=s)→(L.flatMap enc).length=L.length*s
 | [],_=>by simp
 | x::L,h=>by
  rw [List.flatMap_cons,List.length_append,h x (List.mem_cons_self ..),Ev fun y hy=>h y (List.mem_cons_of_mem _ hy),List.length_cons,Nat.add_mul,Nat.one_mul,Nat.add_comm]
theorem NM {α:Type} {L:List α} {i:Nat} {x:α} (hx:L[i]? = some x) (y:α):L=L.take i++x::L.drop (i+1)∧L.set i y=L.take i++y::L.drop (i+1):=by
 have hi:=CB hx
 have hg:L[i]=x:=by rw [List.getElem?_eq_getElem hi] at hx; exact Option.some.inj hx
 refine ⟨?_,?_⟩
 ·rw [← hg,← List.drop_eq_getElem_cons hi,List.take_append_drop]
 ·rw [List.set_eq_take_append_cons_drop,if_pos hi]
theorem Xa {α:Type} {enc:α→List Value} {s:Nat} {L:List α} (hs:∀ x∈L,(enc x).length=s) {i:Nat} {x y:α} (hx:L[i]? = some x) (hy:(enc y).length=s) (r:List Value):over (L.flatMap enc++r) (i*s) (enc y)=(L.set i y).flatMap enc++r:=by
 obtain ⟨h1,h2⟩:=NM hx y
 have hi:=CB hx
 have hl:((L.take i).flatMap enc).length=i*s:=by rw [Ev fun z hz=>hs z (List.mem_of_mem_take hz),List.length_take,Nat.min_eq_left (by omega)]
 rw [h2]
 conv=>lhs; rw [h1]
 rw [List.flatMap_append,List.flatMap_append,List.flatMap_cons,List.flatMap_cons,List.append_assoc,List.append_assoc,← hl,VT _ _ _ _ (by rw [hs x (List.mem_of_getElem? hx),hy])]
 simp only [List.append_assoc]
theorem Zc {α:Type} {enc:α→List Value} {s:Nat} {L:List α} (hs:∀ x∈L,(enc x).length=s) {i j:Nat} {x y:α} {v:Value} (hx:L[i]? = some x) (hj:j<s) (hy:enc y=(enc x).set j v) (r:List Value):(L.flatMap enc++r).set (i*s+j) v=(L.set i y).flatMap enc++r:=by
 obtain ⟨h1,h2⟩:=NM hx y
 have hi:=CB hx
 have hl:((L.take i).flatMap enc).length=i*s:=by rw [Ev fun z hz=>hs z (List.mem_of_mem_take hz),List.length_take,Nat.min_eq_left (by omega)]
 have hxl:=hs x (List.mem_of_getElem? hx)
 rw [h2]
 conv=>lhs; rw [h1]
 rw [List.flatMap_append,List.flatMap_append,List.flatMap_cons,List.flatMap_cons,List.append_assoc,List.append_assoc,← hl,List.set_append_right _ _ (by omega),Nat.add_sub_cancel_left,List.append_assoc,List.append_assoc,List.set_append_left _ _ (by omega),hy]
theorem OS.over {α:Type} {a:Option Addr} {n c s:Nat} {full:List Value} {enc:α→List Value} {L:List α} (O:OS a n c s full (L.flatMap enc)) (hs:∀ x,(enc x).length=s) {i:Nat} {x:α} (hx:L[i]? = some x) (y:α):OS a n c s (over full (i*s) (enc y)) ((L.set i y).flatMap enc):=by
 refine ⟨O.zero,O.none',by rw [E4]; exact O.len,O.le,?_⟩
 rw [O.split,Xa (fun z _=>hs z) hx (hs y)]
 have h1:=O.llen
 rw [Ev fun z _=>hs z] at h1
 exact List.take_left' (by rw [Ev fun z _=>hs z,List.length_set,h1])
theorem KA {α:Type} {L:List α} {i j:Nat} {x y:α} (hx:L[i]? = some x) (hy:L[j]? = some y):((L.set i y).set j x).Perm L:=by
 obtain ⟨hi,rfl⟩:=List.getElem?_eq_some_iff.1 hx
 obtain ⟨hj,rfl⟩:=List.getElem?_eq_some_iff.1 hy
 exact List.set_set_perm hi hj

/-! ### Things -/
def Ew (x:Int × Nat):List Value:=[.int .i64 x.1,.int .i64 (x.2:Int)]
theorem Hl (x:Int × Nat):∀ v∈Ew x,Bz v=true:=fun v hv=>by
 simp only [Ew,List.mem_cons,List.not_mem_nil,or_false] at hv
 rcases hv with rfl | rfl <;> rfl
theorem MC (x y:Int × Nat) (w:World):Ret Tryz.prog 226 #[.agg (Ew x).toArray,.agg (Ew y).toArray] w fun v w'=>v = .bool (decide (lt7 x y))∧Ext [] w w':=by
 obtain ⟨w0,rfl⟩:∃ w0,w0=w:=⟨_,rfl⟩
 have H:=Ctx.start w0 []
 refine A1 (fn:=Tryz.f226) Tryz.func226 rfl [.agg (Ew x).toArray,.agg (Ew y).toArray] rfl (by kernel_rfl) ?_
 refine Ag (Bs rfl (Ew x) (.agg _) rfl rfl H ?_)
 rintro b2 w - H
 refine Bs rfl (Ew y) (.agg _) rfl rfl H ?_
 rintro b3 w - H
 refine Ai rfl rfl (Ab (Aa (Ag (Ah rfl Iy rfl (AA rfl Bw rfl H at1 rfl (Ah rfl Iy rfl (AA rfl Bw rfl H at0 rfl (AN rfl rfl rfl (Ak rfl rfl (A8 10 rfl ?_ ?_))))))))))
 ·intro h1
  replace h1:=AF h1
  refine Ae rfl (Ae rfl (Ae rfl (Ae rfl (Ae rfl (Ae rfl (Ae rfl (Ae rfl (Ae rfl (Ae rfl ?_)))))))))
  refine Ae rfl (Ae rfl (Am rfl rfl (.bool _) rfl (Ai rfl rfl (Ab (Aa (A9 (AB (v:=(.bool _)) rfl rfl rfl ?_)))))))
  exact ⟨congrArg Value.bool (by unfold lt7; rw [Bool.eq_iff_iff]; simp_all; try omega),H.ext⟩
 ·intro h2
  replace h2:=AG h2
  refine Ah rfl Iy rfl (AA rfl Bw rfl H at1 rfl (Ah rfl Iy rfl (AA rfl Bw rfl H at0 rfl (BX rfl rfl rfl (Ak rfl rfl (A8 16 rfl ?_ ?_))))))
  ·intro h3
   replace h3:=AF h3
   refine Ah rfl Mx rfl (AA rfl BH rfl H at1 rfl (Ah rfl Mx rfl (AA rfl BH rfl H at0 rfl (AN rfl rfl rfl (Am rfl rfl (.bool _) rfl (A3 rfl rfl (.bool _) rfl (Ai rfl rfl (Ab (Aa (A9 (AB (v:=(.bool _)) rfl rfl rfl ?_)))))))))))
   exact ⟨congrArg Value.bool (by unfold lt7; rw [Bool.eq_iff_iff]; simp_all; try omega),H.ext⟩
  ·intro h4
   replace h4:=AG h4
   refine Ae rfl (Ae rfl (Ae rfl (Ae rfl (Ae rfl (A3 rfl rfl (.bool _) rfl (A3 rfl rfl (.bool _) rfl (Ai rfl rfl (Ab (Aa (A9 (AB (v:=(.bool _)) rfl rfl rfl ?_)))))))))))
   exact ⟨congrArg Value.bool (by unfold lt7; rw [Bool.eq_iff_iff]; simp_all; try omega),H.ext⟩
theorem adr0 (q:Nat):(adr (some ⟨q,0,none⟩)).off=0:=rfl
/-- The blocks of a heap. -/
abbrev HB (bh:Nat) (a:Option Addr) (n c:Nat) (full:List Value):List (Nat × Obj):=(bh,Bl 255 [.slice a n c])::ent a 258 full

set_option maxRecDepth 20000 in
set_option maxHeartbeats 4000000 in
theorem up_ok {w:World} {bh q n c:Nat} {full:List Value} {L:List (Int × Nat)} (H0:Ctx w [bh,q] w (HB bh (some ⟨q,0,none⟩) n c full)) (O:OS (some ⟨q,0,none⟩) n c 2 full (L.flatMap Ew)) (k:Nat) (hk:k<n) (hn:n≤1000000000) (hU:UpI L k) :
  Ret Tryz.prog 225 #[ptr bh,.int .i64 (k:Int)] w fun v w'=>v = .tuple #[]∧∃ (L':List (Int × Nat)) (full':List Value),L'.Perm L∧HeapL L'∧OS (some ⟨q,0,none⟩) n c 2 full' (L'.flatMap Ew)∧Ctx w [bh,q] w' (HB bh (some ⟨q,0,none⟩) n c full'):=by
 obtain ⟨w0,rfl⟩:∃ w0,w0=w:=⟨_,rfl⟩
 have H:=H0
 refine A1 (fn:=Tryz.f225) Tryz.func225 rfl [.pointer (some ⟨bh,0,none⟩),.int .i64 (k:Int)] rfl (by kernel_rfl) ?_
 refine OD (Aq (OC (Aa (Au (Bi 9007199254740978 (α:=Nat × List (Int × Nat) × List Value) (fun s=>[(1,.int .i64 (s.1:Int))]) (fun s w'=>s.1<n∧s.2.1.Perm L∧UpI s.2.1 s.1∧OS (some ⟨q,0,none⟩) n c 2 s.2.2 (s.2.1.flatMap Ew)∧Ctx w0 [bh,q] w' (HB bh (some ⟨q,0,none⟩) n c s.2.2)) (fun s=>s.1) (k,L,full) rfl ?_ ?_ ?_)))))
 ·exact ⟨rfl,trivial⟩
 ·exact ⟨hk,.refl _,hU,O,H⟩
 ·rintro ⟨k,L',f'⟩ j w ⟨hk,hp,hU,O,H⟩; dsimp only at hk hp hU O H; dsimp only
  have hnum:n=L'.length:=O.numN (fun _ _=>rfl) (by decide)
  refine Aq (Ag (Ad rfl rfl (C0 rfl rfl rfl (Ab (Aa (Ax _ rfl ?_ ?_))))))
  ·intro h1
   replace h1:=AF h1
   obtain ⟨o,ho⟩:∃ o,o=(k - 1) / 2:=⟨_,rfl⟩
   obtain ⟨x,hxk⟩:=AC (l:=L') (i:=k) (by omega)
   obtain ⟨y,hyo⟩:=AC (l:=L') (i:=o) (by omega)
   have Rk:=O.rd (w:=w.drew) (t:=258) (fun y hy=>H.drew.blk y (List.mem_cons_of_mem _ hy)) (fun _ _=>rfl) (by decide)
   refine Av (Aa (Au (Ag (Ad rfl rfl (Bf rfl rfl rfl (by omega) (by omega) ?_)))))
   refine GK rfl rfl rfl (by omega) (by omega) (show _≤(9223372036854775807:Int) by omega) ?_
   rw [show ((k:Int) - 1) / 2=(o:Int) by omega]
   refine Af rfl rfl (Ab (Aa (Aq (Ek 14 B3 (by kernel_rfl) rfl rfl ?_))))
   refine Cb rfl rfl (Bg rfl rfl (A6 rfl Cy rfl (BZ rfl Dj rfl (by rintro _ rfl; exact H.drew) at0 rfl ?_)))
   refine AM rfl rfl (BN Rk rfl CY CA rfl rfl (by omega) (by omega) (by omega) ?_)
   refine Jp _ rfl Gn CA rfl rfl (by rintro _ rfl; exact (Rk.row hxk rfl)) ?_
   refine Cb rfl rfl (Bg rfl rfl (A6 rfl Cy rfl (BZ rfl Dj rfl (by rintro _ rfl; exact H.drew) at0 rfl ?_)))
   refine AM rfl rfl (BN Rk rfl CY CA rfl rfl (by omega) (by omega) (by omega) ?_)
   refine Jp _ rfl Gn CA rfl rfl (by rintro _ rfl; exact (Rk.row hyo rfl)) ?_
   refine BQ ?_
   replace H:=H.drew
   refine Ao rfl Sm (MC x y _) rfl ?_
   rintro v w ⟨rfl,hx24⟩
   replace H:=H.call hx24
   refine Bu rfl rfl (Ab (Aa (Ax _ rfl ?_ ?_)))
   ·intro h2
    replace h2:=Bp h2
    refine Bd (Aj (EA rfl (Aj (AD (JP (CJ rfl rfl ?_))))))
    have hnl:¬ lt7 x y:=by simpa using h2
    exact ⟨rfl,L',f',hp,hU.done fun a b _ ha hb=>by
     rw [hxk] at ha
     rw [← ho,hyo] at hb
     cases ha; cases hb
     exact Sx hnl,O,H⟩
   ·intro h2
    replace h2:=Bq h2
    obtain ⟨w7,rfl⟩:∃ z,z=w:=⟨_,rfl⟩
    have R7:=O.rd (w:=w7.drew) (t:=258) (fun y hy=>H.drew.blk y (List.mem_cons_of_mem _ hy)) (fun _ _=>rfl) (by decide)
    have hol:=O.len
    have hole:=O.le
    refine Av (Aa (CZ [([0,1,2,3,4,5,6,7,8,9,10,11,12,13,14,15,16,17,18,19,20,21,22,23,24],25),([26],27)] (fun z=>z=World.drew w7) [25,27] B3 (by kernel_rfl) (rfl) ?_))
    refine Ba rfl rfl ?_
    refine Dy rfl rfl (B6 rfl rfl (AV rfl Cy rfl (Jq rfl Dj rfl (by rintro _ rfl; exact H.drew) at0 rfl ?_)))
    refine AO rfl rfl (Dy rfl rfl (B6 rfl rfl (AV rfl Cy rfl (Jq rfl Dj rfl (by rintro _ rfl; exact H.drew) at0 rfl ?_))))
    refine AO rfl rfl (Dy rfl rfl (B6 rfl rfl (AV rfl Cy rfl (Jq rfl Dj rfl (by rintro _ rfl; exact H.drew) at0 rfl ?_))))
    refine AO rfl rfl (CL R7 rfl CY CA rfl rfl (by omega) (by omega) (by omega) ?_)
    refine Gl _ rfl Gn CA rfl rfl (fun _ hx=>(by subst hx; exact R7.row hyo rfl)) ?_
    refine Dy rfl rfl (B6 rfl rfl (AV rfl Cy rfl (Jq rfl Dj rfl (by rintro _ rfl; exact H.drew) at0 rfl ?_)))
    refine AO rfl rfl (CL R7 rfl CY CA rfl rfl (by omega) (by omega) (by omega) ?_)
    refine Gl _ rfl Gn CA rfl rfl (fun _ hx=>(by subst hx; exact R7.row hxk rfl)) ?_
    refine CL R7 rfl CY CA rfl rfl (by omega) (by omega) (by omega) ?_
    refine BJ ?_
    replace H:=H.drew
    refine H7 (vs:=Ew y) rfl CA rfl rfl rfl (Hl y) H at1 (by show 0+(k:Int).toNat*2+2≤_; omega) ?_
    rintro w H
    refine Ab (BS rfl (Ba rfl rfl ?_))
    refine CL R7 rfl CY CA rfl rfl (by omega) (by omega) (by omega) ?_
    refine BJ (H7 (vs:=Ew x) rfl CA rfl rfl rfl (Hl x) H at1 (by rw [E4]; show 0+(o:Int).toNat*2+2≤_; omega) ?_)
    rintro w H
    refine Ab (BS rfl (Ch (Aw (Ad rfl rfl (Af rfl rfl (Ab (A5 (Aa ?_))))))))
    have hne:k≠o:=by omega
    refine ⟨(o,(L'.set k y).set o x,over (over f' (k*2) (Ew y)) (o*2) (Ew x)),rfl,⟨rfl,trivial⟩,⟨by dsimp only; omega,(KA hxk hyo).trans hp,by dsimp only; rw [ho]; exact hU.step (by omega) hxk (by rw [← ho]; exact hyo) (by simpa using h2),OS.over (OS.over O (fun _=>rfl) hxk y) (fun _=>rfl) (by rw [List.getElem?_set_ne hne]; exact hyo) x,?_⟩,by dsimp only; omega⟩
    simp only [adr0,Int.toNat_natCast,Nat.zero_add] at H
    exact H
  ·intro h1
   replace h1:=AG h1
   refine Bd (Aj (Aj (AD (JP (CJ rfl rfl ?_)))))
   exact ⟨rfl,L',f',hp,hU.done fun a b h0=>absurd h0 (by omega),O,H⟩

set_option maxRecDepth 20000 in
set_option maxHeartbeats 4000000 in
theorem Zd {w:World} {bh q n c:Nat} {full:List Value} {L:List (Int × Nat)} (H0:Ctx w [bh,q] w (HB bh (some ⟨q,0,none⟩) n c full)) (O:OS (some ⟨q,0,none⟩) n c 2 full (L.flatMap Ew)) (hn:n≤1000000000) (hD:DownI L 0) :
  Ret Tryz.prog 215 #[ptr bh,.int .i64 0] w fun v w'=>v = .tuple #[]∧∃ (L':List (Int × Nat)) (full':List Value),L'.Perm L∧HeapL L'∧OS (some ⟨q,0,none⟩) n c 2 full' (L'.flatMap Ew)∧Ctx w [bh,q] w' (HB bh (some ⟨q,0,none⟩) n c full'):=by
 obtain ⟨w0,rfl⟩:∃ w0,w0=w:=⟨_,rfl⟩
 have H:=H0
 refine A1 (fn:=Tryz.f215) Tryz.func215 rfl [.pointer (some ⟨bh,0,none⟩),.int .i64 0] rfl (by kernel_rfl) ?_
 refine OD (Aq (OC (Aa (Au (Bi 77371252455336267181195250 (α:=Nat × List (Int × Nat) × List Value) (fun s=>[(1,.int .i64 (s.1:Int))]) (fun s w'=>s.1≤n∧s.2.1.Perm L∧DownI s.2.1 s.1∧OS (some ⟨q,0,none⟩) n c 2 s.2.2 (s.2.1.flatMap Ew)∧Ctx w0 [bh,q] w' (HB bh (some ⟨q,0,none⟩) n c s.2.2)) (fun s=>n - s.1) (0,L,full) rfl ?_ ?_ ?_)))))
 ·exact ⟨rfl,trivial⟩
 ·exact ⟨Nat.zero_le _,.refl _,hD,O,H⟩
 ·rintro ⟨k,L',f'⟩ j w ⟨hk,hp,hD,O,H⟩; dsimp only at hk hp hD O H; dsimp only
  have hnum:n=L'.length:=O.numN (fun _ _=>rfl) (by decide)
  have hol:=O.len
  have hole:=O.le
  obtain ⟨m,hm⟩:∃ m,m=2*k+1:=⟨_,rfl⟩
  refine Au (Ag (Ad rfl rfl (Cf rfl rfl rfl (by omega) (by omega) ?_)))
  refine Ap rfl rfl rfl (by omega) (by omega) ?_
  rw [show (2*(k:Int)+1)=(m:Int) by omega]
  refine Af rfl rfl (Ab (Aa (Aq (Ag (Ad rfl rfl (Bj rfl rfl (Bc rfl rfl (Ah rfl Cy rfl (AA rfl Dj rfl H at0 rfl (AU rfl CY rfl ?_))))))))))
  refine CD rfl rfl rfl (Ab (Aa (Ax _ rfl ?_ ?_)))
  ·intro h1
   replace h1:=AF h1
   refine Bd (Aj (EA rfl (Aj (AD (JP (CJ rfl rfl ?_))))))
   exact ⟨rfl,L',f',hp,hD.none (by omega),O,H⟩
  ·intro h1
   replace h1:=AG h1
   obtain ⟨x,hxm⟩:=AC (l:=L') (i:=m) (by omega)
   refine Av (Aa (Aq (Dw 2199023222784 (α:=Bool) (fun z=>[(40,.bool z)]) (fun z w'=>(z=true→∃ y,L'[m+1]? = some y∧lt7 y x)∧(z=false→∀ y,L'[m+1]? = some y→¬ lt7 y x)∧Ctx w0 [bh,q] w' (HB bh (some ⟨q,0,none⟩) n c f')) rfl ?_ ?_)))
   ·skip
    have Rk:=O.rd (w:=w.drew) (t:=258) (fun y hy=>H.drew.blk y (List.mem_cons_of_mem _ hy)) (fun _ _=>rfl) (by decide)
    obtain ⟨y,hy7⟩:∃ y,m+1<n→L'[m+1]? = some y:=by
     by_cases h:m+1<n
     ·obtain ⟨y,hy⟩:=AC (l:=L') (i:=m+1) (by omega)
      exact ⟨y,fun _=>hy⟩
     ·exact ⟨x,fun h'=>absurd h' h⟩
    refine Ff 24 B3 (by kernel_rfl) rfl rfl ?_
    refine AM rfl rfl (CE rfl rfl rfl (by omega) (by omega) ?_)
    refine Cb rfl rfl (Bg rfl rfl (A6 rfl Cy rfl (BZ rfl Dj rfl (by rintro _ rfl; exact H.drew) at0 rfl ?_)))
    refine q_len rfl CY rfl (KS rfl rfl rfl (Di rfl rfl (Dc 23 rfl ?_ ?_)))
    ·intro h2
     replace h2:=AF h2
     refine Cb rfl rfl (Bg rfl rfl (A6 rfl Cy rfl (BZ rfl Dj rfl (by rintro _ rfl; exact H.drew) at0 rfl ?_)))
     refine AM rfl rfl (CE rfl rfl rfl (by omega) (by omega) ?_)
     refine BN Rk rfl CY CA rfl rfl (by omega) (by omega) (by omega) ?_
     refine Jp _ rfl Gn CA rfl rfl (by rintro _ rfl; exact (Rk.row (hy7 (by omega)) rfl)) ?_
     refine Cb rfl rfl (Bg rfl rfl (A6 rfl Cy rfl (BZ rfl Dj rfl (by rintro _ rfl; exact H.drew) at0 rfl ?_)))
     refine AM rfl rfl (BN Rk rfl CY CA rfl rfl (by omega) (by omega) (by omega) ?_)
     refine Jp _ rfl Gn CA rfl rfl (by rintro _ rfl; exact (Rk.row hxm rfl)) ?_
     refine BQ ?_
     replace H:=H.drew
     refine Ao rfl Sm (MC y x _) rfl ?_
     rintro v w ⟨rfl,hx39⟩
     replace H:=H.call hx39
     refine Am rfl rfl (.bool _) rfl (Ab (Aa ?_))
     exact ⟨decide (lt7 y x),rfl,⟨rfl,trivial⟩,fun h=>⟨y,hy7 (by omega),of_decide_eq_true h⟩,fun h z hz=>by
      rw [hy7 (by omega)] at hz
      cases hz
      exact of_decide_eq_false h,H⟩
    ·intro h2
     replace h2:=AG h2
     refine Az rfl (Az rfl (Az rfl (Az rfl (Az rfl (Az rfl (Az rfl (Az rfl (Az rfl (Az rfl ?_)))))))))
     refine Az rfl (Az rfl (Az rfl (Az rfl (Az rfl (BQ ?_)))))
     replace H:=H.drew
     refine Ae rfl (A3 rfl rfl (.bool _) rfl (Ab (Aa ?_)))
     exact ⟨false,rfl,⟨rfl,trivial⟩,(fun h=>by cases h),(fun _ z hz=>by have:=CB hz; omega),H⟩
   ·rintro z j2 w ⟨hzt,hzf,H⟩
    refine Em 6597069766672 (α:=Nat) (fun z=>[(4,.int .i64 (z:Int))]) (fun z w'=>(∃ y,Sy L' k z y)∧Ctx w0 [bh,q] w' (HB bh (some ⟨q,0,none⟩) n c f')) rfl ?_ ?_
    ·skip
     refine Ax _ rfl ?_ ?_
     ·intro h2
      obtain ⟨y,hy,hlt⟩:=hzt h2
      have hz':=CB hy
      refine Aw (Ad rfl rfl (Ap rfl rfl rfl (by omega) (by omega) ?_))
      refine Af rfl rfl (Ab (Aa ?_))
      refine ⟨m+1,rfl,⟨rfl,trivial⟩,⟨y,.inr (by omega),hy,fun i a hi h0 ha=>?_⟩,H⟩
      have:i=m∨i=m+1:=by omega
      rcases this with rfl | rfl
      ·rw [hxm] at ha; cases ha; exact hlt.le
      ·rw [hy] at ha; cases ha; exact .inr ⟨rfl,Nat.le_refl _⟩
     ·intro h2
      refine Av (Aa ?_)
      refine ⟨m,rfl,⟨rfl,trivial⟩,⟨x,.inl (by omega),hxm,fun i a hi h0 ha=>?_⟩,H⟩
      have:i=m∨i=m+1:=by omega
      rcases this with rfl | rfl
      ·rw [hxm] at ha; cases ha; exact .inr ⟨rfl,Nat.le_refl _⟩
      ·exact Sx (hzf h2 a ha)
    ·rintro o j3 w ⟨⟨y,hl2⟩,H⟩
     obtain ⟨x,hxk⟩:=AC (l:=L') (i:=k) (by omega)
     have hyo:=hl2.2.1
     have hon:=CB hyo
     have hko:k<o:=by have:=hl2.1; omega
     have Rk:=O.rd (w:=w.drew) (t:=258) (fun y hy=>H.drew.blk y (List.mem_cons_of_mem _ hy)) (fun _ _=>rfl) (by decide)
     refine Aq (Ek 14 B3 (by kernel_rfl) rfl rfl ?_)
     refine Cb rfl rfl (Bg rfl rfl (A6 rfl Cy rfl (BZ rfl Dj rfl (by rintro _ rfl; exact H.drew) at0 rfl ?_)))
     refine AM rfl rfl (BN Rk rfl CY CA rfl rfl (by omega) (by omega) (by omega) ?_)
     refine Jp _ rfl Gn CA rfl rfl (by rintro _ rfl; exact (Rk.row hyo rfl)) ?_
     refine Cb rfl rfl (Bg rfl rfl (A6 rfl Cy rfl (BZ rfl Dj rfl (by rintro _ rfl; exact H.drew) at0 rfl ?_)))
     refine AM rfl rfl (BN Rk rfl CY CA rfl rfl (by omega) (by omega) (by omega) ?_)
     refine Jp _ rfl Gn CA rfl rfl (by rintro _ rfl; exact (Rk.row hxk rfl)) ?_
     refine BQ ?_
     replace H:=H.drew
     refine Ao rfl Sm (MC y x _) rfl ?_
     rintro v w ⟨rfl,hx57⟩
     replace H:=H.call hx57
     refine Bu rfl rfl (Ab (Aa (Ax _ rfl ?_ ?_)))
     ·intro h2
      replace h2:=Bp h2
      refine Bd (Aj (EA rfl (Aj (AD (JP (CJ rfl rfl ?_))))))
      exact ⟨rfl,L',f',hp,hD.done hxk hl2 (by simpa using h2),O,H⟩
     ·intro h2
      replace h2:=Bq h2
      obtain ⟨w7,rfl⟩:∃ z,z=w:=⟨_,rfl⟩
      have R7:=O.rd (w:=w7.drew) (t:=258) (fun y hy=>H.drew.blk y (List.mem_cons_of_mem _ hy)) (fun _ _=>rfl) (by decide)
      refine Av (Aa (CZ [([0,1,2,3,4,5,6,7,8,9,10,11,12,13,14,15,16,17,18,19,20,21,22,23,24],25),([26],27)] (fun z=>z=World.drew w7) [25,27] B3 (by kernel_rfl) (rfl) ?_))
      refine Ba rfl rfl ?_
      refine Dy rfl rfl (B6 rfl rfl (AV rfl Cy rfl (Jq rfl Dj rfl (by rintro _ rfl; exact H.drew) at0 rfl ?_)))
      refine AO rfl rfl (Dy rfl rfl (B6 rfl rfl (AV rfl Cy rfl (Jq rfl Dj rfl (by rintro _ rfl; exact H.drew) at0 rfl ?_))))
      refine AO rfl rfl (Dy rfl rfl (B6 rfl rfl (AV rfl Cy rfl (Jq rfl Dj rfl (by rintro _ rfl; exact H.drew) at0 rfl ?_))))
      refine AO rfl rfl (CL R7 rfl CY CA rfl rfl (by omega) (by omega) (by omega) ?_)
      refine Gl _ rfl Gn CA rfl rfl (fun _ hx=>(by subst hx; exact R7.row hyo rfl)) ?_
      refine Dy rfl rfl (B6 rfl rfl (AV rfl Cy rfl (Jq rfl Dj rfl (by rintro _ rfl; exact H.drew) at0 rfl ?_)))
      refine AO rfl rfl (CL R7 rfl CY CA rfl rfl (by omega) (by omega) (by omega) ?_)
      refine Gl _ rfl Gn CA rfl rfl (fun _ hx=>(by subst hx; exact R7.row hxk rfl)) ?_
      refine CL R7 rfl CY CA rfl rfl (by omega) (by omega) (by omega) ?_
      refine BJ ?_
      replace H:=H.drew
      refine H7 (vs:=Ew y) rfl CA rfl rfl rfl (Hl y) H at1 (by show 0+(k:Int).toNat*2+2≤_; omega) ?_
      rintro w H
      refine Ab (BS rfl (Ba rfl rfl ?_))
      refine CL R7 rfl CY CA rfl rfl (by omega) (by omega) (by omega) ?_
      refine BJ (H7 (vs:=Ew x) rfl CA rfl rfl rfl (Hl x) H at1 (by rw [E4]; show 0+(o:Int).toNat*2+2≤_; omega) ?_)
      rintro w H
      refine Ab (BS rfl (Ch (Aw (Ad rfl rfl (Af rfl rfl (Ab (A5 (Aa ?_))))))))
      have hne:k≠o:=by omega
      refine ⟨(o,(L'.set k y).set o x,over (over f' (k*2) (Ew y)) (o*2) (Ew x)),rfl,⟨rfl,trivial⟩,⟨by dsimp only; omega,(KA hxk hyo).trans hp,hD.step hxk hl2 (by simpa using h2),OS.over (OS.over O (fun _=>rfl) hxk y) (fun _=>rfl) (by rw [List.getElem?_set_ne hne]; exact hyo) x,?_⟩,by dsimp only; omega⟩
      simp only [adr0,Int.toNat_natCast,Nat.zero_add] at H
      exact H

theorem Ze (w:World):Ret Tryz.prog 190 #[] w fun v w'=>∃ b,v=ptr b∧w.heap.size≤b∧w'.heap[b]? = some (Bl 255 [.slice none 0 0])∧Ext [] w w':=by
 obtain ⟨w0,rfl⟩:∃ w0,w0=w:=⟨_,rfl⟩
 have H:=Ctx.start w0 []
 refine A1 (fn:=Tryz.f190) Tryz.func190 rfl [] rfl (by kernel_rfl) ?_
 refine Ag (Dr rfl rfl (Ab (Aa (Ag (CC [.slice none 0 0] rfl Ac1 Adg (by kernel_rfl) ?_)))))
 refine Bs rfl [.slice none 0 0] (.agg _) rfl rfl H ?_
 rintro b2 w - H
 refine Dr rfl rfl (Ab (Aa (A9 (AB (v:=(.pointer _)) rfl rfl rfl ?_))))
 exact ⟨b2,rfl,(H.own _ (List.mem_cons_self ..)).elim (fun h=>by cases h) id,H.get at0,H.ext⟩
theorem Zf {w:World} {bh:Nat} {a:Option Addr} {n c:Nat} (hb:w.heap[bh]? = some (Bl 255 [.slice a n c])):Ret Tryz.prog 192 #[ptr bh] w fun v w'=>v = .int .i64 (n:Int)∧w=w':=by
 obtain ⟨w0,rfl⟩:∃ w0,w0=w:=⟨_,rfl⟩
 refine A1 (fn:=Tryz.f192) Tryz.func192 rfl [.pointer (some ⟨bh,0,none⟩)] rfl (by kernel_rfl) ?_
 refine Ag (Af rfl rfl (Ab (Aa (Aq (Ag (Bj rfl rfl (K4 rfl Sq rfl ?_)))))))
 refine Ab (Aa (Ax _ rfl ?_ ?_))
 ·intro h1
  cases h1
 ·intro h1
  refine Av (Aa (Ag (Bj rfl rfl (Bc rfl rfl (Ah rfl Cy rfl (AX rfl Dj rfl ((by rw [Ay hb]; rfl)) ?_))))))
  refine AU rfl CY rfl (Af rfl rfl (Ab (Aa (A9 (AB (v:=(.int _ _)) rfl rfl rfl ?_)))))
  exact ⟨rfl,rfl⟩
theorem Zg {w:World} {bh:Nat} {a:Option Addr} {n c:Nat} {x:Int × Nat} {L:List (Int × Nat)} (hb:w.heap[bh]? = some (Bl 255 [.slice a n c])) (R:Rd w a 2 Ew (x::L)) (hn:n=L.length+1):Ret Tryz.prog 214 #[ptr bh] w fun v w'=>v = .tuple #[.int .i64 x.1,.int .i64 (x.2:Int),.int .i64 0]∧Ext [] w w':=by
 obtain ⟨w0,rfl⟩:∃ w0,w0=w:=⟨_,rfl⟩
 have H:=Ctx.start w0 []
 have hbd:w0.drew.heap[bh]? = some (Bl 255 [.slice a n c]):=hb
 have Rd':=R.ext0 (Ext.drew [] w0)
 refine A1 (fn:=Tryz.f214) Tryz.func214 rfl [.pointer (some ⟨bh,0,none⟩)] rfl (by kernel_rfl) ?_
 refine Ag (Af rfl rfl (Af rfl rfl (Af rfl rfl (Ab (Aa (Aq (Au (Ag (Bj rfl rfl (K4 rfl Sq rfl ?_))))))))))
 refine Ai rfl rfl (Ab (Aa (Ax _ rfl ?_ ?_)))
 ·intro h1
  cases h1
 ·intro h1
  refine Ag (Bj rfl rfl (Bc rfl rfl (Ah rfl Cy rfl (AX rfl Dj rfl ((by rw [Ay hb]; rfl)) ?_))))
  refine AU rfl CY rfl (BX rfl rfl rfl (Ai rfl rfl (Ab (Aa (Ax _ rfl ?_ ?_)))))
  ·intro h2
   replace h2:=AF h2
   omega
  ·intro h2
   replace h2:=AG h2
   refine Av (A5 (Aa (DS (fun x=>x=_) B3 (by kernel_rfl) rfl ?_)))
   refine Cb rfl rfl (Bg rfl rfl (A6 rfl Cy rfl (Cc rfl Dj rfl (by rintro _ rfl; exact ((by rw [Ay hbd]; rfl))) ?_)))
   refine BN Rd' rfl CY CA rfl rfl (by omega) (by omega) (by omega) ?_
   refine A6 rfl Iy rfl (Cc rfl Bw rfl (by rintro _ rfl; exact ((Rd'.fld (i:=0) rfl rfl (j:=0) rfl))) ?_)
   refine Cb rfl rfl (Bg rfl rfl (A6 rfl Cy rfl (Cc rfl Dj rfl (by rintro _ rfl; exact ((by rw [Ay hbd]; rfl))) ?_)))
   refine BN Rd' rfl CY CA rfl rfl (by omega) (by omega) (by omega) ?_
   refine A6 rfl Mx rfl (Cc rfl BH rfl (by rintro _ rfl; exact ((Rd'.fld (i:=0) rfl rfl (j:=1) rfl))) ?_)
   refine Co rfl rfl (Co rfl rfl (Co rfl rfl (BQ ?_)))
   rintro _ rfl
   replace H:=H.drew
   refine A9 (DR (v1:=(.int _ _)) (v2:=(.int _ _)) (v3:=(.int _ _)) rfl rfl rfl rfl rfl ?_)
   exact ⟨rfl,H.ext⟩

end Go.Proofs.YtapphbmlkdhnmaaGreat

/- Heaps: what is put and taken: the walks. -/
namespace Go.Proofs.YtapphbmlkdhnmaaGreat
open Go.GV
attribute [local irreducible] A2 W Wq Wt

set_option maxRecDepth 20000 in
set_option maxHeartbeats 2000000 in
theorem TG {w:World} {bh n c:Nat} {a:Option Addr} {full:List Value} {L:List (Int × Nat)} (H0:Ctx w ((HB bh a n c full).map (·.1)) w (HB bh a n c full)) (O:OS a n c 2 full (L.flatMap Ew)) (hn:n≤100000000) (hH:HeapL L) (key:Int) (item:Nat) :
  Ret Tryz.prog 213 #[ptr bh,.int .i64 key,.int .i64 (item:Int)] w fun v w'=>v = .int .i64 0∧∃ (a':Option Addr) (c':Nat) (full':List Value) (L':List (Int × Nat)),L'.Perm ((key,item)::L)∧HeapL L'∧OS a' (n+1) c' 2 full' (L'.flatMap Ew)∧Ctx w ((HB bh a n c full).map (·.1)) w' (HB bh a' (n+1) c' full'):=by
 obtain ⟨w0,rfl⟩:∃ w0,w0=w:=⟨_,rfl⟩
 have H:=H0
 refine A1 (fn:=Tryz.f213) Tryz.func213 rfl [.pointer (some ⟨bh,0,none⟩),.int .i64 key,.int .i64 (item:Int)] rfl (by kernel_rfl) ?_
 refine Ag (Af rfl rfl (Ab (Aa (Aq (Ag (Bj rfl rfl (K4 rfl Sq rfl ?_)))))))
 refine Ab (Aa (Ax _ rfl ?_ ?_))
 ·intro h1
  cases h1
 ·intro h1
  refine Av (Aa (Ag (Bj rfl rfl (Bj rfl rfl (Bc rfl rfl (Ah rfl Cy rfl (AA rfl Dj rfl H at0 rfl (Ad rfl rfl (Ad rfl rfl (CC (Ew (key,item)) rfl Ac2 Sr (by kernel_rfl) ?_))))))))))
  refine DC (Ew (key,item)) (.agg _) rfl CY CA Sr rfl (by decide) (by decide) rfl rfl rfl H ?_
  rintro b17 w - H
  refine DM (L:=[(bh,_)]) rfl CY CY CA Aaz Sr rfl (by decide) rfl rfl H O rfl (Hl _) (by omega) ?_
  rintro a18 c18 f18 w H O18
  have O8:OS a18 (n+1) c18 2 f18 ((L++[(key,item)]).flatMap Ew):=by rw [List.flatMap_append]; simpa using O18
  refine Bc rfl rfl (Ah rfl Cy rfl (Cj (.slice _ _ _) rfl WC rfl rfl rfl H at0 (by (simp; done)) ?_))
  rintro w H
  refine Ab (Aa (Ag (Bj rfl rfl (Bj rfl rfl (Bc rfl rfl (Ah rfl Cy rfl (AA rfl Dj rfl H at0 rfl (AU rfl CY rfl (Bf rfl rfl rfl (by omega) (by omega) ?_)))))))))
  rw [show (((n+1:Nat):Int) - 1)=(n:Int) by omega]
  obtain ⟨q,rfl⟩:=O8.form (by omega)
  refine Ao rfl Acx (up_ok (Ctx.lend (L2:=[]) H.app_nil) O8 n (by omega) (by omega) (by have hnum:n=L.length:=O.numN (fun _ _=>rfl) (by decide); rw [hnum]; exact hH.snoc _)) rfl ?_
  rintro v w ⟨rfl,L',f',hp,hH',O',H'⟩
  replace H:=(Ctx.back (L2:=[]) H.app_nil H').nil_app
  refine Ab (Aa (Ag (Af rfl rfl (Ab (Aa (A9 (AB (v:=(.int _ _)) rfl rfl rfl ?_)))))))
  exact ⟨rfl,some ⟨q,0,none⟩,c18,f',L',hp.trans (List.perm_append_singleton _ _),hH',O',H⟩
theorem OS.short {α:Type} {a:Option Addr} {n c s:Nat} {full:List Value} {enc:α→List Value} {L:List α} (O:OS a n c s full (L.flatMap enc)) (hs:∀ x,(enc x).length=s) {m:Nat} (hm:m≤n):OS a m c s full ((L.take m).flatMap enc):=by
 refine ⟨O.zero,O.none',O.len,Nat.le_trans hm O.le,?_⟩
 have h1:=O.pre
 have h2:full.take (m*s)=(full.take (n*s)).take (m*s):=by rw [List.take_take,Nat.min_eq_left (Nat.mul_le_mul_right _ hm)]
 have hl:=O.llen
 rw [Ev fun z _=>hs z] at hl
 rw [h2,h1]
 conv=>lhs; rw [← List.take_append_drop m L,List.flatMap_append]
 by_cases h0:s=0
 ·subst h0
  have hz:∀ M:List α,M.flatMap enc=[]:=fun M=>List.eq_nil_of_length_eq_zero (by rw [Ev fun z _=>hs z]; rfl)
  rw [hz,hz]; simp
 ·have hL:n=L.length:=Nat.eq_of_mul_eq_mul_right (by omega) hl.symm
  exact List.take_left' (by rw [Ev fun z _=>hs z,List.length_take,Nat.min_eq_left (by omega)])
theorem Xb {α:Type} {x z:α} {L:List α} (hz:(x::L)[L.length]? = some z):(((x::L).set 0 z).take L.length).Perm L:=by
 rcases List.eq_nil_or_concat L with rfl | ⟨M,y,rfl⟩
 ·simp
 ·have:z=y:=by
   rw [List.concat_eq_append,List.length_append,List.length_singleton,List.getElem?_cons_succ,List.getElem?_append_right (Nat.le_refl _),Nat.sub_self] at hz
   simpa using hz.symm
  subst this
  rw [List.concat_eq_append,List.set_cons_zero,List.length_append,List.length_singleton,List.take_succ_cons,List.take_left' rfl]
  exact (List.perm_append_singleton _ _).symm

set_option maxRecDepth 20000 in
set_option maxHeartbeats 2000000 in
theorem Adk {w:World} {bh q n c:Nat} {full:List Value} {x:Int × Nat} {L:List (Int × Nat)} (H0:Ctx w [bh,q] w (HB bh (some ⟨q,0,none⟩) n c full)) (O:OS (some ⟨q,0,none⟩) n c 2 full ((x::L).flatMap Ew)) (hn:n≤100000000) (hH:HeapL (x::L)) :
  Ret Tryz.prog 193 #[ptr bh] w fun v w'=>v = .tuple #[.int .i64 x.1,.int .i64 (x.2:Int),.int .i64 0]∧∃ (full':List Value) (L':List (Int × Nat)),L'.Perm L∧HeapL L'∧OS (some ⟨q,0,none⟩) L.length c 2 full' (L'.flatMap Ew)∧Ctx w [bh,q] w' (HB bh (some ⟨q,0,none⟩) L.length c full'):=by
 obtain ⟨w0,rfl⟩:∃ w0,w0=w:=⟨_,rfl⟩
 have H:=H0
 have hnum:n=L.length+1:=O.numN (fun _ _=>rfl) (by decide)
 subst hnum
 have hol:=O.len
 have hole:=O.le
 refine A1 (fn:=Tryz.f193) Tryz.func193 rfl [.pointer (some ⟨bh,0,none⟩)] rfl (by kernel_rfl) ?_
 refine Ag (Af rfl rfl (Af rfl rfl (Af rfl rfl (Ab (Aa (Ag (Bj rfl rfl (Ao rfl Acq (Zg (H.get at0) (O.rd (t:=258) (fun y hy=>H.blk y (List.mem_cons_of_mem _ hy)) (fun _ _=>rfl) (by decide)) rfl) rfl ?_))))))))
 rintro v w ⟨rfl,hx8⟩
 replace H:=H.call hx8
 refine BG rfl rfl (A7 rfl rfl rfl (A7 rfl rfl rfl (A7 rfl rfl rfl (Af rfl rfl (Af rfl rfl (Af rfl rfl (Ab (Aa (Aq (Ag ?_))))))))))
 refine Ad rfl rfl (BX rfl rfl rfl (Ab (Aa (Ax _ rfl ?_ ?_))))
 ·intro h1
  replace h1:=AF h1
  obtain ⟨z,hz⟩:=AC (l:=x::L) (i:=L.length) (by simp)
  refine Ag (Bj rfl rfl (Bc rfl rfl (Ah rfl Cy rfl (AA rfl Dj rfl H at0 rfl (AU rfl CY rfl (Bf rfl rfl rfl (by omega) (by omega) ?_))))))
  rw [show (((L.length+1:Nat):Int) - 1)=(L.length:Int) by omega]
  refine Af rfl rfl (Ab (Aa ?_))
  obtain ⟨w7,rfl⟩:∃ z,z=w:=⟨_,rfl⟩
  have R7:=O.rd (w:=w7.drew) (t:=258) (fun y hy=>H.drew.blk y (List.mem_cons_of_mem _ hy)) (fun _ _=>rfl) (by decide)
  have O9:=OS.short (OS.over O (fun _=>rfl) (i:=0) (x:=x) rfl z) (fun _=>rfl) (m:=L.length) (by omega)
  refine CZ [([0,1,2,3,4,5,6,7,8,9,10,11],12)] (fun z=>z=World.drew w7) [12] B3 (by kernel_rfl) (rfl) ?_
  refine Ba rfl rfl ?_
  refine Dy rfl rfl (B6 rfl rfl (AV rfl Cy rfl (Jq rfl Dj rfl (by rintro _ rfl; exact H.drew) at0 rfl ?_)))
  refine Dy rfl rfl (B6 rfl rfl (AV rfl Cy rfl (Jq rfl Dj rfl (by rintro _ rfl; exact H.drew) at0 rfl ?_)))
  refine AO rfl rfl (CL R7 rfl CY CA rfl rfl (by omega) (by omega) (by rfl) ?_)
  refine Gl _ rfl Gn CA rfl rfl (fun _ hx=>(by subst hx; exact R7.row hz rfl)) ?_
  refine CL R7 rfl CY CA rfl rfl (by omega) (by omega) (by rfl) ?_
  refine BJ ?_
  replace H:=H.drew
  refine H7 (vs:=Ew z) rfl CA rfl rfl rfl (Hl z) H at1 (by show 0+(0:Int).toNat*2+2≤_; rw [hol]; omega) ?_
  rintro w H
  rw [adr0,show (0:Nat)+(0:Int).toNat*2=0*2 from rfl] at H
  refine Ab (BS rfl (Ch (Ag (Bj rfl rfl (Bj rfl rfl (Bc rfl rfl (Ah rfl Cy rfl (AA rfl Dj rfl H at0 rfl (Ad rfl rfl (EV rfl CY CA rfl rfl (by omega) (by omega) ?_))))))))))
  refine Bc rfl rfl (Ah rfl Cy rfl (Cj (.slice _ _ _) rfl WC rfl rfl rfl H at0 (by (simp; done)) ?_))
  rintro w H
  refine Ab (Aa (Aw (Bj rfl rfl (Ao rfl Acr (Zd (Ctx.lend (L2:=[]) H.app_nil) O9 (by omega) hH.cut) rfl ?_))))
  rintro v w ⟨rfl,L',f',hp,hH',O',H'⟩
  replace H:=(Ctx.back (L2:=[]) H.app_nil H').nil_app
  refine Ab (Aa (Ag (Ad rfl rfl (Ad rfl rfl (Ad rfl rfl (Af rfl rfl (Af rfl rfl (Af rfl rfl (Ab (Aa (A9 (DR (v1:=(.int _ _)) (v2:=(.int _ _)) (v3:=(.int _ _)) rfl rfl rfl rfl rfl ?_))))))))))))
  exact ⟨rfl,f',L',hp.trans (Xb hz),hH',O',H⟩
 ·intro h1
  replace h1:=AG h1
  exact absurd rfl h1

end Go.Proofs.YtapphbmlkdhnmaaGreat

/- Arcs with room, one by one: the walk. -/
namespace Go.Proofs.YtapphbmlkdhnmaaGreat
open Go.GV
attribute [local irreducible] A2 W Wq Wt

/-- A result in a cell, behind marks. -/
theorem I9 {P:Program} {e:Env} {w:World} {fn:Func} {R:Value→World→Prop} {a:Tmp} {t:TypeId} {p:Addr} (hr:fn.results=#[.cell a t]) (ha:e.g a = .pointer (some p)) (h:Marks e.ds w fun w'=>∃ v,(loadVar t p).run P w' = .ok v w'∧R v w'):PV P fn R .ret e w :=
 Marks.mono (fun w ⟨v,hv,h⟩ tmps ht=>by
  have h1:=(ht a).trans ha
  rw [Array.getD_eq_getD_getElem?] at h1
  exact ⟨v,by simp [results,hr,h1,asAddr,hv],h⟩) h

def FM (g:Gr) (p:Nat→Int) (k:Nat):List Value:=[.int .i64 (k:Int),.int .i64 (g.u k:Int),.int .i64 (g.v k:Int),.int .i64 (g.len p k)]
theorem MD (g:Gr) (p:Nat→Int) (k:Nat):∀ v∈FM g p k,Bz v=true:=fun v hv=>by
 simp only [FM,List.mem_cons,List.not_mem_nil,or_false] at hv
 rcases hv with rfl | rfl | rfl | rfl <;> rfl
/-- The arcs of the first edges that have room. -/
def Eb (cap x:Nat→Int) (k:Nat):List Nat:=(List.range (2*k)).filter fun a=>decide (0<C6 cap x a)
def Ju (g:Gr) (p:Nat→Int) (l:List Nat):List (List Value):=l.map fun a=>[.agg (FM g p a).toArray]
theorem NN (cap x:Nat→Int) (k:Nat):Eb cap x (k+1)=Eb cap x k++((if 0<C6 cap x (2*k) then [2*k] else [])++if 0<C6 cap x (2*k+1) then [2*k+1] else []):=by
 unfold Eb
 rw [show 2*(k+1)=2*k+1+1 by omega,List.range_succ,List.range_succ,List.append_assoc,List.filter_append]
 congr 1
 rw [List.filter_append]
 congr 1
 ·by_cases h:0<C6 cap x (2*k)
  ·rw [if_pos h,List.filter_cons,decide_eq_true h]; rfl
  ·rw [if_neg h,List.filter_cons,decide_eq_false h]; rfl
 ·by_cases h:0<C6 cap x (2*k+1)
  ·rw [if_pos h,List.filter_cons,decide_eq_true h]; rfl
  ·rw [if_neg h,List.filter_cons,decide_eq_false h]; rfl
theorem Q1 (cap x:Nat→Int):∀ {m k:Nat},k≤m→∃ r,Eb cap x m=Eb cap x k++r
 | 0,k,h=>⟨[],by rw [show k=0 by omega,List.append_nil]⟩
 | m+1,k,h=>by
  rcases Nat.lt_or_ge k (m+1) with h1 | h1
  ·obtain ⟨r,hr⟩:=Q1 (m:=m) (k:=k) cap x (by omega)
   exact ⟨_,by rw [NN,hr,List.append_assoc]⟩
  ·exact ⟨[],by rw [show k=m+1 by omega,List.append_nil]⟩
theorem TH {g:Gr} {p cap x:Nat→Int} {m k:Nat} {l r:List Nat} {a:Nat} (hk:k<m) (h:Eb cap x (k+1)=l++a::r):(Ju g p (Eb cap x m))[l.length]? = some [.agg (FM g p a).toArray]:=by
 obtain ⟨s,hs⟩:=Q1 cap x (m:=m) (k:=k+1) (by omega)
 unfold Ju
 rw [hs,h,List.getElem?_map,List.append_assoc,List.getElem?_append_right (Nat.le_refl _),Nat.sub_self]
 rfl
def Ez (pot:List Int) (i:Nat):Int:=pot.getD i 0
/-- All about an edge. -/
structure EAt (N:Int) (es:List Ed) (fl pot:List Int) (i:Nat) (e:Ed) (xx pu pv:Int) (un vn:Nat):Prop where
 he:es[i]? = some e
 hx:fl[i]? = some xx
 hpu:pot[un]? = some pu
 hpv:pot[vn]? = some pv
 f:e.f=(un:Int)
 t:e.t=(vn:Int)
 un':un<N.toNat
 vn':vn<N.toNat
 gf:(grE N es).f i=un
 gt:(grE N es).t i=vn
 co:(grE N es).co i=e.cost
 cap:Cl es i=e.cap
 fx:flE fl i=xx
 xb:0≤xx∧xx≤e.cap∧e.cap≤4503599627370496
 cb : -1000≤e.cost∧e.cost≤1000
 ub : -1099511627776≤pu∧pu≤1099511627776
 vb : -1099511627776≤pv∧pv≤1099511627776
 pu':Ez pot un=pu
 pv':Ez pot vn=pv
theorem eat {N:Int} {es:List Ed} {fl pot:List Int} (hw:B1 N es fl=true) (hp:E3 N pot=true) {i:Nat} (hi:i<es.length):∃ e xx pu pv un vn,EAt N es fl pot i e xx pu pv un vn:=by
 obtain ⟨hl,hr,hin⟩:=BE hw
 obtain ⟨hpl,hpb⟩:=JE hp
 obtain ⟨e,he⟩:=AC (l:=es) (i:=i) hi
 obtain ⟨xx,hx⟩:=AC (l:=fl) (i:=i) (by omega)
 have hco:=CN ((BR hr).2.2.2.1 e (List.mem_of_getElem? he))
 have hxx:=hin i e xx he hx
 obtain ⟨un,hun⟩:∃ un:Nat,e.f=un:=⟨e.f.toNat,by omega⟩
 obtain ⟨vn,hvn⟩:∃ vn:Nat,e.t=vn:=⟨e.t.toNat,by omega⟩
 obtain ⟨pu,hpu⟩:=AC (l:=pot) (i:=un) (by omega)
 obtain ⟨pv,hpv⟩:=AC (l:=pot) (i:=vn) (by omega)
 refine ⟨e,xx,pu,pv,un,vn,he,hx,hpu,hpv,hun,hvn,by omega,by omega,?_,?_,?_,?_,Bn hx,by omega,by omega,hpb _ _ hpu,hpb _ _ hpv,Bn hpu,Bn hpv⟩
 ·show (es.getD i e0).f.toNat=un; rw [Bn he,hun]; rfl
 ·show (es.getD i e0).t.toNat=vn; rw [Bn he,hvn]; rfl
 ·show (es.getD i e0).cost=e.cost; rw [Bn he]
 ·show (es.getD i e0).cap=e.cap; rw [Bn he]
theorem Rd.rowE {α:Type} {enc:α→List Value} {w:World} {a:Option Addr} {s:Nat} {xs:List α} (R:Rd w a s enc xs) {i:Nat} {x:α} (hx:xs[i]? = some x) {l:List Value} (he:enc x=l) (hs:l.length=s):∀ j v,l[j]? = some v→w.cell? ⟨(adr a).block,(adr a).off+i*s+j,none⟩=some v:=by
 subst he; exact R.row hx hs
section
variable {N:Int} {es:List Ed} {fl pot:List Int} {i:Nat} {e:Ed} {xx pu pv:Int} {un vn:Nat}
theorem EAt.enc (h:EAt N es fl pot i e xx pu pv un vn):Bv e=[.int .i64 (un:Int),.int .i64 (vn:Int),.int .i64 e.cap,.int .i64 e.cost]:=by
 unfold Bv; rw [h.f,h.t]
theorem EAt.fwd (h:EAt N es fl pot i e xx pu pv un vn):FM (grE N es) (Ez pot) (2*i)=[.int .i64 ((2*i:Nat):Int),.int .i64 (un:Int),.int .i64 (vn:Int),.int .i64 (e.cost+pu - pv)]:=by
 unfold FM Gr.len Gr.u Gr.v Gr.c
 rw [show 2*i % 2=0 by omega,show 2*i / 2=i by omega]
 simp only [if_true]
 rw [h.gf,h.gt,h.co,h.pu',h.pv']
theorem EAt.bwd (h:EAt N es fl pot i e xx pu pv un vn):FM (grE N es) (Ez pot) (2*i+1)=[.int .i64 ((2*i+1:Nat):Int),.int .i64 (vn:Int),.int .i64 (un:Int),.int .i64 (-(e.cost+pu - pv))]:=by
 unfold FM Gr.len Gr.u Gr.v Gr.c
 rw [show (2*i+1) % 2=1 by omega,show (2*i+1) / 2=i by omega]
 simp only [if_false,Nat.one_ne_zero]
 rw [h.gf,h.gt,h.co,h.pu',h.pv',show -e.cost+pv - pu = -(e.cost+pu - pv) by omega]
theorem EAt.room0 (h:EAt N es fl pot i e xx pu pv un vn):C6 (Cl es) (flE fl) (2*i)=e.cap - xx:=by
 unfold C6
 rw [show 2*i % 2=0 by omega,show 2*i / 2=i by omega,if_pos rfl,h.cap,h.fx]
theorem EAt.room1 (h:EAt N es fl pot i e xx pu pv un vn):C6 (Cl es) (flE fl) (2*i+1)=xx:=by
 unfold C6
 rw [show (2*i+1) % 2=1 by omega,show (2*i+1) / 2=i by omega,if_neg (by omega),h.fx]
end

theorem TI (N:Int) (a b p:Option Addr) (n c m d q r:Nat) (w:World):Ret Tryz.prog 189 #[CG N a n c,.slice b m d,.slice p q r] w fun v w'=>∃ b1 b2 b3,v = .func (.func 212) #[] #[ptr b1,ptr b2,ptr b3]∧w'.heap[b1]? = some (Bl 28 [.int .i64 N,.slice a n c])∧w'.heap[b2]? = some (Bl 29 [.slice p q r])∧w'.heap[b3]? = some (Bl 29 [.slice b m d])∧w.heap.size≤b1∧w.heap.size≤b2∧w.heap.size≤b3∧Ext [] w w':=by
 obtain ⟨w0,rfl⟩:∃ w0,w0=w:=⟨_,rfl⟩
 have H:=Ctx.start w0 []
 refine A1 (fn:=Tryz.f189) Tryz.func189 rfl [CG N a n c,.slice b m d,.slice p q r] rfl (by kernel_rfl) ?_
 refine Ag (Bs rfl [.int .i64 N,.slice a n c] (.agg _) rfl rfl H ?_)
 rintro b3 w - H
 refine Bs rfl _ (.slice _ _ _) rfl rfl H ?_
 rintro b4 w - H
 refine Bs rfl _ (.slice _ _ _) rfl rfl H ?_
 rintro b5 w - H
 refine BW rfl .nilFunc rfl ?_
 refine Ab (Aa (Ag (C1 rfl [.pointer _,.pointer _,.pointer _] rfl (BW rfl (.func _ _ _) rfl ?_))))
 refine Ab (Aa (A9 (AB (v:=(.func _ _ _)) rfl rfl rfl ?_)))
 have ho:∀ x∈[(b5,Bl 29 [.slice p q r]),(b4,Bl 29 [.slice b m d]),(b3,Bl 28 [.int .i64 N,.slice a n c])],w0.heap.size≤x.1:=fun x hx=>(H.own x hx).elim (fun h=>by cases h) id
 exact ⟨b3,b5,b4,rfl,H.get at2,H.get at0,H.get at1,ho (b3,_) (List.mem_of_getElem? (i:=2) rfl),ho (b5,_) (List.mem_of_getElem? (i:=0) rfl),ho (b4,_) (List.mem_of_getElem? (i:=1) rfl),H.ext⟩
/-- What the rounds leave. -/
structure ArcK (b1 b2 b3:Nat) (N:Int) (a b p:Option Addr) (c d r:Nat) (es:List Ed) (fl pot:List Int) (M:Mt) (w:World):Prop where
 h1:w.heap[b1]? = some (Bl 28 [.int .i64 N,.slice a es.length c])
 h2:w.heap[b2]? = some (Bl 29 [.slice p pot.length r])
 h3:w.heap[b3]? = some (Bl 29 [.slice b fl.length d])
 R:Rd w a 4 Bv es
 Rf:Rd w b 1 I1 fl
 Rp:Rd w p 1 I1 pot

set_option maxRecDepth 20000 in
set_option maxHeartbeats 8000000 in
theorem Q2 {b1 b2 b3:Nat} {N:Int} {a b p:Option Addr} {c d r:Nat} {es:List Ed} {fl pot:List Int} (hw:B1 N es fl=true) (hp:E3 N pot=true) :
  Mk Tryz.prog 212 #[ptr b1,ptr b2,ptr b3] [] (ArcK b1 b2 b3 N a b p c d r es fl pot) (Ju (grE N es) (Ez pot) (Eb (Cl es) (flE fl) es.length)):=by
 intro l w J E hJ0 hJs hEs hK hY
 obtain ⟨M0,hJ0⟩:=hJ0
 obtain ⟨hl,hri,-⟩:=BE hw
 obtain ⟨hN1,hN40,hn200,-⟩:=BR hri
 obtain ⟨hpl,-⟩:=JE hp
 obtain ⟨w0,rfl⟩:∃ w0,w0=w:=⟨_,rfl⟩
 refine A1 (fn:=Tryz.f212) Tryz.func212 rfl [.func (.yield l) #[] #[],.pointer (some ⟨b1,0,none⟩),.pointer (some ⟨b2,0,none⟩),.pointer (some ⟨b3,0,none⟩)] rfl (by kernel_rfl) ?_
 have K0:=(hK _ _ _ hJ0).2
 refine Ag (Ah rfl BU rfl (AX rfl CI rfl ((by rw [Ay K0.h1]; rfl)) ?_))
 refine AU rfl Ce rfl (Ad rfl rfl (Ab (Aa (Au (Bi 2361183241434822605024 (α:=Nat) (fun i=>[(11,.int .i64 (i:Int))]) (fun i w'=>i≤es.length∧∃ M,J (Eb (Cl es) (flE fl) i).length M w') (fun i=>es.length - i) 0 rfl ?_ ?_ ?_)))))
 ·exact ⟨rfl,trivial⟩
 ·exact ⟨Nat.zero_le _,M0,hJ0⟩
 ·rintro i j w ⟨hi,M,hJ⟩
  refine Ag (AN rfl rfl rfl (Ab (Aa (Aq (Ax _ rfl ?_ ?_)))))
  ·intro h1
   replace h1:=AF h1
   obtain ⟨e,xx,pu,pv,un,vn,A⟩:=eat (i:=i) hw hp (by omega)
   obtain ⟨he,hfx,hpu,hpv,hf,ht,hun,hvn,-,-,-,-,-,hxb,hcb,hub,hvb,-,-⟩:=id A
   have hrs:=NN (Cl es) (flE fl) i
   rw [A.room0,A.room1] at hrs
   obtain ⟨w1,rfl⟩:∃ w1,w1=w:=⟨_,rfl⟩
   have KR:∀ {z},Ext [] w1 z→ArcK b1 b2 b3 N a b p c d r es fl pot M z:=fun hz=>(hK _ _ _ (hJs _ _ _ _ hJ hz)).2
   have R:=(KR (.refl _ _)).R
   have Rf:=(KR (.refl _ _)).Rf
   have Rp:=(KR (.refl _ _)).Rp
   have H:=Ctx.start w1 []
   refine Av (Aa (Aq (Au (Ag (Ad rfl rfl (AZ R rfl Ce BC rfl rfl (by omega) (by omega) (by rfl) ?_))))))
   refine Cr _ rfl DX BC rfl rfl (Rd.rowE (KR H.ext).R he A.enc rfl) ?_
   refine Bm rfl DH H ?_
   rintro b6 w - H
   refine Af rfl rfl (BD rfl BC rfl rfl rfl (by simp [Bz]) H at0 rfl ?_)
   rintro w H
   refine Ab (Aa (DS (fun x=>x=_) B3 (by kernel_rfl) rfl ?_))
   refine A6 rfl Dq rfl (BZ rfl Bw rfl (by rintro _ rfl; exact H.drew) at0 rfl ?_)
   refine Cc rfl BF rfl (by rintro _ rfl; exact ((by rw [Ay (KR H.drew.ext).h2]; rfl))) ?_
   refine A6 rfl Dp rfl (BZ rfl BH rfl (by rintro _ rfl; exact H.drew) at0 rfl ?_)
   refine BN Rp rfl AR B2 rfl rfl (by omega) (by omega) (by rfl) ?_
   refine Cc rfl Bw rfl (by rintro _ rfl; exact (((KR H.drew.ext).Rp.fld hpu rfl (j:=0) rfl))) ?_
   refine CE rfl rfl rfl (by omega) (by omega) ?_
   refine Cc rfl BF rfl (by rintro _ rfl; exact ((by rw [Ay (KR H.drew.ext).h2]; rfl))) ?_
   refine A6 rfl Dz rfl (BZ rfl BH rfl (by rintro _ rfl; exact H.drew) at0 rfl ?_)
   refine BN Rp rfl AR B2 rfl rfl (by omega) (by omega) (by rfl) ?_
   refine Cc rfl Bw rfl (by rintro _ rfl; exact (((KR H.drew.ext).Rp.fld hpv rfl (j:=0) rfl))) ?_
   refine CW rfl rfl rfl (by omega) (by omega) ?_
   refine Co rfl rfl (BQ ?_)
   rintro _ rfl
   replace H:=H.drew
   refine Aq ?_
   obtain ⟨len,hlen⟩:∃ len,len=e.cost+pu - pv:=⟨_,rfl⟩
   rw [← hlen]
   have hf7:=A.fwd
   have hb7:=A.bwd
   rw [← hlen] at hf7 hb7
   have hb6:=(H.own _ (List.mem_cons_self ..)).elim (fun h=>by cases h) id
   have hM:=(hK _ _ _ hJ).1
   have hn6:¬ M b6:=fun h=>by have:=hM _ h; omega
   have hk6:=H.drew.get at0
   have hJ6:=hJs _ _ _ _ hJ H.drew.ext
   refine Dw 1125898833100800 (α:=Bool) (fun z=>[(49,.bool z)]) (fun z w'=>(z=true→E w')∧(z=false→w'.heap[b6]? = some (Bl 92 [.int .i64 (un:Int),.int .i64 (vn:Int),.int .i64 e.cap,.int .i64 e.cost])∧∃ M',¬ M' b6∧J (Eb (Cl es) (flE fl) i++(if 0<e.cap - xx then [2*i] else [])).length M' w')) rfl ?_ ?_
   ·skip
    refine Ff 17 B3 (by kernel_rfl) rfl rfl ?_
    refine Cc rfl BF rfl (by rintro _ rfl; exact ((by rw [Ay (KR H.drew.ext).h3]; rfl))) ?_
    refine AM rfl rfl (BN Rf rfl AR B2 rfl rfl (by omega) (by omega) (by rfl) ?_)
    refine Cc rfl Bw rfl (by rintro _ rfl; exact (((KR H.drew.ext).Rf.fld hfx rfl (j:=0) rfl))) ?_
    refine A6 rfl CU rfl (BZ rfl Bw rfl (by rintro _ rfl; exact H.drew) at0 rfl ?_)
    refine KS rfl rfl rfl (Di rfl rfl (Dc 37 rfl ?_ ?_))
    ·intro h2
     replace h2:=AF h2
     refine Ky rfl (.func _ _ _) rfl ?_
     refine AM rfl rfl (Uv rfl rfl rfl (by omega) (by omega) ?_)
     refine A6 rfl Dp rfl (BZ rfl BH rfl (by rintro _ rfl; exact H.drew) at0 rfl ?_)
     refine A6 rfl Dz rfl (BZ rfl BH rfl (by rintro _ rfl; exact H.drew) at0 rfl ?_)
     refine AM rfl rfl (VX (FM (grE N es) (Ez pot) (2*i)) rfl WB I0 (by rw [hf7]; kernel_rfl) ?_)
     refine BQ ?_
     replace H:=H.drew
     refine FD (vs:=[.agg (FM (grE N es) (Ez pot) (2*i)).toArray]) rfl rfl (hY _ _ M _ (TH (l:=Eb (Cl es) (flE fl) i) (k:=i) (by omega) (by rw [hrs,if_pos (by omega)]; rfl)) hJ6) rfl ?_
     rintro u w hu
     obtain ⟨bb,rfl,hu1,hu0⟩:∃ bb,u = .bool bb∧(bb=true→w.heap[b6]? = some (Bl 92 [.int .i64 (un:Int),.int .i64 (vn:Int),.int .i64 e.cap,.int .i64 e.cost])∧∃ M',¬ M' b6∧J ((Eb (Cl es) (flE fl) i).length+1) M' w)∧(bb=false→E w):=hu.elim (fun h=>⟨true,h.1,fun _=>let ⟨M',h1,g⟩:=h.2; ⟨g.to hk6 hn6,M',g.not (Bt hk6) hn6,h1⟩,fun h=>by cases h⟩) (fun h=>⟨false,h.1,(fun h=>by cases h),fun _=>h.2⟩)
     refine Bu rfl rfl (Am rfl rfl (.bool _) rfl (Ab (Aa ?_)))
     exact ⟨!bb,rfl,⟨rfl,trivial⟩,fun h=>hu0 (by simpa using h),fun h=>by rw [if_pos (by omega),List.length_append]; exact hu1 (by simpa using h)⟩
    ·intro h2
     replace h2:=AG h2
     refine Az rfl (Az rfl (Az rfl (Az rfl (Az rfl (Az rfl (Az rfl (Az rfl (Az rfl (BQ ?_)))))))))
     replace H:=H.drew
     refine Ae rfl (Ae rfl (A3 rfl rfl (.bool _) rfl (Ab (Aa ?_))))
     exact ⟨false,rfl,⟨rfl,trivial⟩,(fun h=>by cases h),fun _=>⟨hk6,M,hn6,by rw [if_neg (by omega),List.append_nil]; exact hJ6⟩⟩
   ·rintro z j2 w ⟨hz1,hz0⟩
    refine Ax _ rfl ?_ ?_
    ·intro h2
     refine A9 (Al (A4 (Al (Al (A4 (EM rfl rfl ?_))))))
     exact .inr (hz1 h2)
    ·intro h2
     obtain ⟨hk7,M7,hn7,hJ7⟩:=hz0 h2
     obtain ⟨w7,rfl⟩:∃ z,z=w:=⟨_,rfl⟩
     have K7:=(hK _ _ _ hJ7).2
     have H:=Ctx.start w7 []
     refine Av (Aa (Ag (AX rfl BF rfl ((by rw [Ay K7.h3]; rfl)) ?_)))
     refine Ad rfl rfl (AZ Rf rfl AR B2 rfl rfl (by omega) (by omega) (by rfl) ?_)
     refine AX rfl Bw rfl ((K7.Rf.fld hfx rfl (j:=0) rfl)) ?_
     refine C0 rfl rfl rfl (Ak rfl rfl (A8 55 rfl ?_ ?_))
     ·intro h3
      replace h3:=AF h3
      have hat:=TH (g:=grE N es) (p:=Ez pot) (cap:=Cl es) (x:=flE fl) (m:=es.length) (l:=Eb (Cl es) (flE fl) i++(if 0<e.cap - xx then [2*i] else [])) (k:=i) (a:=2*i+1) (r:=[]) (by omega) (by rw [hrs,if_pos h3,List.append_assoc])
      refine Cd rfl (.func _ _ _) rfl ?_
      refine Ad rfl rfl (Cf rfl rfl rfl (by omega) (by omega) ?_)
      refine Ap rfl rfl rfl (by omega) (by omega) ?_
      refine Ah rfl Dz rfl (AX rfl BH rfl ((by rw [Ay hk7]; rfl)) ?_)
      refine Ah rfl Dp rfl (AX rfl BH rfl ((by rw [Ay hk7]; rfl)) ?_)
      refine Ad rfl rfl (EN rfl rfl (by omega) (by omega) ?_)
      refine CC (FM (grE N es) (Ez pot) (2*i+1)) rfl WB I0 (by rw [hb7]; kernel_rfl) ?_
      refine FD (vs:=[.agg (FM (grE N es) (Ez pot) (2*i+1)).toArray]) rfl rfl (hY _ _ M7 _ hat hJ7) rfl ?_
      rintro u w hu
      obtain ⟨bb,rfl,hu1,hu0⟩:∃ bb,u = .bool bb∧(bb=true→∃ M',J ((Eb (Cl es) (flE fl) i++(if 0<e.cap - xx then [2*i] else [])).length+1) M' w)∧(bb=false→E w):=hu.elim (fun h=>⟨true,h.1,fun _=>let ⟨M',h1,_⟩:=h.2; ⟨M',h1⟩,fun h=>by cases h⟩) (fun h=>⟨false,h.1,(fun h=>by cases h),fun _=>h.2⟩)
      refine Bu rfl rfl (Am rfl rfl (.bool _) rfl (Ab (Aa (Ax _ rfl ?_ ?_))))
      ·intro h4
       replace h4:=Bp h4
       refine A9 (A4 (Al (Al (A4 (EM rfl rfl ?_)))))
       exact .inr (hu0 (by simpa using h4))
      ·intro h4
       replace h4:=Bq h4
       refine Av (A5 (Aa (Aw (Ap rfl rfl rfl (by omega) (by omega) ?_))))
       refine Ad rfl rfl (Ab (Aa ?_))
       refine ⟨i+1,rfl,⟨rfl,trivial⟩,⟨by omega,?_⟩,by omega⟩
       rw [hrs,if_pos h3,← List.append_assoc,List.length_append]
       exact hu1 (by simpa using h4)
     ·intro h3
      replace h3:=AG h3
      refine Ae rfl (Ae rfl (Ae rfl (Ae rfl (Ae rfl (Ae rfl (Ae rfl (Ae rfl (Ae rfl (Ae rfl ?_)))))))))
      refine Ae rfl (Ae rfl (Ae rfl (A3 rfl rfl (.bool _) rfl (Ab (Aa (Fg rfl (Av (A5 (Aa (Aw (Ap rfl rfl rfl (by omega) (by omega) ?_)))))))))))
      refine Ad rfl rfl (Ab (Aa ?_))
      refine ⟨i+1,rfl,⟨rfl,trivial⟩,⟨by omega,M7,?_⟩,by omega⟩
      rw [hrs,if_neg h3,List.append_nil]
      exact hJ7
  ·intro h1
   replace h1:=AG h1
   refine Bd (Aj (Aj (AD (CJ rfl rfl ?_))))
   obtain rfl:i=es.length:=by omega
   exact .inl ⟨M,by unfold Ju; rw [List.length_map]; exact hJ⟩

end Go.Proofs.YtapphbmlkdhnmaaGreat

/- Whether numbers fit what flows: the walk. -/
namespace Go.Proofs.YtapphbmlkdhnmaaGreat
open Go.GV
attribute [local irreducible] A2 W Wq Wt

def arcB (g:Gr) (p:Nat→Int) (a:Nat):Bool:=decide (0≤g.len p a)
def GD (N:Int) (es:List Ed) (fl pot:List Int):Bool:=B1 N es fl && (E3 N pot && (Eb (Cl es) (flE fl) es.length).all (arcB (grE N es) (Ez pot)))

set_option maxRecDepth 20000 in
set_option maxHeartbeats 8000000 in
theorem Zh (N:Int) (a b p:Option Addr) (n c m d q r:Nat) (es:List Ed) (fl pot:List Int) (w:World) (R:Rd w a 4 Bv es) (hn:es.length=n) (hN:I64 N) (Rf:Rd w b 1 I1 fl) (hm:fl.length=m) (hm2:m≤9223372036854775000) (Rp:Rd w p 1 I1 pot) (hq:pot.length=q) (hq2:q≤9223372036854775000) :
  Ret Tryz.prog 188 #[CG N a n c,.slice b m d,.slice p q r] w fun v w'=>v = .bool (GD N es fl pot)∧Ext [] w w':=by
 subst hn hm hq
 obtain ⟨w0,rfl⟩:∃ w0,w0=w:=⟨_,rfl⟩
 have H:=Ctx.start w0 []
 refine Gc (fn:=Tryz.f188) Tryz.func188 rfl [CG N a es.length c,.slice b fl.length d,.slice p pot.length r] rfl (by kernel_rfl) ?_
 refine Ag (Bs rfl [.int .i64 N,.slice a es.length c] (.agg _) rfl rfl H ?_)
 rintro b3 w - H
 refine Bm rfl zc_4 H ?_
 rintro b6 w - H
 refine Ab (Aa (Aq (Ag (Bh rfl Cu Ci rfl H at1 rfl (An rfl rfl (Ao rfl OZ (Jd N a b es.length c fl.length d es fl _ (R.ext0 H.ext) rfl hN (Rf.ext0 H.ext) rfl hm2) rfl ?_))))))
 rintro v w ⟨rfl,hx12⟩
 replace H:=H.call hx12
 refine Bu rfl rfl (Ak rfl rfl (A8 14 rfl ?_ ?_))
 ·intro h1
  replace h1:=Bp h1
  refine Ae rfl (Ae rfl (Ae rfl (Ae rfl (Ae rfl (Am rfl rfl (.bool _) rfl (Ab (Aa (CM rfl (Ag (Cj (.bool _) rfl Pd rfl rfl rfl H at0 (by decide) ?_))))))))))
  rintro w H
  refine Ab (Aa (A9 (Al (I9 rfl rfl ?_))))
  have h1':B1 N es fl=false:=by simpa using h1
  exact ⟨_,ES Hf (by rw [Ay (H.get at0)]; rfl),congrArg Value.bool (by unfold GD; rw [h1']; rfl),H.ext⟩
 ·intro h1
  replace h1:=Bq h1
  have h1':B1 N es fl=true:=by simpa using h1
  refine An rfl rfl (AU rfl AR rfl (Ah rfl Dn rfl (AA rfl BH rfl H at1 rfl (CH rfl rfl rfl (A3 rfl rfl (.bool _) rfl (Ab (Aa (Ax _ rfl ?_ ?_))))))))
  ·intro h2
   replace h2:=CO h2
   refine Ag (Cj (.bool _) rfl Pd rfl rfl rfl H at0 (by decide) ?_)
   rintro w H
   refine Ab (Aa (A9 (Al (I9 rfl rfl ?_))))
   have h2':E3 N pot=false:=by unfold E3; rw [decide_eq_false h2,Bool.and_false]
   exact ⟨_,ES Hf (by rw [Ay (H.get at0)]; rfl),congrArg Value.bool (by unfold GD; rw [h2',Bool.false_and,Bool.and_false]),H.ext⟩
  ·intro h2
   replace h2:=CP h2
   have hpl:(pot.length:Int)=N:=by simpa using h2
   refine Av (Aa (Aq (Ag (An rfl rfl (AU rfl AR rfl (Ad rfl rfl (Ab (Aa (Au (Bi 17171480832 (α:=Nat) (fun i=>[(23,.int .i64 (i:Int))]) (fun i w'=>i≤pot.length∧Ctx w0 [] w' [(b6,Bl 4 [.bool false]),(b3,Bl 28 [.int .i64 N,.slice a es.length c])]∧∀ (k:Nat) (x:Int),k<i→pot[k]? = some x→I8 x=true) (fun i=>pot.length - i) 0 rfl ?_ ?_ ?_))))))))))
   ·exact ⟨rfl,trivial⟩
   ·exact ⟨Nat.zero_le _,H,fun k x h=>absurd h (Nat.not_lt_zero _)⟩
   ·rintro i j w ⟨hi,H,hb⟩
    refine Ag (AN rfl rfl rfl (Ab (Aa (Aq (Ax _ rfl ?_ ?_)))))
    ·intro h3
     replace h3:=AF h3
     obtain ⟨x,h7x⟩:=AC (l:=pot) (i:=i) (by omega)
     refine Av (Aa (Aq (Au (Ag (AZ Rp rfl AR B2 rfl rfl (by omega) (by omega) (by rfl) ?_)))))
     refine AX rfl Bw rfl (((Rp.ext0 H.ext).fld h7x rfl (j:=0) rfl)) ?_
     refine Af rfl rfl (Ab (Aa (Ag (B5 (α:=Unit) 8455716864 (fun _=>[(32,.bool (!I8 x))]) (fun _ w'=>Ctx w0 [] w' [(b6,Bl 4 [.bool false]),(b3,Bl 28 [.int .i64 N,.slice a es.length c])]) rfl ?_ ?_))))
     ·refine Ad rfl rfl (AN rfl rfl rfl (Ak rfl rfl (A8 29 rfl ?_ ?_)))
      ·intro h1
       replace h1:=AF h1
       refine Ae rfl (Ae rfl (Am rfl rfl (.bool _) rfl (Ab ?_)))
       exact ⟨rfl,(),rfl,⟨congrArg Value.bool (by unfold I8; rw [Bool.eq_iff_iff]; simp_all; try omega),trivial⟩,H⟩
      ·intro h2
       replace h2:=AG h2
       refine Ad rfl rfl (C0 rfl rfl rfl (A3 rfl rfl (.bool _) rfl (Ab ?_)))
       exact ⟨rfl,(),rfl,⟨congrArg Value.bool (by unfold I8; rw [Bool.eq_iff_iff]; simp_all; try omega),trivial⟩,H⟩
     rintro - j32 w H
     refine Ax _ rfl ?_ ?_
     ·intro h4
      replace h4:=Bp h4
      refine Ag (Cj (.bool _) rfl Pd rfl rfl rfl H at0 (by decide) ?_)
      rintro w H
      refine Ab (Aa (A9 (A4 (Al (Al (A4 (Al (I9 rfl rfl ?_))))))))
      have h2':E3 N pot=false:=by unfold E3; rw [D5 h7x (by simpa using h4),Bool.false_and]
      exact ⟨_,ES Hf (by rw [Ay (H.get at0)]; rfl),congrArg Value.bool (by unfold GD; rw [h2',Bool.false_and,Bool.and_false]),H.ext⟩
     ·intro h4
      replace h4:=Bq h4
      refine Av (A5 (Aa (Aw (Ap rfl rfl rfl (by omega) (by omega) ?_))))
      refine Ad rfl rfl (Ab (Aa ?_))
      refine ⟨i+1,rfl,⟨rfl,trivial⟩,⟨by omega,H,fun k y hk hy=>?_⟩,by omega⟩
      rcases Nat.lt_or_ge k i with h7 | h7
      ·exact hb k y h7 hy
      ·obtain rfl:k=i:=by omega
       rw [h7x] at hy
       cases hy
       simpa using h4
    ·intro h3
     replace h3:=AG h3
     have hp:E3 N pot=true:=by
      unfold E3
      rw [E8 fun k x hk hx=>hb k x (by omega) hx,decide_eq_true hpl]; rfl
     obtain ⟨hl,hri,-⟩:=BE h1'
     obtain ⟨hN1,hN40,hn200,-⟩:=BR hri
     have hfN:GD N es fl pot=(Eb (Cl es) (flE fl) es.length).all (arcB (grE N es) (Ez pot)):=by unfold GD; rw [h1',hp]; rfl
     refine Bd (Aj (Aj (AD (Aa (Aq (Ag (Bh rfl Cu Ci rfl H at1 rfl (An rfl rfl (An rfl rfl ?_)))))))))
     have hlt:=H.lt (k:=0) rfl
     have hlt1:=H.lt (k:=1) rfl
     refine Ao rfl Wx (TI N a b p es.length c fl.length d pot.length r _) rfl ?_
     rintro v w ⟨x1,x2,x3,rfl,hb1,hb2,hb3,hs1,hs2,hs3,hx37⟩
     have hbb:=(H.call hx37)
     have hx7:=H.ext.trans hx37
     have hs07:=H.size
     refine Ab (Aa (Au ?_))
     obtain ⟨ws,rfl⟩:∃ z,z=w:=⟨_,rfl⟩
     have hk6:=hbb.lt (k:=0) rfl
     have hk1:=Bt hb1
     have hk2:=Bt hb2
     have hk3:=Bt hb3
     have hk66:=hbb.get at0
     have hs0:=hbb.size
     have h60:w0.heap.size≤b6:=(hbb.own _ (List.mem_cons_self ..)).elim (fun h=>by cases h) id
     refine JW (gf:=212) rfl W1 (Q2 (b1:=x1) (b2:=x2) (b3:=x3) (a:=a) (b:=b) (p:=p) (c:=c) (d:=d) (r:=r) h1' hp) (by kernel_rfl) (by kernel_rfl) (fun v hv=>by obtain ⟨p,-,rfl⟩:=List.mem_map.1 hv; rfl)
      (fun i M w'=>(M=fun _=>False)∧Ext [] w0 w'∧w'.heap[b6]? = some (Bl 4 [.bool false])∧w'.heap[x1]? = some (Bl 28 [.int .i64 N,.slice a es.length c])∧w'.heap[x2]? = some (Bl 29 [.slice p pot.length r])∧w'.heap[x3]? = some (Bl 29 [.slice b fl.length d])∧∀ (k:Nat) (y:Nat),k<i→(Eb (Cl es) (flE fl) es.length)[k]? = some y→arcB (grE N es) (Ez pot) y=true)
      (fun w'=>Ext [] w0 w'∧w'.heap[b6]? = some (Bl 4 [.bool false])∧(Eb (Cl es) (flE fl) es.length).all (arcB (grE N es) (Ez pot))=false) (by simp)
      (fun w2 hx2 _=>⟨_,rfl,hx7.trans hx2,hx2.to hk66 (by simp),hx2.to hb1 (by simp),hx2.to hb2 (by simp),hx2.to hb3 (by simp),fun k y h=>absurd h (Nat.not_lt_zero _)⟩)
      (fun i M w' w'' hJ hx=>⟨hJ.1,hJ.2.1.then hx (fun z hz => .inr (by simp only [List.mem_cons,List.not_mem_nil,or_false] at hz; omega)),hx.to hJ.2.2.1 (by simp; omega),hx.to hJ.2.2.2.1 (by simp; omega),hx.to hJ.2.2.2.2.1 (by simp; omega),hx.to hJ.2.2.2.2.2.1 (by simp; omega),hJ.2.2.2.2.2.2⟩)
      (fun w' w'' hE hx=>⟨hE.1.then hx (fun z hz => .inr (by simp only [List.mem_cons,List.not_mem_nil,or_false] at hz; omega)),hx.to hE.2.1 (by simp; omega),hE.2.2⟩)
      (fun i M w' hJ=>⟨fun y hy=>by rw [hJ.1] at hy; exact hy.elim,hJ.2.2.2.1,hJ.2.2.2.2.1,hJ.2.2.2.2.2.1,R.ext0 hJ.2.1,Rf.ext0 hJ.2.1,Rp.ext0 hJ.2.1⟩) ?_ ?_ ?_
     ·rintro i v _ w hxv ⟨rfl,hx0,g6,g1,g2,g3,hall⟩ hsz
      unfold Ju at hxv
      rw [List.getElem?_map] at hxv
      obtain ⟨y,hy,rfl⟩:=Option.map_eq_some_iff.1 hxv
      obtain ⟨w1,rfl⟩:∃ z,z=w:=⟨_,rfl⟩
      have H:=Ctx.start w1 []
      refine Aw (Bm rfl I0 H ?_)
      rintro b9 w - H
      refine BD rfl Gq rfl rfl rfl (by exact MD _ _ _) H at0 rfl ?_
      rintro w H
      refine Ab ?_
      refine ⟨H.ext,fun wB hxB=>?_⟩
      have hb9:=(H.own _ (List.mem_cons_self ..)).elim (fun h=>by cases h) id
      have k9:=hxB.to (H.get at0) (by rw [List.mem_singleton]; omega)
      have k6:=hxB.to (H.ext.to g6 (by simp)) (by rw [List.mem_singleton]; omega)
      have k1:=hxB.to (H.ext.to g1 (by simp)) (by rw [List.mem_singleton]; omega)
      have k2:=hxB.to (H.ext.to g2 (by simp)) (by rw [List.mem_singleton]; omega)
      have k3:=hxB.to (H.ext.to g3 (by simp)) (by rw [List.mem_singleton]; omega)
      have hx0B:=(hx0.trans H.ext).then hxB fun z hz => .inr (by rw [List.mem_singleton.1 hz]; omega)
      obtain ⟨w2,rfl⟩:∃ z,z=wB:=⟨_,rfl⟩
      replace H:=Ctx.start1 k6
      have hn9:b9∉[b6]:=by rw [List.mem_singleton]; omega
      refine Au (Ag (Ah rfl Mw rfl (AX rfl Bw rfl ((H.old (Ay k9 _) hn9)) ?_)))
      refine AN rfl rfl rfl (Ab (Aa (Ax _ rfl ?_ ?_)))
      ·intro h5
       replace h5:=AF h5
       refine Ag (Cj (.bool _) rfl Pd rfl rfl rfl H at0 (by decide) ?_)
       rintro w H
       refine Ab (Aa (A9 (A4 ?_)))
       exact ⟨⟨hx0B.then H.ext fun z hz => .inr (by rw [List.mem_singleton.1 hz]; exact h60),H.get at0,D5 hy (decide_eq_false (by omega))⟩,_,H.ext,by rw [List.mem_singleton]; omega,by rw [List.mem_singleton]; omega⟩
      ·intro h5
       replace h5:=AG h5
       refine Av (A5 ?_)
       refine ⟨_,⟨rfl,hx0B,k6,k1,k2,k3,fun k z hk hz=>?_⟩,fun _ h=>h.elim,[],.refl _ _,fun _ h=>by cases h⟩
       rcases Nat.lt_or_ge k i with h7 | h7
       ·exact hall k z h7 hz
       ·obtain rfl:k=i:=by omega
        rw [hy] at hz
        cases hz
        exact decide_eq_true (by omega)
     ·rintro M w ⟨-,hx0,g6,-,-,-,hall⟩ hD
      have hlen:(Ju (grE N es) (Ez pot) (Eb (Cl es) (flE fl) es.length)).length=(Eb (Cl es) (flE fl) es.length).length:=by unfold Ju; rw [List.length_map]
      rw [hlen] at hall
      replace H:=Ctx.start1 g6
      refine A5 (Aa (Ag (Cj (.bool _) rfl Pd rfl rfl rfl H at0 (by decide) ?_)))
      rintro w H
      refine Ab (Aa (A9 (I9 rfl rfl (Gd (by rw [H.ext.block _ (Bt hD) (by rw [List.mem_singleton]; omega)]; exact hD) rfl fun wF hxF=>?_))))
      exact ⟨_,ES Hf (by rw [Ay (hxF.to (H.get at0) (by rw [List.mem_singleton]; omega))]; rfl),congrArg Value.bool (by rw [hfN,E8 fun k x hk hx=>hall k x hk hx]),(hx0.then H.ext fun z hz => .inr (by rw [List.mem_singleton.1 hz]; exact h60)).then hxF fun z hz => .inr (by rw [List.mem_singleton.1 hz]; omega)⟩
     ·rintro w ⟨hx0,g6,hall⟩ hD
      refine A4 (Al (I9 rfl rfl (Gd hD rfl fun wF hxF=>?_)))
      exact ⟨_,ES Hf (by rw [Ay (hxF.to g6 (by rw [List.mem_singleton]; omega))]; rfl),congrArg Value.bool (by rw [hfN,hall]),hx0.then hxF fun z hz => .inr (by rw [List.mem_singleton.1 hz]; omega)⟩

end Go.Proofs.YtapphbmlkdhnmaaGreat

/- Plain law of shortest ways: how long the heap may get. -/
namespace Go.Proofs.YtapphbmlkdhnmaaGreat
open Go.GV

def Hm (A:List Ar) (v:Nat):Int:=((A.filter fun a=>decide (a.1=v)).length:Nat)
/-- How often a node may be gone on from. -/
def gv (n:Nat) (D:Int) (s:Lb) (hp:List Tg) (v:Nat):Int:=if s.d v ≠ -1∧s.d v≤D then (hp.count (s.d v,v):Nat)+(s.h v:Nat) else (n:Nat)+1
def psi (n:Nat) (A:List Ar) (D:Int) (s:Lb) (hp:List Tg):Int:=(hp.length:Nat)+Bx (fun v=>Hm A v*gv n D s hp v) n
structure PI (n:Nat) (D:Int) (s:Lb) (hp:List Tg):Prop where
 keys:∀ t∈hp,D≤t.1
 item:∀ t∈hp,s.d t.2 ≠ -1∧s.d t.2≤t.1
 lab:∀ v,s.d v ≠ -1→hp.count (s.d v,v)+s.h v≤n
theorem Xc (A:List Ar) (v:Nat):0≤Hm A v:=by unfold Hm; omega
theorem Zi {n:Nat} {D:Int} {s:Lb} {hp hq:List Tg} (h:hp.Perm hq) (v:Nat):gv n D s hp v=gv n D s hq v:=by unfold gv; rw [h.count_eq]
theorem ME {n:Nat} {A:List Ar} {D:Int} {s:Lb} {hp hq:List Tg} (h:hp.Perm hq):psi n A D s hp=psi n A D s hq:=by
 unfold psi
 rw [h.length_eq,C3 fun i _=>by rw [Zi h]]
theorem PI.perm {n:Nat} {D:Int} {s:Lb} {hp hq:List Tg} (P:PI n D s hp) (h:hp.Perm hq):PI n D s hq :=
 ⟨fun t ht=>P.keys t (h.mem_iff.2 ht),fun t ht=>P.item t (h.mem_iff.2 ht),fun v hv=>by rw [← h.count_eq]; exact P.lab v hv⟩
theorem gv0 {n:Nat} {D:Int} {s:Lb} {hp:List Tg} (v:Nat):0≤gv n D s hp v:=by unfold gv; split <;> omega
theorem Pm {n:Nat} {A:List Ar} {D:Int} {s:Lb} {hp:List Tg}:(hp.length:Int)≤psi n A D s hp:=by
 have:=Gw (f:=fun v=>Hm A v*gv n D s hp v) (k:=n) fun i _=>Int.mul_nonneg (Xc A i) (gv0 i)
 unfold psi; omega
theorem PI.pop {n:Nat} {A:List Ar} {D:Int} {s:Lb} {t:Tg} {hp:List Tg} (P:PI n D s (t::hp)) (hmin:∀ x∈hp,t.1≤x.1) (ht:t.2<n) :
  PI n t.1 s hp∧psi n A t.1 s hp+1≤psi n A D s (t::hp)∧(t.1=s.d t.2→psi n A t.1 s hp+1+Hm A t.2≤psi n A D s (t::hp)):=by
 have hD:=P.keys t (List.mem_cons_self ..)
 have hc:∀ v,((t::hp).count (s.d v,v):Int)=(hp.count (s.d v,v):Int)+one (t=(s.d v,v)):=fun v=>by
  rw [List.count_cons]
  by_cases e:t=(s.d v,v)
  ·rw [if_pos (by rw [e]; exact beq_self_eq_true _),one,if_pos e]; omega
  ·rw [if_neg (by simpa using e),one,if_neg e]; omega
 have hone:∀ v,0≤one (t=(s.d v,v)):=fun v=>by unfold one; split <;> omega
 have hg:∀ v,gv n t.1 s hp v≤gv n D s (t::hp) v∧(t=(s.d v,v)→gv n t.1 s hp v+1≤gv n D s (t::hp) v):=fun v=>by
  have h1:=hc v
  have h2:=hone v
  have h4:t=(s.d v,v)→one (t=(s.d v,v))=1:=fun e=>if_pos e
  have h5:t=(s.d v,v)→t.1=s.d v∧s.d v ≠ -1:=fun e=>⟨by rw [e],by
   have:=(P.item t (List.mem_cons_self ..)).1
   rw [show t.2=v by rw [e]] at this
   exact this⟩
  unfold gv
  by_cases a1:s.d v ≠ -1∧s.d v≤t.1
  ·have h3:=P.lab v a1.1
   rw [if_pos a1]
   by_cases a2:s.d v ≠ -1∧s.d v≤D
   ·rw [if_pos a2]
    refine ⟨by omega,fun e=>?_⟩
    have:=h4 e
    omega
   ·rw [if_neg a2]
    refine ⟨by omega,fun e=>?_⟩
    have:=h4 e
    omega
  ·rw [if_neg a1,if_neg (fun h=>a1 ⟨h.1,by omega⟩)]
   refine ⟨Int.le_refl _,fun e=>?_⟩
   have:=h5 e
   exact absurd ⟨this.2,by omega⟩ a1
 refine ⟨⟨hmin,fun x hx=>P.item x (List.mem_cons_of_mem _ hx),fun v hv=>?_⟩,?_,fun e=>?_⟩
 ·have h1:=hc v
  have h2:=hone v
  have h3:=P.lab v hv
  omega
 ·have h1:=I2 (f:=fun v=>Hm A v*gv n t.1 s hp v) (g:=fun v=>Hm A v*gv n D s (t::hp) v) (k:=n) fun i _=>Int.mul_le_mul_of_nonneg_left (hg i).1 (Xc A i)
  unfold psi
  rw [List.length_cons]
  omega
 ·have h1:=I2 (f:=fun v=>Hm A v*gv n t.1 s hp v) (g:=fun v=>Hm A v*gv n D s (t::hp) v - one (t.2=v)*Hm A v) (k:=n) fun i _=>by
   by_cases e1:t.2=i
   ·subst e1
    have h2:=Int.mul_le_mul_of_nonneg_left ((hg t.2).2 (Prod.ext e rfl)) (Xc A t.2)
    rw [Int.mul_add] at h2
    rw [one,if_pos rfl]
    omega
   ·have h2:=Int.mul_le_mul_of_nonneg_left (hg i).1 (Xc A i)
    rw [one,if_neg e1]
    omega
  rw [Jb,FY (fun v=>Hm A v) ht] at h1
  unfold psi
  rw [List.length_cons]
  omega
theorem PI.relax {n:Nat} {A:List Ar} {D:Int} {s:Lb} {hp:List Tg} {a:Ar} (P:PI n D s hp) (hs:s.d a.1=D) (hD0:0≤D) (hl:0≤a.2.2) (hlow:∀ v,s.d v = -1∨0≤s.d v) (hhop:(FJ s a).d a.2.1 ≠ -1→(FJ s a).h a.2.1+1≤n) :
  PI n D (FJ s a) (GQ s a hp)∧psi n A D (FJ s a) (GQ s a hp)≤psi n A D s hp+1:=by
 by_cases hb:D7 s a.2.1 (s.d a.1+a.2.2) (s.h a.1+1)
 ·have hS:FJ s a=Gx s a.2.1 (s.d a.1+a.2.2) (s.h a.1+1):=by unfold FJ; rw [if_pos hb]
  have hH:GQ s a hp=(s.d a.1+a.2.2,a.2.1)::hp:=by unfold GQ; rw [if_pos hb]
  rw [hS] at hhop
  rw [hS,hH]
  obtain ⟨d',hd'⟩:∃ d',d'=s.d a.1+a.2.2:=⟨_,rfl⟩
  obtain ⟨h',hh'⟩:∃ h',h'=s.h a.1+1:=⟨_,rfl⟩
  obtain ⟨v,hv⟩:∃ v,v=a.2.1:=⟨_,rfl⟩
  rw [← hd',← hh',← hv] at hb hhop ⊢
  have hdD:D≤d':=by omega
  have p1:(Gx s v d' h').d v=d':=if_pos rfl
  have p2:(Gx s v d' h').h v=h':=if_pos rfl
  have p3:∀ x,x≠v→(Gx s v d' h').d x=s.d x:=fun x hx=>if_neg hx
  have p4:∀ x,x≠v→(Gx s v d' h').h x=s.h x:=fun x hx=>if_neg hx
  have hsD:=hlow a.1
  unfold D7 at hb
  have hc1:∀ x,x≠v→((d',v)::hp).count (s.d x,x)=hp.count (s.d x,x):=fun x hx=>by
   rw [List.count_cons,if_neg (by simp; intro _ h; exact hx h.symm)]; rfl
  have hc2:((d',v)::hp).count (d',v)=hp.count (d',v)+1:=by rw [List.count_cons_self]
  have hc3:s.d v = -1∨d'<s.d v→hp.count (d',v)=0:=fun h=>List.count_eq_zero.2 fun hm=>by
   have:=P.item _ hm
   dsimp only at this
   omega
  have h0:d' ≠ -1:=by omega
  have hh1:=hhop (by rw [p1]; exact h0)
  rw [p2] at hh1
  have hlabv:((d',v)::hp).count (d',v)+h'≤n:=by
   rw [hc2]
   rcases hb with h | h | ⟨h,hlt⟩
   ·rw [hc3 (.inl h)]; omega
   ·rw [hc3 (.inr h)]; omega
   ·have:=P.lab v (by rw [← h]; exact h0)
    rw [← h] at this
    omega
  have hgx:∀ x,gv n D (Gx s v d' h') ((d',v)::hp) x≤gv n D s hp x:=fun x=>by
   unfold gv
   by_cases e:x=v
   ·subst e
    rw [p1,p2]
    by_cases a1:d' ≠ -1∧d'≤D
    ·rw [if_pos a1]
     by_cases a2:s.d x ≠ -1∧s.d x≤D
     ·rw [if_pos a2]
      have e3:d'=s.d x∧h'<s.h x:=by omega
      rw [hc2,← e3.1]
      omega
     ·rw [if_neg a2]; omega
    ·rw [if_neg a1]
     rw [if_neg (fun h=>a1 ⟨h0,by omega⟩)]
     exact Int.le_refl _
   ·rw [p3 x e,p4 x e,hc1 x e]
    exact Int.le_refl _
  refine ⟨⟨fun t ht=>?_,fun t ht=>?_,fun x hx=>?_⟩,?_⟩
  ·rcases List.mem_cons.1 ht with rfl | ht
   ·exact hdD
   ·exact P.keys t ht
  ·rcases List.mem_cons.1 ht with rfl | ht
   ·rw [p1]; exact ⟨h0,Int.le_refl _⟩
   ·obtain ⟨i1,i2⟩:=P.item t ht
    by_cases e:t.2=v
    ·rw [e,p1]
     rw [e] at i1 i2
     exact ⟨h0,by omega⟩
    ·rw [p3 _ e]; exact ⟨i1,i2⟩
  ·by_cases e:x=v
   ·subst e; rw [p1,p2]; exact hlabv
   ·rw [p3 x e,p4 x e,hc1 x e]
    rw [p3 x e] at hx
    exact P.lab x hx
  ·have h1:=I2 (f:=fun x=>Hm A x*gv n D (Gx s v d' h') ((d',v)::hp) x) (g:=fun x=>Hm A x*gv n D s hp x) (k:=n) fun i _=>Int.mul_le_mul_of_nonneg_left (hgx i) (Xc A i)
   unfold psi
   rw [List.length_cons]
   omega
 ·have hS:FJ s a=s:=by unfold FJ; rw [if_neg hb]
  have hH:GQ s a hp=hp:=by unfold GQ; rw [if_neg hb]
  rw [hS,hH]
  exact ⟨P,by omega⟩

end Go.Proofs.YtapphbmlkdhnmaaGreat
