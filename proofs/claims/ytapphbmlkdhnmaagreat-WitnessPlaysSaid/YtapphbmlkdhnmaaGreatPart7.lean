/- Part 7 of the proof. -/
import Derived.Test.YtapphbmlkdhnmaaGreatPart2
import Derived.Test.YtapphbmlkdhnmaaGreatPart6
import Derived.Test.YtapphbmlkdhnmaaGreatPart4
import Derived.Test.YtapphbmlkdhnmaaGreatPart3
/- Nets with other caps; phases: plain law. -/
namespace Go.Proofs.YtapphbmlkdhnmaaGreat
open Go.GV

theorem OS.setf {α:Type} {a:Option Addr} {n c s:Nat} {full:List Value} {enc:α→List Value} {L:List α} (O:OS a n c s full (L.flatMap enc)) (hs:∀ x,(enc x).length=s) {i j:Nat} {x y:α} {v:Value} (hx:L[i]? = some x) (hj:j<s) (hy:enc y=(enc x).set j v):OS a n c s (full.set (i*s+j) v) ((L.set i y).flatMap enc):=by
 refine ⟨O.zero,O.none',by rw [List.length_set]; exact O.len,O.le,?_⟩;rw [O.split,Zp (fun z _=>hs z) hx hj hy];have h1:=O.llen;rw [E9 fun z _=>hs z] at h1;exact List.take_left' (by rw [E9 fun z _=>hs z,List.length_set,h1])

/-- The edges, with other caps. -/
def edC (es:List Ed) (c:Nat→Int) (i:Nat):Ed:={ es.getD i e0 with cap:=c i }
def esC (es:List Ed) (c:Nat→Int):List Ed:=(List.range es.length).map (edC es c)
theorem I3 (es:List Ed) (c:Nat→Int):(esC es c).length=es.length:=by unfold esC; simp
theorem I4 {es:List Ed} {c:Nat→Int} {i:Nat} (h:i<es.length):(esC es c)[i]? = some (edC es c i):=DF h
theorem JA {es:List Ed} {c d:Nat→Int} (h:∀ i,i<es.length→c i=d i):esC es c=esC es d:=List.map_congr_left fun i hi=>by unfold edC; rw [h i (List.mem_range.1 hi)]
theorem Un {es:List Ed} {c d:Nat→Int} {i:Nat} {e:Ed} (he:edC es d i=e) (h:∀ j,j<es.length→j≠i→d j=c j):(esC es c).set i e=esC es d:=Jx he fun j hj hn=>by unfold edC; rw [h j hj hn]
theorem Nn (es:List Ed):esC es (Cv es)=es:=by
 refine List.ext_getElem? fun i=>?_
 rcases Nat.lt_or_ge i es.length with h | h
 ·obtain ⟨e,he⟩:=AE h;rw [I4 h,he];unfold edC Cv;rw [Bn he]
 ·rw [List.getElem?_eq_none (by rw [I3]; exact h),List.getElem?_eq_none h]
theorem Aeb {es:List Ed} {c:Nat→Int} {i:Nat} (h:i<es.length):Cv (esC es c) i=c i:=by
 unfold Cv; rw [Bn (I4 h)]; rfl
theorem grE_C (N:Int) (es:List Ed) (c:Nat→Int):grE N (esC es c)=grE N es:=by
 have h:∀ i,((esC es c).getD i e0).f=(es.getD i e0).f∧((esC es c).getD i e0).t=(es.getD i e0).t∧((esC es c).getD i e0).cost=(es.getD i e0).cost:=fun i=>by
  rcases Nat.lt_or_ge i es.length with h | h
  ·rw [Bn (I4 h)]; exact ⟨rfl,rfl,rfl⟩
  ·rw [List.getD_eq_getElem?_getD,List.getElem?_eq_none (by rw [I3]; exact h),List.getD_eq_getElem?_getD,List.getElem?_eq_none h];exact ⟨rfl,rfl,rfl⟩
 unfold grE;rw [I3]
 congr 1
 ·funext i; rw [(h i).1]
 ·funext i; rw [(h i).2.1]
 ·funext i; rw [(h i).2.2]
theorem Oz {α:Type} {f g:α→Nat}:∀ {l:List α},(∀ x∈l,f x≤g x)→(l.map f).sum≤(l.map g).sum
 | [],_=>Nat.le_refl _
 | x::l,h=>by
  have h1:=h x (List.mem_cons_self ..);have h2:=Oz (l:=l) fun y hy=>h y (List.mem_cons_of_mem _ hy);simp only [List.map_cons,List.sum_cons];omega
theorem Uo {N:Int} {es:List Ed} {c:Nat→Int} (h:Ci N es=true) (hc:∀ i,i<es.length→0≤c i∧c i≤Cv es i):Ci N (esC es c)=true:=by
 obtain ⟨h1,h2,h3,h4,h5⟩:=Cb h
 have h6:Ei (esC es c)≤Ei es:=by
  have e1:Ei es=((List.range es.length).map fun i=>EX (es.getD i e0)).sum:=by
   conv=>lhs; rw [← Nn es]
   unfold Ei esC;rw [List.map_map]
   congr 1
  have e2:Ei (esC es c)=((List.range es.length).map fun i=>EX (edC es c i)).sum:=by
   unfold Ei esC;rw [List.map_map]
   congr 1
  rw [e1,e2];refine Oz fun i hi=>?_;have h7:=hc i (List.mem_range.1 hi);unfold EX edC;dsimp only;exact Nat.mul_le_mul_right _ (by unfold Cv at h7; omega)
 have h7:(esC es c).all (DZ N)=true:=List.all_eq_true.2 fun e he=>by
  obtain ⟨i,hi,rfl⟩:=List.mem_map.1 he;have hil:=List.mem_range.1 hi;obtain ⟨e,he⟩:=AE hil;have h8:=CY (h4 e (List.mem_of_getElem? he));have h9:=hc i hil;unfold Cv at h9;rw [Bn he] at h9;unfold edC DZ GS;rw [Bn he];dsimp only;simp only [Bool.and_eq_true,decide_eq_true_eq];omega
 unfold Ci;rw [h7,I3];simp only [Bool.and_eq_true,decide_eq_true_eq];exact ⟨⟨h1,h2⟩,h3,trivial,by omega⟩
theorem X1 {N:Int} {es:List Ed} {c x:Nat→Int} (h:Ci N es=true) (hc:∀ i,i<es.length→0≤c i∧c i≤Cv es i) (hx:∀ i,i<es.length→0≤x i∧x i≤c i):BF N (esC es c) (tab x es.length)=true:=by
 unfold BF;rw [Uo h hc,CV,I3,decide_eq_true rfl];refine List.all_eq_true.2 fun b hb=>?_;obtain ⟨i,hi⟩:=List.getElem?_of_mem hb
 have hil:i<es.length:=by
  have:=CO hi;rw [List.length_zipWith,I3,CV] at this;omega
 rw [Kg (I4 hil) (BZ hil)] at hi;obtain rfl:=Option.some.inj hi;have:=hx i hil;unfold inB edC;simp only [Bool.and_eq_true,decide_eq_true_eq,id_eq];omega
/-- The caps of a phase. -/
def FP (es:List Ed) (k i:Nat):Int:=(((Cv es i).toNat / 2 ^ k:Nat):Int)
theorem Me {N:Int} {es:List Ed} (h:Ci N es=true) (k:Nat):∀ i,i<es.length→0≤FP es k i∧FP es k i≤Cv es i:=fun i hi=>by
 obtain ⟨e,he⟩:=AE hi;have h8:=CY ((Cb h).2.2.2.1 e (List.mem_of_getElem? he));have h9:(Cv es i).toNat / 2 ^ k≤(Cv es i).toNat:=Nat.div_le_self _ _;have h7:0≤Cv es i:=by unfold Cv; rw [Bn he]; omega
 unfold FP;obtain ⟨z,hz⟩:∃ z,z=(Cv es i).toNat / 2 ^ k:=⟨_,rfl⟩;rw [← hz] at h9 ⊢;omega
theorem OA (es:List Ed) (k i:Nat):2*FP es (k+1) i≤FP es k i∧FP es k i≤2*FP es (k+1) i+1:=by
 have h:(Cv es i).toNat / 2 ^ (k+1)=((Cv es i).toNat / 2 ^ k) / 2:=by rw [Nat.pow_succ,Nat.div_div_eq_div_mul]
 unfold FP;rw [h];obtain ⟨z,hz⟩:∃ z,z=(Cv es i).toNat / 2 ^ k:=⟨_,rfl⟩;rw [← hz];omega
theorem Vl {N:Int} {es:List Ed} (h:Ci N es=true):∀ i,i<es.length→FP es 0 i=Cv es i:=fun i hi=>by
 have h7:=Me h 0 i hi;unfold FP at h7 ⊢;rw [Nat.pow_zero,Nat.div_one] at h7 ⊢;omega
theorem Mf {N:Int} {es:List Ed} (h:Ci N es=true):∀ i,i<es.length→0≤Cv es i∧Cv es i≤4503599627370496:=fun i hi=>by
 obtain ⟨e,he⟩:=AE hi;have h8:=CY ((Cb h).2.2.2.1 e (List.mem_of_getElem? he));unfold Cv; rw [Bn he]; omega
theorem Ll {g:Gr} {cap cap' x p:Nat→Int} (h:Fine g cap x p) (hc:∀ i,i<g.E→cap' i=cap i):Fine g cap' x p:=by
 refine ⟨fun i hi=>by rw [hc i hi]; exact h.in' i hi,fun a ha hr=>h.fit a ha ?_⟩;unfold CE at hr ⊢;rw [hc _ (by omega)] at hr;exact hr
theorem Up {g:Gr} {x:Nat→Int} (hE:g.E≤200) (hx:∀ i,i<g.E→0≤x i∧x i≤4503599627370496) (v:Nat) : -900719925474099200≤BE g x v∧BE g x v≤900719925474099200:=by
 have h:=Je (g:=g) (x:=x) (c:=4503599627370496) v (k:=g.E) hx;have h2:(g.E:Int)*4503599627370496≤200*4503599627370496:=by omega
 unfold BE;omega

end Go.Proofs.YtapphbmlkdhnmaaGreat

/- The solver: finer caps: the walk. -/
namespace Go.Proofs.YtapphbmlkdhnmaaGreat
open Go.GV
attribute [local irreducible] AC W Wq Wt

def I5 (c c':Nat→Int) (i j:Nat):Int:=if j<i then c' j else c j
def flW (g:Gr) (c' x p:Nat→Int) (i j:Nat):Int:=if j<i then Jd g c' x p j else x j
theorem Uq {c c':Nat→Int} {i j:Nat} (h:j≠i):I5 c c' (i+1) j=I5 c c' i j:=by unfold I5; split <;> split <;> first | rfl | omega
theorem X2 {g:Gr} {c' x p:Nat→Int} {i j:Nat} (h:j≠i):flW g c' x p (i+1) j=flW g c' x p i j:=by unfold flW; split <;> split <;> first | rfl | omega
abbrev FL (bf bo n N:Nat) (x ov:Nat→Int) (ae:Option Addr) (full:List Value):List (Nat × Obj):=(bf,Bl 2 (B9 x n))::(bo,Bl 2 (B9 ov N))::ent ae 92 full

set_option maxRecDepth 20000 in
set_option maxHeartbeats 8000000 in
theorem X3 {w:World} {bs:Nat} {N:Nat} {ae aw:Option Addr} {ce cw bf bp bo k:Nat} {kk:Int} {es:List Ed} {c x p ov:Nat→Int} {full:List Value} (H0:Ctx w ((FL bf bo es.length N x ov ae full).map (·.1)) w (FL bf bo es.length N x ov ae full)) (O:OS ae es.length ce 4 full ((esC es c).flatMap Br))
  (hs:w.heap[bs]? = some (Bl 170 (SC N ae es.length ce bf bp bo kk))) (hbs:bs∉(FL bf bo es.length N x ov ae full).map (·.1)) (hp:w.heap[bp]? = some (Bl 2 (B9 p N))) (hbp:bp∉(FL bf bo es.length N x ov ae full).map (·.1)) (Rw:Rd w aw 4 Br es) (hRw:es≠[]→(adr aw).block∉(FL bf bo es.length N x ov ae full).map (·.1))
  (hr:Ci (N:Int) es=true) (hk:k≤64) (hc:∀ i,i<es.length→2*c i≤FP es k i∧FP es k i≤2*c i+1) (hF:Fine (grE (N:Int) es) c x p) (hx0:∀ v,v<N→BE (grE (N:Int) es) x v=0) (hov:∀ v,v<N→ov v=0) (hpb:∀ v,v<N → -1073741824≤p v∧p v≤1073741824) :
  Ret Tryz.prog 119 #[ptr bs,CT (N:Int) aw es.length cw,.int .i64 (k:Int)] w fun v w'=>v = .tuple #[]∧∃ full',OS ae es.length ce 4 full' ((esC es (FP es k)).flatMap Br) ∧
   Ctx w ((FL bf bo es.length N x ov ae full).map (·.1)) w' (FL bf bo es.length N (Jd (grE (N:Int) es) (FP es k) x p) (BE (grE (N:Int) es) (Jd (grE (N:Int) es) (FP es k) x p)) ae full'):=by
 obtain ⟨w0,rfl⟩:∃ w0,w0=w:=⟨_,rfl⟩;obtain ⟨ids,hids⟩:∃ ids,ids=(FL bf bo es.length N x ov ae full).map (·.1):=⟨_,rfl⟩;rw [← hids] at H0 hbs hbp hRw ⊢;have H:=H0;obtain ⟨hN1,hN40,hn200,hall,-⟩:=Cb hr;obtain ⟨g,hg⟩:∃ g,g=grE (N:Int) es:=⟨_,rfl⟩;obtain ⟨c',hc'⟩:∃ c',c'=FP es k:=⟨_,rfl⟩;have hgE:g.E=es.length:=by rw [hg]; rfl
 have hgo:g.Ok:=by rw [hg]; exact Kj hr
 have hin:=Me hr k;have hcb:=Mf hr;rw [← hg] at hF hx0 ⊢;rw [← hc'] at hc hin ⊢;have hF2:=Nb hF (cap':=c') (fun i hi=>hc i (by rw [← hgE]; exact hi))
 have hxb:∀ i,i<es.length→0≤x i∧2*x i≤c' i∧c' i≤4503599627370496:=fun i hi=>by
  have h1:=hF.in' i (by rw [hgE]; exact hi);have h2:=hc i hi;have h3:=hin i hi;have h4:=hcb i hi;omega
 have hmix:∀ i v,-900719925474099200≤BE g (Hx g c' x p i) v∧BE g (Hx g c' x p i) v≤900719925474099200:=fun i v=>Up (by omega) (fun j hj=>by
  have h1:=hxb j (by rw [← hgE]; exact hj);have h2:=hF2.in' j hj;unfold Hx
  split <;> omega) v
 refine A2 (fn:=Tryz.f119) Tryz.func119 U [.pointer (some ⟨bs,0,none⟩),CT (N:Int) aw es.length cw,.int .i64 (k:Int)] U (by kernel_rfl) ?_;refine Ag (Bt U [.int .i64 (N:Int),.slice aw es.length cw] (.agg _) U U H ?_);rintro b4 w - H;refine Ab (Aa (Ag (Ba U U (AZ U U (Ah U E7 U (AY U BC U ((by rw [Au (H.ext.to hs hbs)]; rfl)) ?_))))));refine AV U AU U (Ae U U (Ab (Aa (Av (Bd 21778071482940061661655974875633165517248 (α:=Nat × List Value) (fun t=>[(14,.int .i64 (t.1:Int))]) (fun t w'=>t.1≤es.length∧OS ae es.length ce 4 t.2 ((esC es (I5 c c' t.1)).flatMap Br)∧Ctx w0 ids w' ((b4,Bl 28 [.int .i64 (N:Int),.slice aw es.length cw])::FL bf bo es.length N (flW g c' x p t.1) (BE g (Hx g c' x p t.1)) ae t.2)) (fun t=>es.length - t.1) (0,full) U ?_ ?_ ?_)))))
 ·exact ⟨rfl,trivial⟩
 ·refine ⟨Nat.zero_le _,?_,?_⟩
  ·rw [JA (d:=c) fun i _=>by unfold I5; rw [if_neg (Nat.not_lt_zero _)]];exact O
  ·have e1:B9 (flW g c' x p 0) es.length=B9 x es.length:=List.map_congr_left fun i _=>by unfold flW; rw [if_neg (Nat.not_lt_zero _)]
   have e2:B9 (BE g (Hx g c' x p 0)) N=B9 ov N:=List.map_congr_left fun v hv=>by
    have hv:=List.mem_range.1 hv;rw [Xe (hx0 v hv),hov v hv]
   dsimp only [FL];rw [e1,e2];exact H
 ·rintro ⟨i,full1⟩ j w ⟨hi,O,H⟩; dsimp only at hi O H; dsimp only;refine Ag (AO U U U (Ab (Aa (Aq (Ay _ U ?_ ?_)))))
  ·intro h1;replace h1:=AG h1;have hil:i<es.length:=by omega
   obtain ⟨e,he⟩:=AE hil;have hee:=CY (hall e (List.mem_of_getElem? he));obtain ⟨un,hun⟩:∃ un:Nat,e.f=un:=⟨e.f.toNat,by omega⟩;obtain ⟨vn,hvn⟩:∃ vn:Nat,e.t=vn:=⟨e.t.toNat,by omega⟩;obtain ⟨cc,hcc⟩:∃ cc:Nat,e.cap=cc:=⟨e.cap.toNat,by omega⟩;have hgf:g.f i=un:=by rw [hg]; show (es.getD i e0).f.toNat=un; rw [Bn he,hun]; rfl
   have hgt:g.t i=vn:=by rw [hg]; show (es.getD i e0).t.toNat=vn; rw [Bn he,hvn]; rfl
   have hgc:g.co i=e.cost:=by rw [hg]; show (es.getD i e0).cost=_; rw [Bn he]
   have hck:c' i=((cc / 2 ^ k:Nat):Int):=by
    rw [hc']; unfold FP Cv; rw [Bn he,hcc]; rfl
   have hunN:un<N:=by omega
   have hvnN:vn<N:=by omega
   obtain ⟨q,rfl⟩:=O.form (by omega);have hxi:=hxb i hil;obtain ⟨xi,hxie⟩:∃ xi,xi=x i:=⟨_,rfl⟩;obtain ⟨ck,hcke⟩:∃ ck,ck=c' i:=⟨_,rfl⟩;rw [← hxie,← hcke] at hxi;rw [← hcke] at hck;have hgx:(tab (flW g c' x p i) es.length)[i]? = some xi:=by rw [BZ hil,hxie]; unfold flW; rw [if_neg (Nat.lt_irrefl _)]
   have hcap2:(Br e)[2]? = some (.int .i64 (cc:Int)):=by unfold Br; rw [hcc]; rfl
   have hes:es≠[]:=fun h=>by rw [h] at he; cases he
   have hqn:=O.le;have hOl:=O.len;refine Ax (Aa (Aq (Av (Ag (Ae U U (Ad U U (Ab (Aa (Ag (Ba U U (AZ U U ?_)))))))))));refine Ah U Gh U (Ah U BD U (AY U C5 U ((by rw [Au (H.ext.to hs hbs)]; rfl)) ?_));refine Ae U U (Bi U BO B3 U U (by omega) (by omega) ?_);refine D7 U U (Ab (Aa (Ag (Ba U U (AZ U U (Ah U E7 U (AY U BC U ((by rw [Au (H.ext.to hs hbs)]; rfl)) ?_)))))));refine Ae U U (Bi U AU Bz U U (by omega) (by omega) ?_);refine AY U Bx U (((Cu (H.get at1)).fld hgx U (j:=0) U)) ?_;refine Cn U U U (by omega) (by omega) ?_;refine Bi U AU Bz U U (by omega) (by omega) ?_;refine Cc i (fun z => .int .i64 (if z=i then xi*2 else flW g c' x p i z)) (.int _ _) U Bz U U U H at1 (by simp) hil (by rw [if_pos rfl]) (fun z _ hz=>by rw [if_neg hz]) ?_;rintro w H;refine Ab (Aa (Ag (Ba U U (Ah U BD U (AA U C5 U H at0 U (Ae U U (AX Rw U BO B3 U U (by omega) (by omega) (by rfl) ?_)))))))
   refine Ah U CD U (AY U Bx U (((Rw.ext H.ext (hRw hes)).fld he U (j:=2) hcap2)) ?_);refine Ae U U (It (a:=cc) (n:=k) U U U (by omega) ?_);rw [← hck];refine AZ U U (Ah U CD U (BX (.int _ _) U Bz U U U H at3 (by omega) ?_));rintro w H;refine Ab (Aa ?_);rw [show 0+((i:Int)).toNat*4+2=i*4+2 by omega] at H;have O1:=OS.setf O (y:=edC es (I5 c c' (i+1)) i) (j:=2) (v := .int .i64 ck) (fun _=>rfl) (I4 (c:=I5 c c' i) hil) (by decide) (by unfold edC Br I5; dsimp only; rw [if_pos (by omega),← hcke]; rfl);rw [Un rfl (fun j _ hj=>Uq hj)] at O1;obtain ⟨full2,hf2⟩:∃ full2,full2=full1.set (i*4+2) (.int .i64 ck):=⟨_,rfl⟩;rw [← hf2] at O1;replace H:Ctx w0 ids w ((b4,Bl 28 [.int .i64 (N:Int),.slice aw es.length cw])::(bf,Bl 2 (B9 (fun z=>if z=i then xi*2 else flW g c' x p i z) es.length))::(bo,Bl 2 (B9 (BE g (Hx g c' x p i)) N))::[(q,Bl 92 full2)]):=by rw [hf2]; exact H
   have hrow:=I4 (c:=I5 c c' (i+1)) hil
   have henc:Br (edC es (I5 c c' (i+1)) i)=[.int .i64 (un:Int),.int .i64 (vn:Int),.int .i64 ck,.int .i64 e.cost]:=by
    unfold edC Br I5; rw [Bn he]; dsimp only; rw [if_pos (by omega),hun,hvn,← hcke]
   have hfin:Jd g c' x p i=if 2*xi<ck∧e.cost+p un - p vn<0 then ck else 2*xi:=by
    unfold Jd; rw [hgc,hgf,hgt,← hxie,← hcke]
   have hms:=fun v=>Xf (g:=g) (cap':=c') (x:=x) (p:=p) (k:=i) (by omega) v;rw [hgf,hgt,← hxie] at hms;obtain ⟨pu,hpu⟩:∃ pu,pu=p un:=⟨_,rfl⟩;obtain ⟨pv,hpv⟩:∃ pv,pv=p vn:=⟨_,rfl⟩;have hpbu:=hpb un hunN;have hpbv:=hpb vn hvnN;rw [← hpu] at hpbu hfin;rw [← hpv] at hpbv hfin;have hgpu:(tab p N)[un]? = some pu:=by rw [BZ hunN,hpu]
   have hgpv:(tab p N)[vn]? = some pv:=by rw [BZ hvnN,hpv]
   have hgx2:(tab (fun z=>if z=i then xi*2 else flW g c' x p i z) es.length)[i]? = some (xi*2):=by rw [BZ hil,if_pos rfl]
   have RP:=Cu hp;have hRE:∀ {z:World},z.heap[q]? = some (Bl 92 full2)→Rd z (some ⟨q,0,none⟩) 4 Br (esC es (I5 c c' (i+1))):=fun h=>O1.rd (t:=92) (fun y hy=>by have hy:=List.mem_singleton.1 hy; rw [hy]; exact h) (fun _ _=>rfl) (by decide);have RE:=hRE (H.drew.get at3);refine DC 38685626227650541404553216 (α:=Unit) (fun _=>[(84,.bool (decide (xi*2<ck∧e.cost+pu - pv<0)))]) (fun _ w'=>Ctx w0 ids w' ((b4,Bl 28 [.int .i64 (N:Int),.slice aw es.length cw])::(bf,Bl 2 (B9 (fun z=>if z=i then xi*2 else flW g c' x p i z) es.length))::(bo,Bl 2 (B9 (BE g (Hx g c' x p i)) N))::[(q,Bl 92 full2)])) U ?_ ?_
   ·skip
    refine Pq (fun x=>x=_) B0 (by kernel_rfl) U ?_;refine Cl U U (Bm U U (A7 U E7 U (Ch U BC U (by rintro _ rfl; exact ((by rw [Au (H.drew.ext.to hs hbs)]; rfl))) ?_)));refine AN U U (AR U AU Bz U U (by omega) (by omega) ?_);refine Ch U Bx U (by rintro _ rfl; exact (((Cu (H.drew.get at1)).fld hgx2 rfl (j:=0) rfl))) ?_;refine Cl U U (Bm U U (A7 U CD U (Ch U Bx U (by rintro _ rfl; exact ((RE.fld hrow rfl (j:=2) (by rw [henc]; rfl)))) ?_)));refine Lx U U U (DB U U (Dz 56 U ?_ ?_))
    ·intro h1;replace h1:=AG h1;refine Cl U U (Bm U U (A7 U De U (Ch U Bx U (by rintro _ rfl; exact ((RE.fld hrow rfl (j:=3) (by rw [henc]; rfl)))) ?_)));refine Cl U U (Bm U U (A7 U E8 U (Ch U BC U (by rintro _ rfl; exact ((by rw [Au (H.drew.ext.to hs hbs)]; rfl))) ?_)));refine Cl U U (Bm U U (A7 U CX U (Ch U BG U (by rintro _ rfl; exact ((RE.fld hrow rfl (j:=0) (by rw [henc]; rfl)))) ?_)));refine AR U AU Bz U U (by omega) (by omega) ?_;refine Ch U Bx U (by rintro _ rfl; exact (((RP.ext H.drew.ext hbp).fld hgpu rfl (j:=0) rfl))) ?_;refine CU U U U (by omega) (by omega) ?_;refine Cl U U (Bm U U (A7 U E8 U (Ch U BC U (by rintro _ rfl; exact ((by rw [Au (H.drew.ext.to hs hbs)]; rfl))) ?_)));refine Cl U U (Bm U U (A7 U Dl U (Ch U BG U (by rintro _ rfl; exact ((RE.fld hrow rfl (j:=1) (by rw [henc]; rfl)))) ?_)));refine AR U AU Bz U U (by omega) (by omega) ?_
     refine Ch U Bx U (by rintro _ rfl; exact (((RP.ext H.drew.ext hbp).fld hgpv rfl (j:=0) rfl))) ?_;refine Dg U U U (by omega) (by omega) ?_;refine Lx U U U (Il U U (.bool _) U (Ca ?_));rintro _ rfl;replace H:=H.drew;refine Aa ?_;exact ⟨(),rfl,⟨congrArg Value.bool (by clear hgx hgx2 hgpu hgpv hcke hxie hpu hpv hms hmix hxb hfin henc hrow hgf hgt hgc; rw [Bool.eq_iff_iff]; simp_all; try omega),trivial⟩,H⟩
    ·intro h2;replace h2:=AH h2;refine A0 U (A0 U (A0 U (A0 U (A0 U (A0 U (A0 U (A0 U (A0 U (A0 U ?_)))))))));refine A0 U (A0 U (A0 U (A0 U (A0 U (A0 U (A0 U (A0 U (A0 U (A0 U ?_)))))))));refine A0 U (A0 U (A0 U (A0 U (A0 U (A0 U (A0 U (LP U U (.bool _) U (Ca ?_))))))));rintro _ rfl;replace H:=H.drew;refine Aa ?_;exact ⟨(),rfl,⟨congrArg Value.bool (by clear hgx hgx2 hgpu hgpv hcke hxie hpu hpv hms hmix hxb hfin henc hrow hgf hgt hgc; rw [Bool.eq_iff_iff]; simp_all; try omega),trivial⟩,H⟩
   ·rintro - j6 w H;refine Ay _ U ?_ ?_
    ·intro h2;have h2:=of_decide_eq_true h2;rw [if_pos ⟨by omega,h2.2⟩] at hfin;have ob1:=hmix i un;have ob2:=hmix i vn;have ob3:=hmix (i+1) un;have ob4:=hmix (i+1) vn;obtain ⟨ov1,hov1⟩:∃ ov1,ov1=BE g (Hx g c' x p i):=⟨_,rfl⟩;have hgo2:(tab ov1 N)[vn]? = some (ov1 vn):=BZ hvnN;have hgo1:(tab (upd ov1 vn (ov1 vn+(ck - xi*2))) N)[un]? = some (upd ov1 vn (ov1 vn+(ck - xi*2)) un):=BZ hunN;rw [← hov1] at ob1 ob2 H;rw [hms,hfin,← hov1] at ob3 ob4
     have ob5:upd ov1 vn (ov1 vn+(ck - xi*2)) un=ov1 un+(ck - xi*2)*one (vn=un):=by
      by_cases e:un=vn
      ·rw [e,D3,HQ rfl]; omega
      ·rw [Es e,Hl (Ne.symm e)]; omega
     have ob6:∀ u,one (vn=u)=0∨one (vn=u)=1:=fun u=>by unfold one; split <;> omega
     have ob7:=ob6 un
     have ob8 : -1801439850948198400≤upd ov1 vn (ov1 vn+(ck - xi*2)) un∧upd ov1 vn (ov1 vn+(ck - xi*2)) un≤1801439850948198400:=by
      rw [ob5]
      rcases ob7 with h | h <;> rw [h] <;> omega
     refine DQ (fun x=>x=_) B0 (by kernel_rfl) U ?_;refine Cl U U (Bm U U (A7 U CD U (Ch U Bx U (by rintro _ rfl; exact (((hRE (H.drew.get at3)).fld hrow rfl (j:=2) (by rw [henc]; rfl)))) ?_)));refine Cl U U (Bm U U (A7 U E7 U (Ch U BC U (by rintro _ rfl; exact ((by rw [Au (H.drew.ext.to hs hbs)]; rfl))) ?_)));refine AN U U (AR U AU Bz U U (by omega) (by omega) ?_);refine Ch U Bx U (by rintro _ rfl; exact (((Cu (H.drew.get at1)).fld hgx2 rfl (j:=0) rfl))) ?_;refine Dg U U U (by omega) (by omega) ?_;refine Cm U U (Ca ?_);rintro _ rfl;replace H:=H.drew;refine Ag (Ba U U (AZ U U (Ah U E7 U (AY U BC U ((by rw [Au (H.ext.to hs hbs)]; rfl)) ?_))));refine Ae U U (Bi U AU Bz U U (by omega) (by omega) ?_);refine AY U Bx U (((Cu (H.get at1)).fld hgx2 U (j:=0) U)) ?_;refine Ae U U (Ao U U U (by omega) (by omega) ?_);refine Bi U AU Bz U U (by omega) (by omega) ?_
     refine Cc i (fun z => .int .i64 (if z=i then ck else flW g c' x p i z)) (.int _ _) U Bz U U U H at1 (by simp) hil (by rw [if_pos rfl]; congr 1; omega) (fun z _ hz=>by dsimp only; rw [if_neg hz,if_neg hz]) ?_;rintro w H;refine Ab (Aa (E2 13 B0 (by kernel_rfl) U U ?_));refine Cl U U (Bm U U (A7 U Gi U (Ch U BC U (by rintro _ rfl; exact ((by rw [Au (H.drew.ext.to hs hbs)]; rfl))) ?_)));refine Cl U U (Bm U U (A7 U Dl U (Ch U BG U (by rintro _ rfl; exact (((hRE (H.drew.get at3)).fld hrow rfl (j:=1) (by rw [henc]; rfl)))) ?_)));refine AR U AU Bz U U (by omega) (by omega) ?_;refine Ch U Bx U (by rintro _ rfl; exact (((Cu (H.drew.get at2)).fld hgo2 rfl (j:=0) rfl))) ?_;refine AN U U (CU U U U (by omega) (by omega) ?_);refine AR U AU Bz U U (by omega) (by omega) ?_;refine Ca ?_;replace H:=H.drew
     refine Cc vn (fun z => .int .i64 (upd ov1 vn (ov1 vn+(ck - xi*2)) z)) (.int _ _) U Bz U U U H at2 (by simp) hvnN (by rw [D3]) (fun z _ hz=>by rw [Es hz]) ?_;rintro w H;refine Ab (Aa (F8 13 B0 (by kernel_rfl) U U ?_));refine Cl U U (Bm U U (A7 U Gi U (Ch U BC U (by rintro _ rfl; exact ((by rw [Au (H.drew.ext.to hs hbs)]; rfl))) ?_)));refine Cl U U (Bm U U (A7 U CX U (Ch U BG U (by rintro _ rfl; exact (((hRE (H.drew.get at3)).fld hrow rfl (j:=0) (by rw [henc]; rfl)))) ?_)));refine AR U AU Bz U U (by omega) (by omega) ?_;refine Ch U Bx U (by rintro _ rfl; exact (((Cu (H.drew.get at2)).fld hgo1 rfl (j:=0) rfl))) ?_;refine AN U U (Dg U U U (by omega) (by omega) ?_);refine AR U AU Bz U U (by omega) (by omega) ?_;refine Ca ?_;replace H:=H.drew
     refine Cc un (fun z => .int .i64 (upd (upd ov1 vn (ov1 vn+(ck - xi*2))) un (upd ov1 vn (ov1 vn+(ck - xi*2)) un - (ck - xi*2)) z)) (.int _ _) U Bz U U U H at2 (by simp) hunN (by rw [D3]) (fun z _ hz=>by rw [Es hz]) ?_;rintro w H;refine Ab (A3 (Aa (Aw (Ao U U U (by omega) (by omega) ?_))));refine Ae U U (Ab (Aa ?_))
     have e1:B9 (fun z=>if z=i then ck else flW g c' x p i z) es.length=B9 (flW g c' x p (i+1)) es.length:=List.map_congr_left fun z _=>by
      dsimp only
      by_cases e:z=i
      ·subst e;rw [if_pos rfl]; unfold flW; rw [if_pos (by omega),hfin]
      ·rw [if_neg e,X2 e]
     have e2:B9 (upd (upd ov1 vn (ov1 vn+(ck - xi*2))) un (upd ov1 vn (ov1 vn+(ck - xi*2)) un - (ck - xi*2))) N=B9 (BE g (Hx g c' x p (i+1))) N:=List.map_congr_left fun z _=>by
      congr 1
      rw [hms,hfin,← hov1]
      by_cases e:z=un
      ·subst e;rw [D3,ob5,HQ rfl]
       rcases ob7 with h | h <;> rw [h] <;> omega
      ·rw [Es e,Hl (p:=un=z) (Ne.symm e)]
       by_cases e3:z=vn
       ·subst e3;rw [D3,HQ rfl]; omega
       ·rw [Es e3,Hl (Ne.symm e3)]; omega
     refine ⟨(i+1,full2),rfl,⟨rfl,trivial⟩,⟨by dsimp only; omega,O1,?_⟩,by dsimp only; omega⟩;dsimp only [FL];rw [← e1,← e2];exact H
    ·intro h2;have h2:=of_decide_eq_false h2;rw [if_neg (fun h=>h2 ⟨by omega,h.2⟩)] at hfin;refine Ax (A3 (Aa (Aw (Ao U U U (by omega) (by omega) ?_))));refine Ae U U (Ab (Aa ?_))
     have e1:B9 (fun z=>if z=i then xi*2 else flW g c' x p i z) es.length=B9 (flW g c' x p (i+1)) es.length:=List.map_congr_left fun z _=>by
      dsimp only
      by_cases e:z=i
      ·subst e;rw [if_pos rfl]; unfold flW; rw [if_pos (by omega),hfin]; congr 1; omega
      ·rw [if_neg e,X2 e]
     have e2:B9 (BE g (Hx g c' x p i)) N=B9 (BE g (Hx g c' x p (i+1))) N:=List.map_congr_left fun z _=>by
      congr 1
      rw [hms,hfin,Int.sub_self,Int.zero_mul,Int.add_zero]
     refine ⟨(i+1,full2),rfl,⟨rfl,trivial⟩,⟨by dsimp only; omega,O1,?_⟩,by dsimp only; omega⟩;dsimp only [FL];rw [← e1,← e2];exact H
  ·intro h1;replace h1:=AH h1;refine Bc (Aj (Aj (AD (Db U U ?_))));obtain rfl:i=es.length:=by omega
   rw [JA (d:=c') fun i hi=>by unfold I5; rw [if_pos hi]] at O
   have e1:B9 (flW g c' x p es.length) es.length=B9 (Jd g c' x p) es.length:=List.map_congr_left fun z hz=>by
    unfold flW; rw [if_pos (List.mem_range.1 hz)]
   have e2:B9 (BE g (Hx g c' x p es.length)) N=B9 (BE g (Jd g c' x p)) N:=List.map_congr_left fun z _=>by
    congr 1
    refine Kf (fun i hi=>?_) z;rw [← hgE]; exact Zc hi
   refine ⟨rfl,full1,O,?_⟩;have H:=H.tail;dsimp only [FL] at H ⊢;rw [e1,e2] at H;exact H

end Go.Proofs.YtapphbmlkdhnmaaGreat

/- The solver: a way is filled: what the walk needs. -/
namespace Go.Proofs.YtapphbmlkdhnmaaGreat
open Go.GV
attribute [local irreducible] AC W Wq Wt

section
variable {P:Program} {r:Option Nat} {ops rest:List Oper} {Q:Exit→Env→World→Prop} {e:Env} {w:World} {dst:Option Tmp} {ty:TypeId} {pos:String} {af:Array Edge} {gd:Option (Nat × Bool)} {t t2:TypeId} {x y:Operand} {a b:Int}
/-- An addition, with what does not fit cut off. -/
theorem LA (hg:AM ⟨dst,.binOp .add t x y t2,ty,pos,af,gd⟩ ops e=true) (hx:ev e x = .int .i64 a) (hy:ev e y = .int .i64 b)
  (h:∀ z,AC P r ops Q rest (put e dst (.int .i64 z)) w):AC P r ops Q (⟨dst,.binOp .add t x y t2,ty,pos,af,gd⟩::rest) e w:=B1 (v := .int .i64 (IntKind.i64.wrap (a+b))) hg rfl (BT hx hy (by simp [binOp,Op.intArith])) (h _)
theorem Vm {D1 D2:Nat} {ds:List Deferred} {K:World→Prop} (h2:w.heap[D2]? = some (.deferred (some []))) (h1:w.heap[D1]? = some (.deferred (some []))) (hne:D1≠D2) (hds:ds=[{ target := .collected D2,args:=#[] },{ target := .collected D1,args:=#[] }]) (hK:∀ wF,Ext [D2,D1] w wF→K wF):Marks ds w K:=by
 subst hds;have x2:=Ext.setB w D2 (.deferred none);have x1:=Ext.setB (w.putObj D2 (.deferred none)) D1 (.deferred none);refine ⟨D2,rfl,h2,D1,rfl,x2.to h1 (by rw [List.mem_singleton]; exact hne),hK _ ((x2.mono (by simp)).trans (x1.mono (by simp)))⟩
end
theorem Rd.map {α β:Type} {w:World} {a:Option Addr} {s:Nat} {enc:α→List Value} {f:β→α} {xs:List β} (R:Rd w a s (fun x=>enc (f x)) xs):Rd w a s enc (xs.map f):=by
 refine ⟨fun h=>R.some' fun h'=>h (by rw [h']; rfl),fun i x hx j v hv hj=>?_⟩;rw [List.getElem?_map] at hx;obtain ⟨y,hy,rfl⟩:=Option.map_eq_some_iff.1 hx;exact R.cell i y hy j v hv hj
/-- Where a way back begins. -/
def Rg (g:Gr) (v:Nat) (l:List Nat):Nat:=l.foldl (fun _ a=>g.u a) v
theorem Vn {g:Gr} {v i a:Nat} {l:List Nat} (h:l[i]? = some a):Rg g v (l.take (i+1))=g.u a:=by
 unfold Rg;rw [D5 h,List.foldl_append]; rfl
theorem OB {g:Gr} {cap x p:Nat→Int} {s:Lb} {by':Nat→Option Nat} (hB:Bys g cap x p s by'):∀ {k v:Nat},s.d v ≠ -1→s.h v=k→Rg g v (DY by' g k v)=L7 by' g k v
 | 0,_,_,_=>rfl
 | k+1,v,hd,hk=>by
  obtain ⟨a,h1,h2,h3⟩:=hB.2 v hd (by omega);have hh:=h2.h;rw [h3,hk] at hh;obtain ⟨e1,e2⟩:=G8 (g:=g) (k:=k) h1;rw [e1,e2,← OB hB h2.du (by omega)];rfl
theorem Vo {m:Int} {x:Nat→Int} {l:List Nat} {i a:Nat} (h:l[i]? = some a):Fd m x (l.take (i+1))=HN m (Fd m x (l.take i)) a:=by
 unfold Fd;rw [D5 h,List.foldl_append]; rfl
theorem LB {N:Int} {es:List Ed} {x p:Nat→Int} (hr:Ci N es=true) (h:Fine (grE N es) (Cv es) x p):BF N es (tab x es.length)=true:=by
 have h1:=X1 (c:=Cv es) (x:=x) hr (fun i hi=>by have:=Mf hr i hi; omega) (fun i hi=>h.in' i hi);rw [Nn] at h1;exact h1
theorem Z5 {N:Nat} {p:Nat→Int} (hp:∀ v,v<N → -1073741824≤p v∧p v≤1073741824):EO (N:Int) (tab p N)=true:=by
 unfold EO;rw [CV,decide_eq_true rfl,Bool.and_true];refine List.all_eq_true.2 fun x hx=>?_;obtain ⟨i,hi⟩:=List.getElem?_of_mem hx;obtain ⟨h1,rfl⟩:=Nc hi;have:=hp i h1;unfold JH;simp only [Bool.and_eq_true,decide_eq_true_eq];omega
theorem Ctx.ltI {w0 w:World} {S:List Nat} {L:List (Nat × Obj)} (H:Ctx w0 S w L):∀ b∈L.map (·.1),b<w.heap.size:=fun b hb=>by
 obtain ⟨y,hy,rfl⟩:=List.mem_map.1 hb;exact B2 (H.blk y hy)
theorem Ga {L L':List (Nat × Obj)} (h:(L++L').Pairwise (fun x y=>x.1≠y.1)) {x:Nat × Obj} (hx:x∈L'):x.1∉L.map (·.1):=fun hm=>by
 obtain ⟨y,hy,he⟩:=List.mem_map.1 hm;exact (List.pairwise_append.1 h).2.2 y hy x hx he
theorem Vp {α:Type} {R:α→α→Prop} {l:List α} (h:l.Pairwise R) {i:Nat} {a:α} (ha:l[i]? = some a):∀ b∈l.take i,R b a:=fun b hb=>by
 rw [← List.take_append_drop i l] at h;exact (List.pairwise_append.1 h).2.2 b hb a (List.mem_of_getElem? (i:=0) (by rw [List.getElem?_drop]; exact ha))
theorem Z7 {N:Nat} {p:Nat→Int} (hpn:EB (tab p N)=p) (hpb:∀ v,v<N → -1073741824≤p v∧p v≤1073741824) (v:Nat) : -1152921504606846976≤p v∧p v≤1152921504606846976:=by
 rcases Nat.lt_or_ge v N with h | h
 ·have:=hpb v h; omega
 ·rw [← hpn];unfold EB;rw [List.getD_eq_getElem?_getD,List.getElem?_eq_none (by rw [CV]; exact h)];exact ⟨by decide,by decide⟩
/-- The solver's blocks. -/
abbrev SL (bs bf bp bo:Nat) (N:Nat) (ae:Option Addr) (n ce:Nat) (k:Int) (x p ov:Nat→Int) (full:List Value):List (Nat × Obj) :=
 (bs,Bl 170 (SC N ae n ce bf bp bo k))::(bf,Bl 2 (B9 x n))::(bp,Bl 2 (B9 p N))::(bo,Bl 2 (B9 ov N))::ent ae 92 full
theorem Aec {ov:Nat→Int} {N:Nat}:(∀ v∈Hf ov N,v<N)∧(Hf ov N).Nodup∧∀ v,v∈Hf ov N↔v<N∧0<ov v:=by
 have h:∀ v,v∈Hf ov N↔v<N∧0<ov v:=fun v=>by unfold Hf; rw [List.mem_filter,List.mem_range,decide_eq_true_eq]
 exact ⟨fun v hv=>((h v).1 hv).1,List.nodup_range.filter _,h⟩

end Go.Proofs.YtapphbmlkdhnmaaGreat

/- The solver: a way is filled: the walk. -/
namespace Go.Proofs.YtapphbmlkdhnmaaGreat
open Go.GV
attribute [local irreducible] AC W Wq Wt

set_option maxRecDepth 20000 in
set_option maxHeartbeats 8000000 in
theorem Z8 {w:World} {bs bf bp bo:Nat} {N:Nat} {ae:Option Addr} {ce:Nat} {kk:Int} {es:List Ed} {x p ov:Nat→Int} {full:List Value} (H0:Ctx w ((SL bs bf bp bo N ae es.length ce kk x p ov full).map (·.1)) w (SL bs bf bp bo N ae es.length ce kk x p ov full)) (O:OS ae es.length ce 4 full (es.flatMap Br))
  (hr:Ci (N:Int) es=true) (hF:Fine (grE (N:Int) es) (Cv es) x p) (hov:∀ v,v<N→ov v=BE (grE (N:Int) es) x v) (hpb:∀ v,v<N → -1073741824≤p v∧p v≤1073741824)
  (hxn:flE (tab x es.length)=x) (hpn:EB (tab p N)=p) :
  Ret Tryz.prog 120 #[ptr bs] w fun v w'=>∃ (b:Bool) (x' p' ov':Nat→Int) (kk':Int),v = .bool b∧Ctx w ((SL bs bf bp bo N ae es.length ce kk x p ov full).map (·.1)) w' (SL bs bf bp bo N ae es.length ce kk' x' p' ov' full)∧Fine (grE (N:Int) es) (Cv es) x' p'∧(∀ v,v<N→ov' v=BE (grE (N:Int) es) x' v)∧(∀ v,v<N → -1073741824≤p' v∧p' v≤1073741824) ∧
   (b=false→∀ v,v<N→BE (grE (N:Int) es) x' v≤0)∧(b=true→GR (grE (N:Int) es) x'+1≤GR (grE (N:Int) es) x):=by
 obtain ⟨w0,rfl⟩:∃ w0,w0=w:=⟨_,rfl⟩;obtain ⟨ids,hids⟩:∃ ids,ids=(SL bs bf bp bo N ae es.length ce kk x p ov full).map (·.1):=⟨_,rfl⟩;rw [← hids] at H0 ⊢;have H:=H0;obtain ⟨hN1,hN40,hn200,hall,-⟩:=Cb hr;have hI:I64 (N:Int):=by unfold I64; omega
 have hw:=LB hr hF;have hpot:=Z5 hpb;have hfit:Hm (N:Int) es (tab x es.length) (tab p N)=true:=PL hw hpot (by rw [hxn,hpn]; exact hF);obtain ⟨hsrc,hsnd,hsm⟩:=Aec (ov:=ov) (N:=N);have hRe:∀ {z:World},(∀ y∈ent ae 92 full,z.heap[y.1]? = some y.2)→Rd z ae 4 Br es:=fun h=>O.rd h (fun _ _=>rfl) (by decide);obtain ⟨g,hg⟩:∃ g,g=grE (N:Int) es:=⟨_,rfl⟩;have hgE:g.E=es.length:=by rw [hg]; rfl
 have hgN:g.N=N:=by rw [hg]; rfl
 have hgo:g.Ok:=by rw [hg]; exact Kj hr
 have hxb:=hF.in';rw [← hg] at hF hov hxb ⊢;rw [hgE] at hxb;have hcb:=Mf hr
 have hovb:∀ v,v<N → -900719925474099200≤ov v∧ov v≤900719925474099200:=fun v hv=>by
  rw [hov v hv];exact Up (by omega) (fun i hi=>by have h1:=hxb i (by omega); have h2:=hcb i (by omega); omega) v
 refine G5 (fn:=Tryz.f120) Tryz.func120 U [.pointer (some ⟨bs,0,none⟩)] U (by kernel_rfl) ?_;refine Ag (Bt U _ (.pointer _) U U H ?_);rintro b1 w - H;refine Ai U U (Ab (Aa (Ag (AA U E3 U H at0 U (Al U Ack (SY (H.get at1) (H.get (k:=4) U) (by omega)) U ?_)))));rintro v w ⟨⟨fr,fn,fc,ff,rfl,Of,hbf⟩,hx14⟩;have hfn:=Of.num;subst hfn;have Rs:Rd w fr 1 I1 ((Hf ov N).map fun v:Nat=>(v:Int)):=Rd.map (Of.rd1 (f:=iN) fun y hy=>(hbf y hy).1);replace H:=H.call hx14;refine A5 U U (Ab (Aa (Aq (Ag (Ap U U (AV U Eb U (BQ U U U (Ab (Aa (Ay _ U ?_ ?_))))))))))
 ·intro h1;replace h1:=AG h1;refine Ag (Ai U U (Ab (Aa (A9 (Am (Kv (v:=(.bool _)) U U ?_))))));have hp0:Hf ov N=[]:=List.eq_nil_of_length_eq_zero (by omega);have H2:=H.tail;refine ⟨false,x,p,ov,kk,rfl,H2,hF,hov,hpb,fun _ v hv=>?_,fun h=>by cases h⟩;rw [← hov v hv]
  rcases Int.lt_or_le 0 (ov v) with h | h
  ·have:=(hsm v).2 ⟨hv,h⟩;rw [hp0] at this; cases this
  ·exact h
 ·intro h1;replace h1:=AH h1;have hs0:0<(Hf ov N).length:=by omega
  refine Ax (Aa (CI [([0,1,2,3,4,5,6,7,8,9,10,11,12],13),([14,15,16,17,18,19],20)] (fun z=>z.heap[b1]? = some (Bl 168 [ptr bs])∧z.heap[bs]? = some (Bl 170 (SC N ae es.length ce bf bp bo kk))) [] B0 (by kernel_rfl) (⟨H.drew.get at0,H.drew.get at1⟩) ?_));refine AL U U ?_;refine BM U E3 U (fun _ hx=>(by rw [Au hx.1]; rfl)) ?_;refine B6 U U (AJ U Gh U (Fb _ U C1 Cs U U (fun _ hx=>(HV hx.2)) ?_));refine BM U E3 U (fun _ hx=>(by rw [Au hx.1]; rfl)) ?_;refine B6 U U (AJ U E7 U (BM U BC U (fun _ hx=>(by rw [Au hx.2]; rfl)) ?_));refine BM U E3 U (fun _ hx=>(by rw [Au hx.1]; rfl)) ?_;refine B6 U U (AJ U E8 U (BM U BC U (fun _ hx=>(by rw [Au hx.2]; rfl)) ?_));refine Bq U U (Bu ?_);replace H:=H.drew
  refine Al U Acl (Z4 (N:Int) ae (some ⟨bf,0,none⟩) (some ⟨bp,0,none⟩) fr es.length ce es.length es.length N N fc es (tab x es.length) (tab p N) (Hf ov N) _ (hRe fun y hy=>H.blk y (List.mem_append_right [_,_,_,_,_] hy)) U hI (Cu (H.get at2)) (CV _ _) (by omega) (Cu (H.get at3)) (CV _ _) (by omega) (Rs.ext0 (Ext.drew [] _)) hfit hsrc hsnd hs0) U ?_;rintro rv w ⟨od,ob,s,by',hrv,DN,BY,hby,H3⟩;rw [Int.toNat_natCast] at hrv DN H3;subst hrv;replace H:=Ctx.back (L1:=[]) (L2:=_::_::_::_::_::_) H H3;refine Ab (BH (⟨H.get at2,H.get at3⟩) (AL U U ?_));refine Ks U U (D6 U U U (D6 U U U (D6 U U U (Od U U (Od U U (Bu (Ad U U (Ab (BH (⟨H.get at2,H.get at3⟩) (BS ?_))))))))));refine Aq (Ag (Ae U U (CC U U U (Ab (Aa (Ay _ U ?_ ?_))))))
  ·intro h2;replace h2:=CK h2;exact absurd h2 (by decide)
  ·intro h2;replace h2:=CL h2;have hlow:=DN.J.low;have hds:∀ v,v∈Hf ov N→s.d v=0∧s.h v=0:=fun v hv=>(DN.J.src' v hv).2;rw [← hg,hxn,hpn] at DN BY;rw [← hgN] at DN;refine Ax (Aa (Ag (AA U E3 U H at2 U (Ap U U (Al U Acm (SZ (H.get at3) (H.get at6) (H.get at0) (by omega)) U ?_)))));rintro rv w ⟨⟨to,rfl,hto⟩,rfl⟩;refine Ad U U (Ab (Aa (Aq (Ag (Ae U U (AO U U U (Ab (Aa (Ay _ U ?_ ?_)))))))))
   ·intro h3;replace h3:=AG h3;exfalso
    rcases hto with ⟨h,h7⟩ | ⟨tv,_,h,-,-⟩
    ·obtain ⟨v0,hv0⟩:=AE hs0;have hm:=List.mem_of_getElem? hv0;have h8:=(hsm v0).1 hm;obtain ⟨z,hz1,hz2,hz3⟩:=reach hgo hF DN (v:=v0) (by omega) (by rw [(hds v0 hm).1]; omega) (by rw [← hov v0 h8.1]; exact h8.2);rw [hgN] at hz1;exact h7 z hz1 ⟨by rw [hov z hz1]; exact hz3,(hlow z).resolve_left hz2⟩
    ·omega
   ·intro h3;replace h3:=AH h3
    obtain ⟨tv,htv,rfl,hov0,hd0⟩:∃ tv:Nat,tv<N∧to=tv∧ov tv<0∧0≤s.d tv:=by
     rcases hto with ⟨h,_⟩ | h
     ·omega
     ·exact h
    have hdt:s.d tv ≠ -1:=by omega
    have hovt:=hovb tv htv;have hgot:(tab ov N)[tv]? = some (ov tv):=BZ htv;refine Ax (Aa (DC 4494803534349056 (α:=Nat × Nat) (fun z=>[(8,ptr z.1),(9,ptr z.2)]) (fun z w'=>Ctx w0 ids w' ((z.1,Bl 3 [.int .i64 (tv:Int)])::(z.2,Bl 2 [.int .i64 (-ov tv)])::(od,Bl 2 (B9 s.d N))::(ob,Bl 3 (B9 by' N))::(b1,Bl 168 [ptr bs])::SL bs bf bp bo N ae es.length ce kk x p ov full)) U ?_ ?_))
    ·skip
     refine W_trz (.two [0,1,2,3,4,5,6,7,8] 9 (.one [] 10 (.one [] 11 (.one [] 12 .stop))) 10 (.one [] 9 (.one [] 11 (.one [] 12 .stop)))) (fun z=>z.heap[b1]? = some (Bl 168 [ptr bs])∧z.heap[bs]? = some (Bl 170 (SC N ae es.length ce bf bp bo kk))∧z.heap[bo]? = some (Bl 2 (B9 ov N))) B0 (by kernel_rfl) (⟨H.drew.get at2,H.drew.get at3,H.drew.get at6⟩) ?_;refine Aa9 U U U ?_;refine AP U U (BM U E3 U (fun _ hx=>(by rw [Au hx.1]; rfl)) ?_);refine B6 U U (AJ U Gi U (BM U BC U (fun _ hx=>(by rw [Au hx.2.1]; rfl)) ?_));refine AP U U (AK U AU Bz U U (by omega) (by omega) ?_);refine BM U Bx U (fun _ hx=>((Cu hx.2.2).fld hgot rfl (j:=0) rfl)) ?_;refine Jz U U (by omega) (by omega) ?_;refine Bu ?_;replace H:=H.drew;refine ⟨?_,?_⟩
     ·skip
      refine Bs U QP H ?_;rintro b8 w - H;refine Ab (Lw (⟨H.get at3,H.get at4,H.get at7⟩) (KX U U ?_));refine Bu (Bs U FJ H ?_);rintro b9 w - H;refine Ab (Lw (⟨H.get at4,H.get at5,H.get at8⟩) (KX U U ?_));refine Bu (BX (.int _ _) U EV U U U H at1 (by decide) ?_);rintro w H;refine Ab (Lw (⟨H.get at4,H.get at5,H.get at8⟩) (KX U U ?_));refine Bu (BX (.int _ _) U Bz U U U H at0 (by decide) ?_);rintro w H;refine Ab (Lw (⟨H.get at4,H.get at5,H.get at8⟩) (TH ?_));refine Aa ?_;exact ⟨(b8,b9),rfl,⟨rfl,rfl,trivial⟩,H.perm (List.Perm.swap ..)⟩
     ·skip
      refine Bs U FJ H ?_;rintro b9 w - H;refine Ab (Lw (⟨H.get at3,H.get at4,H.get at7⟩) (KX U U ?_));refine Bu (Bs U QP H ?_);rintro b8 w - H;refine Ab (Lw (⟨H.get at4,H.get at5,H.get at8⟩) (KX U U ?_));refine Bu (BX (.int _ _) U EV U U U H at0 (by decide) ?_);rintro w H;refine Ab (Lw (⟨H.get at4,H.get at5,H.get at8⟩) (KX U U ?_));refine Bu (BX (.int _ _) U Bz U U U H at1 (by decide) ?_);rintro w H;refine Ab (Lw (⟨H.get at4,H.get at5,H.get at8⟩) (TH ?_));refine Aa ?_;exact ⟨(b8,b9),rfl,⟨rfl,rfl,trivial⟩,H⟩
    ·rintro ⟨b8,b9⟩ j w H; dsimp only at H; dsimp only;obtain ⟨path,hpath⟩:∃ path,path=DY (byO by') g (s.h tv) tv:=⟨_,rfl⟩;have BY':Bys g (Cv es) x p s (byO by'):=BY;obtain ⟨q1,q2,q3,q4⟩:=J8 BY' hdt rfl;have hpe:=Na BY' hdt rfl;have hwp:=OB BY' hdt rfl;rw [← hpath] at q1 hpe hwp;have hsd0:=fun v=>DN.J.dist (by omega) (by omega) v;refine Aq (Ag (AA U E3 U H at4 U (Ap U U (Ae U U ?_))));have hlt:=Ctx.ltI H;have hwb0:=H.size;refine Al U W6 (Ra _ _ (some ⟨ob,0,none⟩) N N bs (tv:Int) _ U U) U ?_;rintro rv w ⟨b3,b4,b5,rfl,hb3,hb4,hb5,s3,s4,s5,n53,n54,hx55⟩;replace H:=H.call hx55;refine Ab (Aa (Av ?_));obtain ⟨ws,rfl⟩:∃ z,z=w:=⟨_,rfl⟩;have l3:=B2 hb3;have l4:=B2 hb4;have l5:=B2 hb5;have hwsz:=H.size;have h05:w0.heap.size≤b5:=Nat.le_trans hwb0 s5;have n8:=hlt b8 (List.mem_cons_self ..);have n9:=hlt b9 (List.mem_cons_of_mem _ (List.mem_cons_self ..))
     refine Q8 (gf:=196) U WB (Rc (b3:=b3) (b4:=b4) (b5:=b5) (bs:=bs) (ob:=ob) (N:=N) (ae:=ae) (ce:=ce) (bf:=bf) (bp:=bp) (bo:=bo) (kk:=kk) (es:=es) (by':=by') (x:=x) (p:=p) (s:=s) hw (by rw [← hg]; exact BY') hby htv hdt U) (by kernel_rfl) (by kernel_rfl) (fun v hv=>by obtain ⟨p,-,rfl⟩:=List.mem_map.1 hv; rfl)
      (fun i M w'=>(M=fun y=>y=b8∨y=b9)∧(∃ mo:Int,Ctx w0 ids w' ((b8,Bl 3 [.int .i64 ((Rg g tv (path.take i):Nat):Int)])::(b9,Bl 2 [.int .i64 (mo)])::(od,Bl 2 (B9 s.d N))::(ob,Bl 3 (B9 by' N))::(b1,Bl 168 [ptr bs])::SL bs bf bp bo N ae es.length ce kk (x) (p) (ov) full)∧0<mo∧mo ≤ -ov tv∧∀ a∈path.take i,mo≤CE (Cv es) x a)∧w'.heap[b3]? = some (Bl 168 [ptr bs])∧w'.heap[b4]? = some (Bl 203 [.slice (some ⟨ob,0,none⟩) N N]))
      (fun _=>False) (by simp only [List.mem_singleton]; omega) (fun w2 hx2=>hx2.to hb5 (by simp))
      (fun w2 hx2 _=>⟨_,rfl,⟨-ov tv,H.call hx2,by omega,Int.le_refl _,fun a ha=>by cases ha⟩,hx2.to hb3 (by simp),hx2.to hb4 (by simp)⟩)
      (fun i M w' w'' hJ hx=>?_) (fun _ _ h _=>h) (fun i M w' hJ=>?_) ?_ ?_ (fun _ h _=>h.elim)
     ·obtain ⟨hM,⟨mo,HJ,m1,m2,m3⟩,g3,g4⟩:=hJ;refine ⟨hM,⟨mo,HJ.step hx (fun y hy=>?_) (fun z hz => .inr ?_),m1,m2,m3⟩,hx.to g3 ?_,hx.to g4 ?_⟩
      ·have h7:=List.mem_map_of_mem (f:=(·.1)) hy;have:=hlt y.1 h7;simp only [List.mem_cons,List.not_mem_nil,or_false]; omega
      ·simp only [List.mem_cons,List.not_mem_nil,or_false] at hz; omega
      ·simp only [List.mem_cons,List.not_mem_nil,or_false]; omega
      ·simp only [List.mem_cons,List.not_mem_nil,or_false]; omega
     ·obtain ⟨hM,⟨mo,HJ,m1,m2,m3⟩,g3,g4⟩:=hJ;refine ⟨fun y hy=>?_,g4,g3,HJ.get at5,HJ.get at3,hRe fun y hy=>HJ.blk y (List.mem_append_right [_,_,_,_,_,_,_,_,_] hy),?_⟩
      ·rw [hM] at hy
       rcases hy with rfl | rfl
       ·exact ⟨B2 (HJ.get at0),by omega,by omega⟩
       ·exact ⟨B2 (HJ.get at1),by omega,by omega⟩
      ·rw [hM]; dsimp only; omega
     ·rintro i v _ w hxv ⟨rfl,⟨mo,HJ,m1,m2,m3⟩,g3,g4⟩ hsz;rw [← hg,← hpath,List.getElem?_map] at hxv;obtain ⟨a,ha,rfl⟩:=Option.map_eq_some_iff.1 hxv;obtain ⟨hWa,-⟩:=q1 a (List.mem_of_getElem? ha);have hWlt:=hWa.lt;obtain ⟨-,hR,-⟩:=Nk hw (k:=a) (by omega);obtain ⟨w1,rfl⟩:∃ z,z=w:=⟨_,rfl⟩;refine Ag (Ad U U (Ab (Aa (Aw (Ad U U (Ab ?_))))));refine ⟨Ext.refl _ _,fun wB hxB=>?_⟩;have HB:=HJ.step hxB (fun y hy=>by have h7:=List.mem_map_of_mem (f:=(·.1)) hy; have:=hlt y.1 h7; rw [List.mem_singleton]; omega) (fun z hz => .inr (by rw [List.mem_singleton.1 hz]; omega));have e3:=hxB.to g3 (by rw [List.mem_singleton]; omega);have e4:=hxB.to g4 (by rw [List.mem_singleton]; omega);have k1:=HB.get at4;have ks:=HB.get at5;have kf:=HB.get at6;have hn1:=Ga (L:=[_,_]) HB.nd (x:=(b1,_)) (List.mem_of_getElem? (i:=2) rfl);have hns:=Ga (L:=[_,_]) HB.nd (x:=(bs,_)) (List.mem_of_getElem? (i:=3) rfl)
      have hnf:=Ga (L:=[_,_]) HB.nd (x:=(bf,_)) (List.mem_of_getElem? (i:=4) rfl);have hke:∀ y∈ent ae 92 full,wB.heap[y.1]? = some y.2∧y.1∉[b8,b9]:=fun y hy=>⟨HB.blk y (List.mem_append_right [_,_,_,_,_,_,_,_,_] hy),Ga (L:=[_,_]) HB.nd (List.mem_append_right [_,_,_,_,_,_,_] hy)⟩;obtain ⟨w2,rfl⟩:∃ z,z=wB:=⟨_,rfl⟩;have H:=Ctx.lend (L1:=[_,_]) (L2:=_::_::_::_::_::_::_::_) HB;refine Av (EG [([0,1,2,3,4,5,6,7,8,9,10],11),([12],13),([],14)] (fun z=>z.heap[b9]? = some (Bl 2 [.int .i64 mo])∧z.heap[b1]? = some (Bl 168 [ptr bs])∧z.heap[bs]? = some (Bl 170 (SC N ae es.length ce bf bp bo kk))) [14] B0 (by kernel_rfl) (⟨H.drew.get at1,H.drew.ext.to k1 hn1,H.drew.ext.to ks hns⟩) ?_);refine AL U U ?_;refine AP U U (BM U Bx U (fun _ hx=>(by rw [Au hx.1]; rfl)) ?_);refine BM U E3 U (fun _ hx=>(by rw [Au hx.2.1]; rfl)) ?_;refine B6 U U (AJ U Gh U (Fb _ U C1 Cs U U (fun _ hx=>(HV hx.2.2)) ?_))
      refine BM U E3 U (fun _ hx=>(by rw [Au hx.2.1]; rfl)) ?_;refine B6 U U (AJ U E7 U (BM U BC U (fun _ hx=>(by rw [Au hx.2.2]; rfl)) ?_));refine AP U U (Bu ?_);replace H:=H.drew;refine Al U SF (PH (N:Int) ae (some ⟨bf,0,none⟩) es.length ce es.length es.length es (tab x es.length) _ (hRe fun y hy=>H.ext.to (hke y hy).1 (hke y hy).2) U (by omega) hI (Cu (H.ext.to kf hnf)) (CV _ _) (by omega) (a:Int)) U ?_;rintro v w ⟨rfl,hx69⟩;replace H:=H.call hx69;rw [hR];refine Ab (BH (⟨H.get at1,H.ext.to k1 hn1,H.ext.to ks hns⟩) (AL U U ?_));refine Abc U U U ?_;refine Bu (BX (.int _ _) U EV U U U H at0 (by (simp; done)) ?_);rintro w H;refine Ab (BH (⟨H.get at1,H.ext.to k1 hn1,H.ext.to ks hns⟩) (AL U U ?_));refine Bu (BX (.int _ _) U Bz U U U H at1 (by (simp; done)) ?_);rintro w H;refine Ab (Cg U (BS (A3 ?_)));have hrm:=hWa.room;have HH:=Ctx.back (L1:=[_,_]) (L2:=_::_::_::_::_::_::_::_) HB H
      refine ⟨_,⟨rfl,⟨min mo (CE (Cv es) x a),by rw [Vn ha]; exact HH,by omega,by omega,fun a' ha'=>?_⟩,H.ext.to e3 (by simp only [List.map_cons,List.map_nil,List.mem_cons,List.not_mem_nil,or_false]; omega),H.ext.to e4 (by simp only [List.map_cons,List.map_nil,List.mem_cons,List.not_mem_nil,or_false]; omega)⟩,fun x hx => .inl hx,_,H.ext,fun x hx => .inl (by simpa using hx)⟩;rw [D5 ha] at ha'
      rcases List.mem_append.1 ha' with h | h
      ·have:=m3 a' h; omega
      ·rw [List.mem_singleton.1 h]; omega
     ·rintro M w ⟨-,⟨mo,HJ,m1,m2,m3⟩,-,-⟩ hD;have hxl:(List.map (Xz (grE (N:Int) es)) (DY (byO by') (grE (N:Int) es) (s.h tv) tv)).length=path.length:=by rw [List.length_map,← hg,← hpath]
      rw [hxl,List.take_length] at HJ m3;obtain ⟨f0,hf0⟩:∃ f0,f0=Rg g tv path:=⟨_,rfl⟩;rw [← hf0] at HJ hwp;rw [← hwp] at q3 q4;have hf0s:=(hsm f0).1 (by have h7:=DN.J.zero f0 q3 q4; rw [hgN] at h7; exact h7);have hovf:=hovb f0 hf0s.1;have hgof:(tab ov N)[f0]? = some (ov f0):=BZ hf0s.1;have H:=HJ.add hD (.inr hwsz) (fun y hy e=>by have h7:=List.mem_map_of_mem (f:=(·.1)) hy; have:=hlt y.1 h7; omega);refine A3 (Aa (E2 9 B0 (by kernel_rfl) U U ?_));refine Ce U Bx U (by rintro _ rfl; exact H.drew) at2 U ?_;refine Ce U E3 U (by rintro _ rfl; exact H.drew) at5 U ?_;refine Bm U U (A7 U Gi U (Ce U BC U (by rintro _ rfl; exact H.drew) at6 U ?_));refine Ce U BG U (by rintro _ rfl; exact H.drew) at1 U ?_;refine AR U AU Bz U U (by omega) (by omega) ?_;refine Ch U Bx U (by rintro _ rfl; exact (((Cu (H.drew.get at9)).fld hgof rfl (j:=0) rfl))) ?_;refine Abb U U U ?_;refine Ca ?_;replace H:=H.drew
      refine BX (.int _ _) U Bz U U U H at2 (by (simp; done)) ?_;rintro w H;refine Ab (Aa (Aq ?_));obtain ⟨mm,hmm⟩:∃ mm,mm=min mo (ov f0):=⟨_,rfl⟩;rw [← hmm] at H;have hmm0:0<mm∧mm≤ov f0∧mm ≤ -ov tv:=by omega
      refine Ag (AA U E3 U H at5 U (Ap U U (Ae U U ?_)));have hlt2:=Ctx.ltI H;have hwb2:=H.size;refine Al U W6 (Ra _ _ (some ⟨ob,0,none⟩) N N bs (tv:Int) _ U U) U ?_;rintro rv w ⟨c3,c4,c5,rfl,hc3,hc4,hc5,t3,t4,t5,nc53,nc54,hx83⟩;replace H:=H.call hx83;refine Ab (Aa (Av ?_));obtain ⟨wt,rfl⟩:∃ z,z=w:=⟨_,rfl⟩;have j3:=B2 hc3;have j4:=B2 hc4;have j5:=B2 hc5;have hwtz:=H.size;have nbf:=hlt2 bf (List.mem_of_getElem? (i:=7) rfl)
      refine Q8 (gf:=196) U WB (Rc (b3:=c3) (b4:=c4) (b5:=c5) (bs:=bs) (ob:=ob) (N:=N) (ae:=ae) (ce:=ce) (bf:=bf) (bp:=bp) (bo:=bo) (kk:=kk) (es:=es) (by':=by') (x:=x) (p:=p) (s:=s) hw (by rw [← hg]; exact BY') hby htv hdt U) (by kernel_rfl) (by kernel_rfl) (fun v hv=>by obtain ⟨p,-,rfl⟩:=List.mem_map.1 hv; rfl)
       (fun i M w'=>(M=fun y=>y=bf)∧Ctx w0 ids w' ((ws.heap.size,.deferred (some []))::((b8,Bl 3 [.int .i64 (f0:Int)])::(b9,Bl 2 [.int .i64 (mm)])::(od,Bl 2 (B9 s.d N))::(ob,Bl 3 (B9 by' N))::(b1,Bl 168 [ptr bs])::SL bs bf bp bo N ae es.length ce kk (Fd mm x (path.take i)) (p) (ov) full))∧w'.heap[c3]? = some (Bl 168 [ptr bs])∧w'.heap[c4]? = some (Bl 203 [.slice (some ⟨ob,0,none⟩) N N]))
       (fun _=>False) (by simp only [List.mem_singleton]; omega) (fun w2 hx2=>hx2.to hc5 (by simp))
       (fun w2 hx2 _=>⟨_,rfl,H.call hx2,hx2.to hc3 (by simp),hx2.to hc4 (by simp)⟩)
       (fun i M w' w'' hJ hx=>?_) (fun _ _ h _=>h) (fun i M w' hJ=>?_) ?_ ?_ (fun _ h _=>h.elim)
      ·obtain ⟨hM,HJ,g3,g4⟩:=hJ;refine ⟨hM,HJ.step hx (fun y hy=>?_) (fun z hz => .inr ?_),hx.to g3 ?_,hx.to g4 ?_⟩
       ·have h7:=List.mem_map_of_mem (f:=(·.1)) hy;have:=hlt2 y.1 h7;simp only [List.mem_cons,List.not_mem_nil,or_false]; omega
       ·simp only [List.mem_cons,List.not_mem_nil,or_false] at hz; omega
       ·simp only [List.mem_cons,List.not_mem_nil,or_false]; omega
       ·simp only [List.mem_cons,List.not_mem_nil,or_false]; omega
      ·obtain ⟨hM,HJ,g3,g4⟩:=hJ;refine ⟨fun y hy=>?_,g4,g3,HJ.get at6,HJ.get at4,hRe fun y hy=>HJ.blk y (List.mem_append_right [_,_,_,_,_,_,_,_,_,_] hy),?_⟩
       ·rw [hM] at hy;rw [hy];exact ⟨B2 (HJ.get at7),by omega,by omega⟩
       ·rw [hM]; dsimp only; omega
      ·rintro i v _ w hxv ⟨rfl,HJ,g3,g4⟩ hsz;rw [← hg,← hpath,List.getElem?_map] at hxv;obtain ⟨a,ha,rfl⟩:=Option.map_eq_some_iff.1 hxv;have ham:=List.mem_of_getElem? ha;obtain ⟨hWa,-⟩:=q1 a ham;have hWlt:=hWa.lt;have hai:a / 2<es.length:=by omega
       have hm4:=m3 a ham;have hcb2:=hcb (a / 2) hai;have hxb2:=hxb (a / 2) hai;have hxa:Fd mm x (path.take i) (a / 2)=x (a / 2):=Iw fun b hb=>Vp hpe ha b hb;have hgxa:(tab (Fd mm x (path.take i)) es.length)[a / 2]? = some (x (a / 2)):=by rw [BZ hai,hxa]
       have hsuc:∀ z,Fd mm x (path.take (i+1)) z=if z=a / 2 then (if a % 2=0 then x (a / 2)+mm else x (a / 2) - mm) else Fd mm x (path.take i) z:=fun z=>by
        rw [Vo ha];unfold HN
        by_cases e:z=a / 2
        ·rw [if_pos e,if_pos e,e,hxa]
        ·rw [if_neg e,if_neg e]
       have ha9:a<9223372036854775808:=by omega
       have hml:mm≤CE (Cv es) x a:=by omega
       obtain ⟨w1,rfl⟩:∃ z,z=w:=⟨_,rfl⟩;refine Aw (Ad U U (Ab ?_));refine ⟨Ext.refl _ _,fun wB hxB=>?_⟩;have HB:=HJ.step hxB (fun y hy=>by have h7:=List.mem_map_of_mem (f:=(·.1)) hy; have:=hlt2 y.1 h7; rw [List.mem_singleton]; omega) (fun z hz => .inr (by rw [List.mem_singleton.1 hz]; omega));have e3:=hxB.to g3 (by rw [List.mem_singleton]; omega);have e4:=hxB.to g4 (by rw [List.mem_singleton]; omega);have HP:=HB.perm (List.perm_middle (l₁:=[_,_,_,_,_,_,_]) (l₂:=_::_::_));have k1:=HP.get at6;have ks:=HP.get at7;have k9:=HP.get at3;have hn1:=Ga (L:=[_]) HP.nd (x:=(b1,_)) (List.mem_of_getElem? (i:=5) rfl);have hns:=Ga (L:=[_]) HP.nd (x:=(bs,_)) (List.mem_of_getElem? (i:=6) rfl);have hn9:=Ga (L:=[_]) HP.nd (x:=(b9,_)) (List.mem_of_getElem? (i:=2) rfl);have hnc:bf≠c3∧bf≠c4:=by omega
       obtain ⟨w2,rfl⟩:∃ z,z=wB:=⟨_,rfl⟩;have H:=Ctx.lend (L1:=[_]) (L2:=_::_::_::_::_::_::_::_::_::_) HP;clear HJ g3 g4 hlt hlt2 m1 m2 m3 q1 hpe hwp hRe hall hxb hovb hsrc hsnd hsm hds hlow hto hfit hpot hw hov hpb DN BY BY' hby hd0 hovt hgot hgof hwb0 hwb2 hWa ham ha hxv hsz hxB hsd0 hcb q2 q3 q4 hF;refine Av (Ag (Ae U U (MC (a:=a) (b:=1) U U U ha9 (by decide) ?_)));rw [Nat.and_one_is_mod];refine BQ U U U (Ab (Aa (Ay _ U ?_ ?_)))
       ·intro hpar;replace hpar:=AG hpar;have hp2:a % 2=0:=by omega
        unfold CE at hml;rw [if_pos hp2] at hml;refine EG [([0,1,2,3,4,5,6,7,8,9,10],11)] (fun z=>z.heap[b1]? = some (Bl 168 [ptr bs])∧z.heap[bs]? = some (Bl 170 (SC N ae es.length ce bf bp bo kk))∧z.heap[b9]? = some (Bl 2 [.int .i64 mm])∧z.heap[bf]? = some (Bl 2 (B9 (Fd mm x (path.take i)) es.length))) [11] B0 (by kernel_rfl) (⟨H.drew.ext.to k1 hn1,H.drew.ext.to ks hns,H.drew.ext.to k9 hn9,H.drew.get at0⟩) ?_;refine AL U U ?_;refine BM U E3 U (fun _ hx=>(by rw [Au hx.1]; rfl)) ?_;refine B6 U U (AJ U E7 U (BM U BC U (fun _ hx=>(by rw [Au hx.2.1]; rfl)) ?_));refine AP U U (Oe (a:=a) (n:=1) U U U (by decide) ?_);rw [Nat.pow_one];refine AK U AU Bz U U (by omega) (by omega) ?_;refine BM U Bx U (fun _ hx=>((Cu hx.2.2.2).fld hgxa rfl (j:=0) rfl)) ?_;refine BM U Bx U (fun _ hx=>(by rw [Au hx.2.2.1]; rfl)) ?_;refine Ee U U U (by omega) (by omega) ?_;refine AK U AU Bz U U (by omega) (by omega) ?_
        refine Bu ?_;replace H:=H.drew;refine Cc (a / 2) (fun z => .int .i64 (Fd mm x (path.take (i+1)) z)) (.int _ _) U Bz U U U H at0 (by omega) hai (by rw [hsuc,if_pos rfl,if_pos hp2]) (fun z _ hz=>by (try dsimp only); rw [hsuc,if_neg hz]) ?_;rintro w H;refine Ab (Cg U (BS (A3 ?_)));have HH:=(Ctx.back (L1:=[_]) (L2:=_::_::_::_::_::_::_::_::_::_) HP H).perm (List.perm_middle (l₁:=[_,_,_,_,_,_,_]) (l₂:=_::_::_)).symm;exact ⟨_,⟨rfl,HH,H.ext.to e3 (by rw [List.map_cons,List.map_nil,List.mem_singleton]; exact Ne.symm hnc.1),H.ext.to e4 (by rw [List.map_cons,List.map_nil,List.mem_singleton]; exact Ne.symm hnc.2)⟩,fun x hx => .inl hx,_,H.ext,fun x hx => .inl (List.mem_singleton.1 hx)⟩
       ·intro hpar;replace hpar:=AH hpar;have hp2:¬ a % 2=0:=by omega
        unfold CE at hml;rw [if_neg hp2] at hml;refine EG [([0,1,2,3,4,5,6,7,8,9,10],11)] (fun z=>z.heap[b1]? = some (Bl 168 [ptr bs])∧z.heap[bs]? = some (Bl 170 (SC N ae es.length ce bf bp bo kk))∧z.heap[b9]? = some (Bl 2 [.int .i64 mm])∧z.heap[bf]? = some (Bl 2 (B9 (Fd mm x (path.take i)) es.length))) [11] B0 (by kernel_rfl) (⟨H.drew.ext.to k1 hn1,H.drew.ext.to ks hns,H.drew.ext.to k9 hn9,H.drew.get at0⟩) ?_;refine AL U U ?_;refine BM U E3 U (fun _ hx=>(by rw [Au hx.1]; rfl)) ?_;refine B6 U U (AJ U E7 U (BM U BC U (fun _ hx=>(by rw [Au hx.2.1]; rfl)) ?_));refine AP U U (Oe (a:=a) (n:=1) U U U (by decide) ?_);rw [Nat.pow_one];refine AK U AU Bz U U (by omega) (by omega) ?_;refine BM U Bx U (fun _ hx=>((Cu hx.2.2.2).fld hgxa rfl (j:=0) rfl)) ?_;refine BM U Bx U (fun _ hx=>(by rw [Au hx.2.2.1]; rfl)) ?_;refine ET U U U (by omega) (by omega) ?_;refine AK U AU Bz U U (by omega) (by omega) ?_
        refine Bu ?_;replace H:=H.drew;refine Cc (a / 2) (fun z => .int .i64 (Fd mm x (path.take (i+1)) z)) (.int _ _) U Bz U U U H at0 (by omega) hai (by rw [hsuc,if_pos rfl,if_neg hp2]) (fun z _ hz=>by (try dsimp only); rw [hsuc,if_neg hz]) ?_;rintro w H;refine Ab (Cg U (BS (A3 ?_)));have HH:=(Ctx.back (L1:=[_]) (L2:=_::_::_::_::_::_::_::_::_::_) HP H).perm (List.perm_middle (l₁:=[_,_,_,_,_,_,_]) (l₂:=_::_::_)).symm;exact ⟨_,⟨rfl,HH,H.ext.to e3 (by rw [List.map_cons,List.map_nil,List.mem_singleton]; exact Ne.symm hnc.1),H.ext.to e4 (by rw [List.map_cons,List.map_nil,List.mem_singleton]; exact Ne.symm hnc.2)⟩,fun x hx => .inl hx,_,H.ext,fun x hx => .inl (List.mem_singleton.1 hx)⟩
      ·rintro M w ⟨-,HJ,-,-⟩ hD2;rw [hxl,List.take_length] at HJ;have H:=HJ.add hD2 (.inr hwtz) (fun y hy e=>by have h7:=List.mem_map_of_mem (f:=(·.1)) hy; have:=hlt2 y.1 h7; omega);replace H:=H.erase 5;obtain ⟨x',hx'⟩:∃ x',x'=Fd mm x path:=⟨_,rfl⟩;rw [← hx'] at H;have FF:=UY hF DN BY' hdt (m:=mm) (by omega) (fun a ha=>by have:=m3 a (hpath ▸ ha); omega);rw [← hpath,← hx'] at FF;have hov':∀ z,BE g x' z=BE g x z+mm*(one (tv=z) - one (f0=z)):=fun z=>by rw [hx',hpath,hwp]; exact L8 g mm BY' z x hdt rfl
       have hw':=LB hr (x:=x') (by rw [← hg]; exact FF);have hne:tv≠f0:=fun e=>by rw [e] at hov0; omega
       have hgo2:(tab (upd ov f0 (ov f0 - mm)) N)[tv]? = some (ov tv):=by rw [BZ htv,Es hne]
       have hgdt:(tab s.d N)[tv]? = some (s.d tv):=BZ htv;have hsdt:=hsd0 tv;have hpf:=Z7 hpn hpb
       have hne0:es≠[]→(adr ae).block≠bp:=fun h e=>by
        obtain ⟨q,rfl⟩:=O.form (List.length_pos_iff.2 h);have h7:=Ta (L:=[_,_,_,_]) H0.nd (x:=(bp,_)) (List.mem_of_getElem? (i:=2) rfl);exact h7 (by show bp∈[q]; rw [List.mem_singleton]; exact e.symm)
       have hex:=UZ (g:=g) (x:=x) (x':=x') (u:=f0) (v:=tv) (m:=mm) (by omega) (by omega) (by rw [← hov f0 hf0s.1]; omega) (by rw [← hov tv htv]; omega) hov';refine A3 (Aa ?_);clear hlt hlt2 q1 hpe hall hxb hovb hsrc hsnd hsm hds hlow hto hfit hpot hw DN BY BY' hby hwb0 hwb2 hsd0 hcb q2 q3 q4 HJ;refine E2 10 B0 (by kernel_rfl) U U ?_;refine Ce U E3 U (by rintro _ rfl; exact H.drew) at5 U ?_;refine Bm U U (A7 U Gi U (Ce U BC U (by rintro _ rfl; exact H.drew) at6 U ?_));refine Ce U BG U (by rintro _ rfl; exact H.drew) at2 U ?_;refine AR U AU Bz U U (by omega) (by omega) ?_;refine Ch U Bx U (by rintro _ rfl; exact (((Cu (H.drew.get at9)).fld hgof rfl (j:=0) rfl))) ?_;refine Ce U Bx U (by rintro _ rfl; exact H.drew) at3 U ?_;refine Dg U U U (by omega) (by omega) ?_;refine AR U AU Bz U U (by omega) (by omega) ?_;refine Ca ?_;replace H:=H.drew
       refine Cc f0 (fun z => .int .i64 (upd ov f0 (ov f0 - mm) z)) (.int _ _) U Bz U U U H at9 (by simp) hf0s.1 (by rw [D3]) (fun z _ hz=>by (try dsimp only); rw [Es hz]) ?_;rintro w H;refine Ab (Aa (E2 10 B0 (by kernel_rfl) U U ?_));refine Ce U E3 U (by rintro _ rfl; exact H.drew) at5 U ?_;refine Bm U U (A7 U Gi U (Ce U BC U (by rintro _ rfl; exact H.drew) at6 U ?_));refine AN U U (AR U AU Bz U U (by omega) (by omega) ?_);refine Ch U Bx U (by rintro _ rfl; exact (((Cu (H.drew.get at9)).fld hgo2 rfl (j:=0) rfl))) ?_;refine Ce U Bx U (by rintro _ rfl; exact H.drew) at3 U ?_;refine CU U U U (by omega) (by omega) ?_;refine AR U AU Bz U U (by omega) (by omega) ?_;refine Ca ?_;replace H:=H.drew;refine Cc tv (fun z => .int .i64 (upd (upd ov f0 (ov f0 - mm)) tv (ov tv+mm) z)) (.int _ _) U Bz U U U H at9 (by simp) htv (by rw [D3]) (fun z _ hz=>by (try dsimp only); rw [Es hz]) ?_;rintro w H
       refine Ab (Aa (E2 6 B0 (by kernel_rfl) U U ?_));refine Ce U E3 U (by rintro _ rfl; exact H.drew) at5 U ?_;refine BV U U (BV U U (AN U U (AR U AU Bz U U (by omega) (by omega) ?_)));refine Ch U Bx U (by rintro _ rfl; exact (((Cu (H.drew.get at4)).fld hgdt rfl (j:=0) rfl))) ?_;refine Ca ?_;replace H:=H.drew;have Hp:=H.perm (List.perm_middle (l₁:=[_,_,_,_,_,_,_,_]) (l₂:=_::_));refine Al U Acn (Xw (H.get at6) (H.get at8) (H.get at4) (H.ne at6 at8 (by decide)) (H.ne at4 at8 (by decide)) (by omega) ⟨by omega,by omega⟩ hpf) U ?_;rintro rv w ⟨rfl,H2⟩;replace H:=Ctx.back (L1:=[_]) (L2:=_::_::_::_::_::_::_::_::_::_) Hp H2;refine Ab (Aa (Ag (AA U E3 U H at6 U (Al U Aco (Vi (H.get at7) (hRe fun y hy=>H.blk y (List.mem_append_right [_,_,_,_,_,_,_,_,_,_] hy)) hne0 (H.get at8) (H.get at0) (H.ne at7 at0 (by decide)) (H.ne at8 at0 (by decide)) hw' (by rw [← hg]; exact FF)) U ?_))))
       rintro rv w ⟨rfl,p',FF2,hpb',H2⟩;replace H:=Ctx.back (L1:=[_]) (L2:=_::_::_::_::_::_::_::_::_::_) H H2;refine Ab (Aa (Ag (AA U E3 U H at6 U (AZ U U (Ah U MS U (AA U BG U H at7 U (LA U U U ?_)))))));intro kk2;refine AZ U U (Ah U MS U (BX (.int _ _) U EV U U U H at7 (by (simp; done)) ?_));rintro w H;refine Ab (Aa (Ag (Ai U U (Ab (Aa (A9 (Kv (v:=(.bool _)) U U (Vm (H.get at1) (H.get at2) (H.ne at2 at1 (by decide)) U fun wF hxF=>?_))))))));have HF:=(H.perm (List.perm_middle (l₁:=[_,_,_,_,_,_,_,_]) (l₂:=_::_)).symm);rw [← hg] at FF2;refine ⟨true,x',p',upd (upd ov f0 (ov f0 - mm)) tv (ov tv+mm),kk2,rfl,(HF.drop 6).step hxF (fun y hy=>Ga (L:=[_,_]) HF.nd (List.mem_of_mem_drop (i:=4) hy)) (fun z hz => .inr ?_),FF2,fun z hz=>?_,hpb',(fun h=>by cases h),fun _=>by omega⟩
       ·simp only [List.mem_cons,List.not_mem_nil,or_false] at hz;omega
       ·rw [hov',← hov z hz]
        by_cases e1:z=tv
        ·subst e1;rw [D3,HQ rfl,Hl (Ne.symm hne)]; omega
        ·rw [Es e1,Hl (Ne.symm e1)]
         by_cases e2:z=f0
         ·subst e2;rw [D3,HQ rfl]; omega
         ·rw [Es e2,Hl (Ne.symm e2)]; omega

end Go.Proofs.YtapphbmlkdhnmaaGreat

/- How many bits; the solver's beginning. -/
namespace Go.Proofs.YtapphbmlkdhnmaaGreat
open Go.GV
attribute [local irreducible] AC W Wq Wt

def PM:List UInt8:=[0]++List.replicate 1 1++List.replicate 2 2++List.replicate 4 3++List.replicate 8 4++List.replicate 16 5++List.replicate 32 6++List.replicate 64 7++List.replicate 128 8
theorem Vq:∀ i,i<256→∃ b:UInt8,PM[i]? = some b∧i<2 ^ b.toNat∧b.toNat≤8∧(0<i→2 ^ b.toNat≤2*i):=fun i hi=>by
 have h:(List.range 256).all (fun i=>match PM[i]? with | some b=>decide (i<2 ^ b.toNat) && (decide (b.toNat≤8) && (decide (i=0) || decide (2 ^ b.toNat≤2*i))) | none=>false)=true:=by kernel_rfl
 have h1:=List.all_eq_true.1 h i (List.mem_range.2 hi)
 cases hb:PM[i]? with
 | none=>rw [hb] at h1; cases h1
 | some b =>
  rw [hb] at h1;simp only [Bool.and_eq_true,Bool.or_eq_true,decide_eq_true_eq] at h1;exact ⟨b,rfl,h1.1,h1.2.1,fun h=>h1.2.2.resolve_left (by omega)⟩
theorem Tb {x k n:Nat} (h:x / 2 ^ k<2 ^ n):x<2 ^ (n+k):=by
 rw [Nat.pow_add];exact (Nat.div_lt_iff_lt_mul (Nat.two_pow_pos k)).1 h

theorem Tc {x k n:Nat} (h:2 ^ n≤2*(x / 2 ^ k)):2 ^ (n+k)≤2*x:=by
 rw [Nat.pow_add];have h1:2 ^ n*2 ^ k≤2*(x / 2 ^ k)*2 ^ k:=Nat.mul_le_mul_right _ h;have h2:x / 2 ^ k*2 ^ k≤x:=Nat.div_mul_le_self x _;rw [Nat.mul_assoc] at h1;omega

set_option maxRecDepth 20000 in
theorem Rh (x:Nat) (hx:x≤4503599627370496) (w:World):Ret Tryz.prog 118 #[.int .u64 (x:Int)] w fun v w'=>∃ r:Nat,v = .int .i64 (r:Int)∧x<2 ^ r∧r≤64∧(0<x→2 ^ r≤2*x)∧w=w':=by
 obtain ⟨w0,rfl⟩:∃ w0,w0=w:=⟨_,rfl⟩;have H:=Ctx.start w0 [];refine A2 (fn:=Tryz.f118) Tryz.func118 U [.int .u64 (x:Int)] U (by kernel_rfl) ?_;refine Ag (Ad U U (Ab (Aa (Aq (Ag (Ae U U (CQ U U U (Ab (Aa (Eo 101 (α:=Nat × Nat) (fun z=>[(0,.int .u64 (z.1:Int)),(2,.int .i64 (z.2:Int))]) (fun z w'=>w0=w'∧(∀ k,z.1<2 ^ k→x<2 ^ (k+z.2))∧(∀ k,2 ^ k≤2*z.1→2 ^ (k+z.2)≤2*x)∧(0<x→0<z.1)∧z.1<4294967296∧z.2≤32) U ?_ ?_))))))))))
 ·skip
  refine Ay _ U ?_ ?_
  ·intro h;replace h:=AG h;refine Ag (Ae U U (Ek (n:=32) U U U (by omega) ?_));refine Ad U U (Ab (Aa (Aw (Ad U U (Ab (Aa ?_))))));exact ⟨(x / 2 ^ 32,32),rfl,⟨rfl,rfl,trivial⟩,rfl,fun k hk=>Tb hk,fun k hk=>Tc hk,fun _=>by dsimp only; omega,by dsimp only; omega,by dsimp only; omega⟩
  ·intro h;replace h:=AH h;refine Ax (Aa ?_);exact ⟨(x,0),rfl,⟨rfl,rfl,trivial⟩,rfl,fun k hk=>hk,fun k hk=>hk,fun h=>h,by dsimp only; omega,by dsimp only; omega⟩
 ·rintro ⟨y,n⟩ j w ⟨rfl,hk,hg,h0,hy,hn⟩; dsimp only at hk hg h0 hy hn; dsimp only;refine Aq (Ag (Ae U U (CQ U U U (Ab (Aa (Eo 7685 (α:=Nat × Nat) (fun z=>[(0,.int .u64 (z.1:Int)),(2,.int .i64 (z.2:Int))]) (fun z w'=>w0=w'∧(∀ k,z.1<2 ^ k→x<2 ^ (k+z.2))∧(∀ k,2 ^ k≤2*z.1→2 ^ (k+z.2)≤2*x)∧(0<x→0<z.1)∧z.1<65536∧z.2≤48) U ?_ ?_))))))
  ·skip
   refine Ay _ U ?_ ?_
   ·intro h;replace h:=AG h;refine Ag (Ae U U (Ek (n:=16) U U U (by omega) ?_));refine Ad U U (Ab (Aa (Aw (Ae U U (Ao U U U (by omega) (by omega) ?_)))));refine Ad U U (Ab (Aa ?_));exact ⟨(y / 2 ^ 16,n+16),rfl,⟨rfl,rfl,trivial⟩,rfl,fun k h7=>by have:=hk _ (Tb h7); rw [show k+(n+16)=k+16+n by omega]; exact this,(fun k h7=>by have:=hg _ (Tc h7); rw [show k+(n+16)=k+16+n by omega]; exact this),fun _=>by dsimp only; omega,by dsimp only; omega,by dsimp only; omega⟩
   ·intro h;replace h:=AH h;refine Ax (Aa ?_);exact ⟨(y,n),rfl,⟨rfl,rfl,trivial⟩,rfl,hk,hg,h0,by dsimp only; omega,by dsimp only; omega⟩
  ·rintro ⟨y,n⟩ j2 w ⟨rfl,hk,hg,h0,hy,hn⟩; dsimp only at hk hg h0 hy hn; dsimp only;refine Aq (Ag (Ae U U (CQ U U U (Ab (Aa (Eo 491525 (α:=Nat × Nat) (fun z=>[(0,.int .u64 (z.1:Int)),(2,.int .i64 (z.2:Int))]) (fun z w'=>w0=w'∧(∀ k,z.1<2 ^ k→x<2 ^ (k+z.2))∧(∀ k,2 ^ k≤2*z.1→2 ^ (k+z.2)≤2*x)∧(0<x→0<z.1)∧z.1<256∧z.2≤56) U ?_ ?_))))))
   ·skip
    refine Ay _ U ?_ ?_
    ·intro h;replace h:=AG h;refine Ag (Ae U U (Ek (n:=8) U U U (by omega) ?_));refine Ad U U (Ab (Aa (Aw (Ae U U (Ao U U U (by omega) (by omega) ?_)))));refine Ad U U (Ab (Aa ?_));exact ⟨(y / 2 ^ 8,n+8),rfl,⟨rfl,rfl,trivial⟩,rfl,fun k h7=>by have:=hk _ (Tb h7); rw [show k+(n+8)=k+8+n by omega]; exact this,(fun k h7=>by have:=hg _ (Tc h7); rw [show k+(n+8)=k+8+n by omega]; exact this),fun _=>by dsimp only; omega,by dsimp only; omega,by dsimp only; omega⟩
    ·intro h;replace h:=AH h;refine Ax (Aa ?_);exact ⟨(y,n),rfl,⟨rfl,rfl,trivial⟩,rfl,hk,hg,h0,by dsimp only; omega,by dsimp only; omega⟩
   ·rintro ⟨y,n⟩ j3 w ⟨rfl,hk,hg,h0,hy,hn⟩; dsimp only at hk hg h0 hy hn; dsimp only;obtain ⟨b,hb,hb1,hb2,hb3⟩:=Vq y hy;have hb0:(bv b) = .int .u8 ((b.toNat:Nat):Int):=rfl;refine Ag (Ae U U (Ae U U (Ss U U Da Gj (by omega) (by omega) ?_)));refine UQ (l:=PM) b U SP (by kernel_rfl) U (by omega) hb ?_;rw [hb0];refine Dv U U Gj Fy (by omega) (by omega) ?_;refine Ao U U U (by omega) (by omega) ?_;refine Ad U U (Ab (Aa (A9 (AF (v:=(.int _ _)) U U U ?_))));refine ⟨n+b.toNat,congrArg (Value.int .i64) (by omega),?_,by omega,fun hx0=>?_,rfl⟩
    ·have:=hk _ hb1;rw [Nat.add_comm]; exact this
    ·have:=hg _ (hb3 (h0 hx0));rw [Nat.add_comm]; exact this

structure Bk where
 b:Nat
 c:Nat
 f:List Value
instance:Inhabited Bk:=⟨⟨0,0,[]⟩⟩
/-- The blocks that Best makes, by the operation that makes them. -/
def Gu:Nat→List Nat
 | 1=>[0] | 4=>[3] | 5=>[2,4,3] | 6=>[1,0,5,2,4,3] | 8=>[7] | 9=>[8,7] | 10=>[9,8,7] | 12=>[11] | 13=>[12,11] | 15=>[14] | 16=>[15,14]
 | 17=>[6,1,0,5,2,4,3,10,9,8,7,13,12,11,16,15,14] | 18=>[17,6,1,0,5,2,4,3,10,9,8,7,13,12,11,16,15,14] | 19=>[18,17,6,1,0,5,2,4,3,10,9,8,7,13,12,11,16,15,14] | _=>[]
/-- The edges' own array. -/
def sQ (n:Nat) (B:Nat→Bk):Bk:=if n=0 then ⟨(B 2).b,0,[]⟩ else B 5
def sSC (N n:Nat) (B:Nat→Bk):List Value:=SC N (some ⟨(sQ n B).b,0,none⟩) n (sQ n B).c (B 10).b (B 13).b (B 16).b 0
def Rj (b1:Nat) (N n:Nat) (a:Option Addr) (c:Nat) (i:Nat) (B:Nat→Bk):Value :=
 if i=0∨i=11∨i=14 then .pointer (some ⟨b1,0+0,none⟩) else if i=1∨i=12∨i=15 then .int .i64 (N:Int)
 else if i=2 then .slice (some ⟨(B 2).b,0,none⟩) 0 0 else if i=3∨i=7 then .pointer (some ⟨b1,0+1,none⟩) else if i=4∨i=8 then .slice a n c
 else if i=5 then .slice (some ⟨(sQ n B).b,0,none⟩) n (sQ n B).c else if i=6 then .agg #[.int .i64 (N:Int),.slice (some ⟨(sQ n B).b,0,none⟩) n (sQ n B).c]
 else if i=9 then .int .i64 (n:Int) else if i=10 then .slice (some ⟨(B 10).b,0,none⟩) n n else if i=13 then .slice (some ⟨(B 13).b,0,none⟩) N N
 else if i=16 then .slice (some ⟨(B 16).b,0,none⟩) N N else if i=17 then .agg (sSC N n B).toArray else ptr (B 18).b
def Gv (N n:Nat) (i:Nat):Option ((Nat→Bk)→Obj) :=
 if i=2 then some fun _=>Bl 92 [] else if i=5 then (if n=0 then none else some fun B=>Bl 92 (B 5).f) else if i=10 then some fun _=>Bl 2 (B9 (fun _=>0) n) else if i=13∨i=16 then some fun _=>Bl 2 (B9 (fun _=>0) N)
 else if i=18 then some fun B=>Bl 170 (sSC N n B) else none
def Aax (n:Nat) (es:List Ed) (i:Nat) (b:Bk):Prop:=i=5→n=0∨OS (some ⟨b.b,0,none⟩) n b.c 4 b.f (es.flatMap Br)
theorem sStab (b1 N n:Nat) (a:Option Addr) (c i k:Nat) (b:Bk) (B:Nat→Bk) (hi:i<19) (hki:k≠i) (hka:k∉Gu i):Rj b1 N n a c i (IR B k b)=Rj b1 N n a c i B∧∀ ob,Gv N n i=some ob→ob (IR B k b)=ob B:=by
 have hne:∀ j,k≠j→IR B k b j=B j:=fun j h=>Iu (Ne.symm h);have hq:k≠2→k≠5→sQ n (IR B k b)=sQ n B:=fun h2 h5=>by unfold sQ; rw [hne 2 h2,hne 5 h5]
 have hcs:i=0∨i=1∨i=2∨i=3∨i=4∨i=5∨i=6∨i=7∨i=8∨i=9∨i=10∨i=11∨i=12∨i=13∨i=14∨i=15∨i=16∨i=17∨i=18:=by omega
 have hs:(k≠2∧k≠5∧k≠10∧k≠13∧k≠16)→sSC N n (IR B k b)=sSC N n B:=fun h=>by unfold sSC; rw [hq h.1 h.2.1,hne 10 h.2.2.1,hne 13 h.2.2.2.1,hne 16 h.2.2.2.2]
 rcases hcs with rfl | rfl | rfl | rfl | rfl | rfl | rfl | rfl | rfl | rfl | rfl | rfl | rfl | rfl | rfl | rfl | rfl | rfl | rfl <;> simp only [Gu,List.mem_cons,List.not_mem_nil,or_false,not_or,not_false_eq_true] at hka <;> (try simp [Rj,Gv]) <;> (try rw [hne _ hki]) <;> (try rw [hq (by omega) (by omega)]) <;> (try rw [hs (by omega)]) <;> (try (constructor)) <;> (try rfl) <;> (try (split <;> simp)) <;> (try (intro ob h; subst h; rw [hne _ hki])) <;> (try (intro ob h; subst h; rw [hs (by omega)])) <;> (try exact ⟨rfl,rfl⟩) <;> (try (intro _; rfl))

end Go.Proofs.YtapphbmlkdhnmaaGreat

/- Sorting numbers of 64 bits: plain law of swaps; the comparison; insertion. -/
namespace Go.Proofs.YtapphbmlkdhnmaaGreat
open Go.GV
attribute [local irreducible] AC W Wq Wt

abbrev CB (f:Nat→Int) (m:Nat):List Value:=(List.range m).map fun i => .int .u64 (f i)
theorem C2 {w:World} {q m i:Nat} {f:Nat→Int} (h:w.heap[q]? = some (Bl 24 (CB f m))) (hi:i<m):w.cell? ⟨q,0+i*1,none⟩=some (.int .u64 (f i)):=by
 rw [Au h,Nat.zero_add,Nat.mul_one,DF hi]
def sw (f:Nat→Int) (i j k:Nat):Int:=if k=j then f i else if k=i then f j else f k
theorem DO (f:Nat→Int) (i j:Nat):sw f i j j=f i:=if_pos rfl
theorem DI {f:Nat→Int} {i j k:Nat} (h:k≠j):sw f i j k=if k=i then f j else f k:=if_neg h
theorem GX (f:Nat→Int) (i j:Nat):sw f i j i=f j:=by
 unfold sw
 by_cases e:i=j
 ·subst e; rw [if_pos rfl]
 ·rw [if_neg e,if_pos rfl]
theorem Ez {f:Nat→Int} {i j k:Nat} (h1:k≠i) (h2:k≠j):sw f i j k=f k:=by unfold sw; rw [if_neg h2,if_neg h1]
/-- By swaps of what lies there. -/
inductive Sw (a b:Nat):(Nat→Int)→(Nat→Int)→Prop
 | refl (f:Nat→Int):Sw a b f f
 | step {f g:Nat→Int} (h:Sw a b f g) (i j:Nat) (hi:a≤i∧i<b) (hj:a≤j∧j<b):Sw a b f (sw g i j)
theorem Sw.trans {a b:Nat} {f g h:Nat→Int} (h1:Sw a b f g) (h2:Sw a b g h):Sw a b f h:=by
 induction h2 with
 | refl=>exact h1
 | step _ i j hi hj ih=>exact ih.step i j hi hj
theorem Sw.mono {a b a' b':Nat} {f g:Nat→Int} (h:Sw a b f g) (ha:a'≤a) (hb:b≤b'):Sw a' b' f g:=by
 induction h with
 | refl=>exact .refl _
 | step _ i j hi hj ih=>exact ih.step i j ⟨by omega,by omega⟩ ⟨by omega,by omega⟩
theorem Sw.out {a b:Nat} {f g:Nat→Int} (h:Sw a b f g):∀ k,(k<a∨b≤k)→g k=f k:=by
 induction h with
 | refl=>exact fun _ _=>rfl
 | step _ i j hi hj ih=>exact fun k hk=>by rw [Ez (by omega) (by omega)]; exact ih k hk
/-- What lies there lay there. -/
theorem Sw.mem {a b:Nat} {f g:Nat→Int} (h:Sw a b f g):∀ k,a≤k→k<b→∃ k',a≤k'∧k'<b∧g k=f k':=by
 induction h with
 | refl=>exact fun k h1 h2=>⟨k,h1,h2,rfl⟩
 | @step g h i j hi hj ih =>
  intro k h1 h2
  by_cases e2:k=j
  ·rw [e2,DO]; exact ih i hi.1 hi.2
  ·by_cases e1:k=i
   ·rw [e1,GX]; exact ih j hj.1 hj.2
   ·rw [Ez e1 e2]; exact ih k h1 h2
theorem Aed {f:Nat→Int} {n i j:Nat} (hi:i<n) (hj:j<n):(tab (sw f i j) n).Perm (tab f n):=by
 have h:=Lk (L:=tab f n) (i:=i) (j:=j) (x:=f i) (y:=f j) (BZ hi) (BZ hj)
 have e:((tab f n).set i (f j)).set j (f i)=tab (sw f i j) n:=by
  unfold tab;rw [Jx (g:=fun k=>if k=i then f j else f k) (if_pos rfl) (fun k _ hk=>if_neg hk),Jx (g:=sw f i j) (DO f i j) (fun k _ hk=>DI hk)]
 rw [e] at h;exact h
theorem Sw.perm {a b n:Nat} {f g:Nat→Int} (h:Sw a b f g) (hb:b≤n):(tab g n).Perm (tab f n):=by
 induction h with
 | refl=>exact .refl _
 | step _ i j hi hj ih=>exact (Aed (by omega) (by omega)).trans ih
def IF (f:Nat→Int) (a b:Nat):Prop:=∀ x y,a≤x→x<y→y<b→f x≤f y
/-- Sorted up to i, but for the one at j that moves down. -/
def InsU (f:Nat→Int) (a j i:Nat):Prop:=∀ x y,a≤x→x<y→y≤i→y≠j→f x≤f y
theorem InsU.step {f:Nat→Int} {a j i:Nat} (h:InsU f a j i) (ha:a<j) (hi:j≤i) (hlt:f j<f (j - 1)):InsU (sw f j (j - 1)) a (j - 1) i:=fun x y hx hxy hy hne=>by
 by_cases e1:y=j
 ·subst e1;rw [GX]
  by_cases e2:x=y - 1
  ·rw [e2,DO]; omega
  ·rw [Ez (by omega) e2];exact h x (y - 1) hx (by omega) (by omega) (by omega)
 ·rw [Ez e1 hne]
  by_cases e2:x=j - 1
  ·rw [e2,DO]; exact h j y (by omega) (by omega) hy e1
  ·by_cases e3:x=j
   ·rw [e3,GX]; exact h (j - 1) y (by omega) (by omega) hy e1
   ·rw [Ez e3 e2]; exact h x y hx hxy hy e1
theorem InsU.done {f:Nat→Int} {a j i:Nat} (h:InsU f a j i) (hj:a≤j) (hj0:a<j→f (j - 1)≤f j):IF f a (i+1):=fun x y hx hxy hy=>by
 by_cases e:y=j
 ·subst e;have h1:=hj0 (by omega)
  by_cases e2:x=y - 1
  ·rw [e2]; exact h1
  ·exact Int.le_trans (h x (y - 1) hx (by omega) (by omega) (by omega)) h1
 ·exact h x y hx hxy (by omega) e

theorem EE (x y:Int) (w:World):Ret Tryz.prog 206 #[.int .u64 x,.int .u64 y] w fun v w'=>v = .bool (decide (x<y))∧w=w':=by
 have nan:∀ (x:Int) (w:World),Ret Tryz.prog 223 #[.int .u64 x] w fun v w'=>v = .bool false∧w=w':=fun x w=>by
  refine A2 (fn:=Tryz.f223) Tryz.func223 U [.int .u64 x] U (by kernel_rfl) ?_;refine Ag (Ai U U (Ab (Aa (Ag (Ae U U (Ae U U (CC U U U (Ai U U (Ab (Aa (A9 (AF (v:=(.bool _)) U U U ?_))))))))))));exact ⟨congrArg Value.bool (by simp),rfl⟩
 refine A2 (fn:=Tryz.f206) Tryz.func206 U [.int .u64 x,.int .u64 y] U (by kernel_rfl) ?_;refine Ag (Ai U U (Ab (Aa (Ag (Ae U U (Al U WJ (nan x w) U ?_))))));rintro v w ⟨rfl,rfl⟩;refine Ak U U (A4 7 U ?_ ?_)
 ·intro h1;refine Ae U U (Al U WJ (nan y _) U ?_);rintro v w ⟨rfl,rfl⟩;refine Bv U U (An U U (.bool _) U (Ak U U (A4 12 U ?_ ?_)))
  ·intro h2;replace h2:=Bo h2;refine Af U (Af U (Af U (An U U (.bool _) U (Ai U U (Ab (Aa (A9 (AF (v:=(.bool _)) U U U ?_))))))));exact ⟨congrArg Value.bool (by simp_all),rfl⟩
  ·intro h3;replace h3:=Bp h3;refine Ae U U (Ae U U (AO U U U (A1 U U (.bool _) U (Ai U U (Ab (Aa (A9 (AF (v:=(.bool _)) U U U ?_))))))));exact ⟨congrArg Value.bool (by simp_all),rfl⟩
 ·intro h4;refine Af U (Af U (Af U (A1 U U (.bool _) U (Ak U U (Ae U U (Ae U U (AO U U U (A1 U U (.bool _) U (Ai U U ?_)))))))));refine Ab (Aa (A9 (AF (v:=(.bool _)) U U U ?_)));exact ⟨congrArg Value.bool (by simp_all),rfl⟩

section
variable {w:World} {q n c m a b:Nat} {f:Nat→Int}

set_option maxRecDepth 20000 in
set_option maxHeartbeats 2000000 in
theorem PN (hd:w.heap[q]? = some (Bl 24 (CB f m))) (hab:a≤b) (hb:b≤n) (hn:n≤m) (hm:n≤1000000000) :
  Ret Tryz.prog 200 #[.slice (some ⟨q,0,none⟩) n c,.int .i64 (a:Int),.int .i64 (b:Int)] w fun v w'=>v = .tuple #[]∧∃ g,Sw a b f g∧IF g a b∧Ctx w [q] w' [(q,Bl 24 (CB g m))]:=by
 obtain ⟨w0,rfl⟩:∃ w0,w0=w:=⟨_,rfl⟩;have H:=Ctx.start1 hd;refine A2 (fn:=Tryz.f200) Tryz.func200 U [.slice (some ⟨q,0,none⟩) n c,.int .i64 (a:Int),.int .i64 (b:Int)] U (by kernel_rfl) ?_;refine Ag (Ae U U (Ao U U U (by omega) (by omega) ?_));refine Ad U U (Ab (Aa (Av (Bd 562949953420480 (α:=Nat × (Nat→Int)) (fun t=>[(6,.int .i64 (t.1:Int))]) (fun t w'=>a+1≤t.1∧t.1≤max b (a+1)∧Sw a b f t.2∧IF t.2 a t.1∧Ctx w0 [q] w' [(q,Bl 24 (CB t.2 m))]) (fun t=>b - t.1) (a+1,f) U ?_ ?_ ?_))))
 ·exact ⟨congrArg (Value.int .i64) (by dsimp only; omega),trivial⟩
 ·exact ⟨Nat.le_refl _,by dsimp only; omega,.refl _,fun x y h1 h2 h3=>by dsimp only at h3; omega,H⟩
 ·rintro ⟨i,g⟩ j0 w ⟨hi1,hi2,hS,hO,H⟩; dsimp only at hi1 hi2 hS hO H; dsimp only;refine Aq (Ag (Ae U U (Ae U U (AO U U U (Ab (Aa (Ay _ U ?_ ?_)))))))
  ·intro h1;replace h1:=AG h1;refine Ax (Aa (Aq (Av (Ag (Ae U U (Ad U U (Ab (Aa (Av (Bd 562949953355904 (α:=Nat × (Nat→Int)) (fun t=>[(7,.int .i64 (t.1:Int))]) (fun t w'=>a≤t.1∧t.1≤i∧Sw a b f t.2∧InsU t.2 a t.1 i∧Ctx w0 [q] w' [(q,Bl 24 (CB t.2 m))]) (fun t=>t.1) (i,g) U ?_ ?_ ?_))))))))))
   ·exact ⟨rfl,trivial⟩
   ·exact ⟨by dsimp only; omega,Nat.le_refl _,hS,fun x y hx hxy hy hne=>hO x y hx hxy (by dsimp only at hne; omega),H⟩
   ·rintro ⟨j,g⟩ j1 w ⟨hj1,hj2,hS,hI,H⟩; dsimp only at hj1 hj2 hS hI H; dsimp only;have e1:(j:Int).toNat=j:=rfl;have e2:((j:Int) - 1).toNat=j - 1:=by omega
    refine Aq (E2 13 B0 (by kernel_rfl) U U ?_);refine AN U U (AN U U (Aaf U U U (DB U U (Dz 19 U ?_ ?_))))
    ·intro h2;replace h2:=AG h2;refine BV U U (AN U U (AR U Bf Be U U (by omega) (by omega) ?_));refine Ch U BR U (by rintro _ rfl; exact ((C2 (H.drew.get at0) (by omega)))) ?_;refine BV U U (AN U U (Dg U U U (by omega) (by omega) ?_));refine AR U Bf Be U U (by omega) (by omega) ?_;refine Ch U BR U (by rintro _ rfl; exact ((C2 (H.drew.get at0) (by omega)))) ?_;refine Ca ?_;replace H:=H.drew;refine Al U FH (EE _ _ _) U ?_;rintro v w ⟨rfl,rfl⟩;refine An U U (.bool _) U (Ab (Aa (Ay _ U ?_ ?_)))
     ·intro h3;rw [e1,e2] at h3;have h3:=of_decide_eq_true h3;refine Ax (Aa (Aq (Av (EG [([0,1,2,3,4,5,6,7,8,9,10,11,12,13,14],15),([16],17)] (fun z=>z.heap[q]? = some (Bl 24 (CB g m))) [15,17] B0 (by kernel_rfl) (H.drew.get at0) ?_))));refine AL U U ?_;refine Bq U U (AP U U (Bq U U (AP U U (ET U U U (by omega) (by omega) ?_))));refine Bq U U (AP U U (ET U U U (by omega) (by omega) ?_));refine AK U Bf Be U U (by omega) (by omega) ?_;refine BM U BR U (fun _ hx=>(C2 hx (by omega))) ?_;refine Bq U U (AP U U (AK U Bf Be U U (by omega) (by omega) ?_));refine BM U BR U (fun _ hx=>(C2 hx (by omega))) ?_;refine AK U Bf Be U U (by omega) (by omega) ?_;refine Bu ?_;replace H:=H.drew
      refine Cc j (fun k => .int .u64 (if k=j then g (j - 1) else g k)) (.int _ _) U Be U U U H at0 (by omega) (by omega) (by rw [if_pos rfl]; exact congrArg (fun z=>Value.int .u64 (g z)) (by omega)) (fun k _ hk=>by rw [if_neg hk]) ?_;rintro w H;refine Ab (Cg U (AL U U ?_));refine AK U Bf Be U U (by omega) (by omega) ?_;refine Bu (Cc (j - 1) (fun k => .int .u64 (sw g j (j - 1) k)) (.int _ _) U Be U U U H at0 (by omega) (by omega) (by rw [DO]; rfl) (fun k _ hk=>by rw [DI hk]) ?_);rintro w H;refine Ab (Cg U (BS (A3 (Aa (Aw (Ae U U (Bg U U U (by omega) (by omega) ?_)))))));refine Ad U U (Ab (Aa ?_));exact ⟨(j - 1,sw g j (j - 1)),rfl,⟨congrArg (Value.int .i64) (by dsimp only; omega),trivial⟩,⟨by dsimp only; omega,by dsimp only; omega,hS.step j (j - 1) ⟨by omega,by omega⟩ ⟨by omega,by omega⟩,hI.step (by omega) hj2 h3,H⟩,by dsimp only; omega⟩
     ·intro h3;rw [e1,e2] at h3;have h3:=of_decide_eq_false h3;refine Bc (Aj (Aj (AD (A3 (Aa (Aw (Ae U U (Ao U U U (by omega) (by omega) ?_))))))));refine Ad U U (Ab (Aa ?_));exact ⟨(i+1,g),rfl,⟨rfl,trivial⟩,⟨by dsimp only; omega,by dsimp only; omega,hS,hI.done hj1 fun _=>by omega,H⟩,by dsimp only; omega⟩
    ·intro h2;replace h2:=AH h2;refine A0 U (A0 U (A0 U (A0 U (A0 U (A0 U (A0 U (A0 U (A0 U (Ca ?_)))))))));replace H:=H.drew;refine Af U (A1 U U (.bool _) U (Ab (Aa (EQ U (Bc (Aj (Aj (AD (A3 (Aa (Aw (Ae U U (Ao U U U (by omega) (by omega) ?_)))))))))))));refine Ad U U (Ab (Aa ?_));exact ⟨(i+1,g),rfl,⟨rfl,trivial⟩,⟨by dsimp only; omega,by dsimp only; omega,hS,hI.done hj1 fun h=>by omega,H⟩,by dsimp only; omega⟩
  ·intro h1;replace h1:=AH h1;refine Bc (Aj (Aj (AD (Db U U ?_))));exact ⟨rfl,g,hS,fun x y hx hxy hy=>hO x y hx hxy (by omega),H⟩
end

end Go.Proofs.YtapphbmlkdhnmaaGreat

/- Sorting numbers of 64 bits: by a heap. -/
namespace Go.Proofs.YtapphbmlkdhnmaaGreat
open Go.GV
attribute [local irreducible] AC W Wq Wt

def HeapU (g:Nat→Int) (o lo hi:Nat):Prop:=∀ i c,lo≤i→(c=2*i+1∨c=2*i+2)→c<hi→g (o+c)≤g (o+i)
structure SiftU (g:Nat→Int) (o lo r hi:Nat):Prop where
 oth:∀ i c,lo≤i→i≠r→(c=2*i+1∨c=2*i+2)→c<hi→g (o+c)≤g (o+i)
 up:∀ p c,lo≤p→(r=2*p+1∨r=2*p+2)→(c=2*r+1∨c=2*r+2)→c<hi→g (o+c)≤g (o+p)
theorem SiftU.start {g:Nat→Int} {o lo hi:Nat} (h:HeapU g o (lo+1) hi):SiftU g o lo lo hi:=⟨fun i c hi hne hc hh=>h i c (by omega) hc hh,fun p c hp hr _ _=>by omega⟩
theorem SiftU.done {g:Nat→Int} {o lo r hi:Nat} (h:SiftU g o lo r hi) (hr:∀ c,(c=2*r+1∨c=2*r+2)→c<hi→g (o+c)≤g (o+r)):HeapU g o lo hi:=fun i c hl hc hh=>by
 by_cases e:i=r
 ·subst e; exact hr c hc hh
 ·exact h.oth i c hl e hc hh
theorem SiftU.step {g:Nat→Int} {o lo r hi c:Nat} (h:SiftU g o lo r hi) (hl:lo≤r) (hc:c=2*r+1∨c=2*r+2) (hch:c<hi) (hmax:∀ d,(d=2*r+1∨d=2*r+2)→d<hi→g (o+d)≤g (o+c)) (hlt:g (o+r)<g (o+c)):SiftU (sw g (o+r) (o+c)) o lo c hi:=by
 refine ⟨fun i d hi' hne hd hh=>?_,fun p e hp hcp he hh=>?_⟩
 ·by_cases e1:i=r
  ·rw [e1,GX]
   by_cases e2:d=c
   ·rw [e2,DO]; omega
   ·rw [Ez (by omega) (by omega)]; exact hmax d (by omega) hh
  ·rw [Ez (k:=o+i) (by omega) (by omega)]
   by_cases e2:d=r
   ·rw [e2,GX]; exact h.up i c hi' (by omega) hc hch
   ·rw [Ez (by omega) (by omega)]; exact h.oth i d hi' e1 hd hh
 ·have e1:p=r:=by omega
  rw [e1,GX,Ez (by omega) (by omega)];exact h.oth c e (by omega) (by omega) he hh
/-- The root is the greatest. -/
theorem HeapU.root {g:Nat→Int} {o hi:Nat} (h:HeapU g o 0 hi):∀ i,i<hi→g (o+i)≤g (o+0):=fun i=>by
 induction i using Nat.strongRecOn with
 | _ i ih =>
  intro hi'
  rcases Nat.eq_zero_or_pos i with h0 | h0
  ·rw [h0]; exact Int.le_refl _
  ·exact Int.le_trans (h ((i - 1) / 2) i (Nat.zero_le _) (by omega) hi') (ih ((i - 1) / 2) (by omega) (by omega))

section
variable {w:World} {q n c m:Nat} {f:Nat→Int}

set_option maxRecDepth 20000 in
set_option maxHeartbeats 2000000 in
theorem Ur {lo hi o:Nat} (hd:w.heap[q]? = some (Bl 24 (CB f m))) (hb:o+hi≤n) (hn:n≤m) (hm:n≤1000000000) (hl:lo≤1000000000) (hH:HeapU f o (lo+1) hi) :
  Ret Tryz.prog 218 #[.slice (some ⟨q,0,none⟩) n c,.int .i64 (lo:Int),.int .i64 (hi:Int),.int .i64 (o:Int)] w fun v w'=>v = .tuple #[]∧∃ g,Sw o (o+hi) f g∧HeapU g o lo hi∧Ctx w [q] w' [(q,Bl 24 (CB g m))]:=by
 obtain ⟨w0,rfl⟩:∃ w0,w0=w:=⟨_,rfl⟩;have H:=Ctx.start1 hd;refine A2 (fn:=Tryz.f218) Tryz.func218 U [.slice (some ⟨q,0,none⟩) n c,.int .i64 (lo:Int),.int .i64 (hi:Int),.int .i64 (o:Int)] U (by kernel_rfl) ?_;refine Ag (Ae U U (Ad U U (Ab (Aa (Av (Bd 75557863725914323417856 (α:=Nat × (Nat→Int)) (fun t=>[(8,.int .i64 (t.1:Int))]) (fun t w'=>lo≤t.1∧t.1≤1000000000∧Sw o (o+hi) f t.2∧SiftU t.2 o lo t.1 hi∧Ctx w0 [q] w' [(q,Bl 24 (CB t.2 m))]) (fun t=>1000000000 - t.1) (lo,f) U ?_ ?_ ?_))))))
 ·exact ⟨rfl,trivial⟩
 ·exact ⟨Nat.le_refl _,hl,.refl _,.start hH,H⟩
 ·rintro ⟨r,g⟩ j0 w ⟨hr1,hr2,hS,hD,H⟩; dsimp only at hr1 hr2 hS hD H; dsimp only;refine Av (Ag (Ae U U (Cn U U U (by omega) (by omega) ?_)));refine Ao U U U (by omega) (by omega) ?_;rw [show 2*(r:Int)+1=((2*r+1:Nat):Int) by omega];refine Ad U U (Ab (Aa (Aq (Ag (Ae U U (Ae U U (CQ U U U (Ab (Aa (Ay _ U ?_ ?_))))))))))
  ·intro h1;replace h1:=AG h1;refine Bc (Aj (ER U (Aj (AD (Db U U ?_)))));exact ⟨rfl,g,hS,hD.done fun c hc hh=>by omega,H⟩
  ·intro h1;replace h1:=AH h1;have e1:((o:Int)+((2*r+1:Nat):Int)).toNat=o+(2*r+1):=by omega
   have e2:((o:Int)+((2*r+1:Nat):Int)+1).toNat=o+(2*r+2):=by omega
   refine Ax (Aa (Aq (DC 137438822400 (α:=Unit) (fun _=>[(36,.bool (decide (2*r+2<hi∧g (o+(2*r+1))<g (o+(2*r+2)))))]) (fun _ w'=>Ctx w0 [q] w' [(q,Bl 24 (CB g m))]) U ?_ ?_)))
   ·skip
    refine F8 18 B0 (by kernel_rfl) U U ?_;refine AN U U (CU U U U (by omega) (by omega) ?_);refine AN U U (Lx U U U (DB U U (Dz 21 U ?_ ?_)))
    ·intro h1;replace h1:=AG h1;refine BV U U (AN U U (AN U U (CU U U U (by omega) (by omega) ?_)));refine AR U Bf Be U U (by omega) (by omega) ?_;refine Ch U BR U (by rintro _ rfl; exact ((C2 (H.drew.get at0) (by omega)))) ?_;refine BV U U (AN U U (AN U U (CU U U U (by omega) (by omega) ?_)));refine CU U U U (by omega) (by omega) ?_;refine AR U Bf Be U U (by omega) (by omega) ?_;refine Ch U BR U (by rintro _ rfl; exact ((C2 (H.drew.get at0) (by omega)))) ?_;refine Ca ?_;replace H:=H.drew;refine Al U FH (EE _ _ _) U ?_;rintro v w ⟨rfl,rfl⟩;rw [e1,e2];refine An U U (.bool _) U (Ab (Aa ?_));exact ⟨(),rfl,⟨congrArg Value.bool (by rw [Bool.eq_iff_iff]; simp_all; try omega),trivial⟩,H⟩
    ·intro h2;replace h2:=AH h2;refine A0 U (A0 U (A0 U (A0 U (A0 U (A0 U (A0 U (A0 U (A0 U (A0 U ?_)))))))));refine A0 U (A0 U (A0 U (Ca ?_)));replace H:=H.drew;refine Af U (A1 U U (.bool _) U (Ab (Aa ?_)));exact ⟨(),rfl,⟨congrArg Value.bool (by rw [Bool.eq_iff_iff]; simp_all; try omega),trivial⟩,H⟩
   ·rintro - j1 w H;refine Eo 412316860928 (α:=Nat) (fun d=>[(9,.int .i64 (d:Int))]) (fun d w'=>(d=2*r+1∨d=2*r+2)∧d<hi∧(∀ e,(e=2*r+1∨e=2*r+2)→e<hi→g (o+e)≤g (o+d))∧Ctx w0 [q] w' [(q,Bl 24 (CB g m))]) U ?_ ?_
    ·skip
     refine Ay _ U ?_ ?_
     ·intro h2;have h2:=of_decide_eq_true h2;refine Aw (Ae U U (Ao U U U (by omega) (by omega) ?_));refine Ad U U (Ab (Aa ?_));refine ⟨2*r+2,rfl,⟨congrArg (Value.int .i64) (by omega),trivial⟩,.inr rfl,h2.1,fun e he _=>?_,H⟩
      rcases he with rfl | rfl
      ·omega
      ·omega
     ·intro h2;have h2:=of_decide_eq_false h2;refine Ax (Aa ?_);refine ⟨2*r+1,rfl,⟨rfl,trivial⟩,.inl rfl,by omega,fun e he hh=>?_,H⟩
      rcases he with rfl | rfl
      ·omega
      ·rcases Int.lt_or_le (g (o+(2*r+1))) (g (o+(2*r+2))) with h7 | h7
       ·exact absurd ⟨hh,h7⟩ h2
       ·exact h7
    ·rintro d j2 w ⟨hd1,hd2,hmax,H⟩;have e3:((o:Int)+(r:Int)).toNat=o+r:=by omega
     have e4:((o:Int)+(d:Int)).toNat=o+d:=by omega
     refine Aq (E2 12 B0 (by kernel_rfl) U U ?_);refine BV U U (AN U U (AN U U (CU U U U (by omega) (by omega) ?_)));refine AR U Bf Be U U (by omega) (by omega) ?_;refine Ch U BR U (by rintro _ rfl; exact ((C2 (H.drew.get at0) (by omega)))) ?_;refine BV U U (AN U U (AN U U (CU U U U (by omega) (by omega) ?_)));refine AR U Bf Be U U (by omega) (by omega) ?_;refine Ch U BR U (by rintro _ rfl; exact ((C2 (H.drew.get at0) (by omega)))) ?_;refine Ca ?_;replace H:=H.drew;refine Al U FH (EE _ _ _) U ?_;rintro v w ⟨rfl,rfl⟩;rw [e3,e4];refine Bv U U (Ab (Aa (Ay _ U ?_ ?_)))
     ·intro h3;replace h3:=Bo h3;refine A9 (Am (AB (Am (AB (Fg U U ?_)))));have h3:¬ g (o+r)<g (o+d):=by simpa using h3
      exact ⟨rfl,g,hS,hD.done fun c hc hh=>Int.le_trans (hmax c hc hh) (by omega),H⟩
     ·intro h3;replace h3:=Bp h3;have h3:g (o+r)<g (o+d):=by simpa using h3
      refine Ax (Aa (CI [([0,1,2,3,4,5,6,7,8,9,10,11,12,13,14,15,16,17,18,19,20],21),([22],23)] (fun z=>z.heap[q]? = some (Bl 24 (CB g m))) [21,23] B0 (by kernel_rfl) (H.drew.get at0) ?_));refine AL U U ?_;refine Bq U U (AP U U (AP U U (Ee U U U (by omega) (by omega) ?_)));refine Bq U U (AP U U (AP U U (Ee U U U (by omega) (by omega) ?_)));refine Bq U U (AP U U (AP U U (Ee U U U (by omega) (by omega) ?_)));refine AK U Bf Be U U (by omega) (by omega) ?_;refine BM U BR U (fun _ hx=>(C2 hx (by omega))) ?_;refine Bq U U (AP U U (AP U U (Ee U U U (by omega) (by omega) ?_)));refine AK U Bf Be U U (by omega) (by omega) ?_;refine BM U BR U (fun _ hx=>(C2 hx (by omega))) ?_;refine AK U Bf Be U U (by omega) (by omega) ?_;refine Bu ?_;replace H:=H.drew
      refine Cc (o+r) (fun k => .int .u64 (if k=o+r then g (o+d) else g k)) (.int _ _) U Be U U U H at0 (by omega) (by omega) (by rw [if_pos rfl]; exact congrArg (fun z=>Value.int .u64 (g z)) (by omega)) (fun k _ hk=>by rw [if_neg hk]) ?_;rintro w H;refine Ab (Cg U (AL U U ?_));refine AK U Bf Be U U (by omega) (by omega) ?_;refine Bu (Cc (o+d) (fun k => .int .u64 (sw g (o+r) (o+d) k)) (.int _ _) U Be U U U H at0 (by omega) (by omega) (by rw [DO]; exact congrArg (fun z=>Value.int .u64 (g z)) (by omega)) (fun k _ hk=>by rw [DI hk]) ?_);rintro w H;refine Ab (Cg U (BS (Aw (Ae U U (Ad U U (Ab (A3 (Aa ?_))))))));exact ⟨(d,sw g (o+r) (o+d)),rfl,⟨rfl,trivial⟩,⟨by dsimp only; omega,by dsimp only; omega,hS.step _ _ ⟨by omega,by omega⟩ ⟨by omega,by omega⟩,hD.step hr1 hd1 hd2 hmax h3,H⟩,by dsimp only; omega⟩

/-- Sorted behind i, and what is ahead is no greater. -/
structure HsU (g:Nat→Int) (a i b:Nat):Prop where
 srt:IF g (a+i) b
 le:∀ x y,x<i→a+i≤y→y<b→g (a+x)≤g y
set_option maxRecDepth 20000 in
set_option maxHeartbeats 2000000 in
theorem Rl {a b:Nat} (hd:w.heap[q]? = some (Bl 24 (CB f m))) (hab:a<b) (hb:b≤n) (hn:n≤m) (hm:n≤1000000000) :
  Ret Tryz.prog 201 #[.slice (some ⟨q,0,none⟩) n c,.int .i64 (a:Int),.int .i64 (b:Int)] w fun v w'=>v = .tuple #[]∧∃ g,Sw a b f g∧IF g a b∧Ctx w [q] w' [(q,Bl 24 (CB g m))]:=by
 obtain ⟨w0,rfl⟩:∃ w0,w0=w:=⟨_,rfl⟩;have H:=Ctx.start1 hd;obtain ⟨l,rfl⟩:∃ l,b=a+l:=⟨b - a,by omega⟩;have hl:((a+l:Nat):Int) - (a:Int)=(l:Int):=by omega
 have hl1:(l:Int) - 1=((l - 1:Nat):Int):=by omega
 refine A2 (fn:=Tryz.f201) Tryz.func201 U [.slice (some ⟨q,0,none⟩) n c,.int .i64 (a:Int),.int .i64 ((a+l:Nat):Int)] U (by kernel_rfl) ?_;refine Ag (Ae U U (Ad U U (Ab (Aa (Ag (Ad U U (Ab (Aa (Ag (Ae U U (Ae U U ?_)))))))))));refine Bg U U U (by omega) (by omega) ?_;rw [hl];refine Ad U U (Ab (Aa (Aq (Ag (Ae U U (Bg U U U (by omega) (by omega) ?_))))));refine GF U U U (by omega) (by omega) (show _≤(9223372036854775807:Int) by omega) ?_;refine Ad U U (Ab (Aa (Av (Bd 133956096 (α:=Nat × (Nat→Int)) (fun t=>[(9,.int .i64 ((t.1:Int) - 1))]) (fun t w'=>t.1≤l+1∧Sw a (a+l) f t.2∧HeapU t.2 a t.1 l∧Ctx w0 [q] w' [(q,Bl 24 (CB t.2 m))]) (fun t=>t.1) ((l - 1) / 2+1,f) U ?_ ?_ ?_))))
 ·exact ⟨congrArg (Value.int .i64) (by dsimp only; omega),trivial⟩
 ·exact ⟨by dsimp only; omega,.refl _,fun i c h1 h2 h3=>by dsimp only at h1; omega,H⟩
 ·rintro ⟨k,g⟩ j0 w ⟨hk,hS,hP,H⟩; dsimp only at hk hS hP H; dsimp only
  rcases k with _ | k
  ·skip
   refine Aq (Ag (Ae U U (CQ U U U (Ab (Aa (Ay _ U ?_ ?_))))))
   ·intro h1;replace h1:=AG h1;omega
   ·intro h1;replace h1:=AH h1;refine Bc (Aj (Aj (AD (Aa (Ag (Ae U U (Bg U U U (by omega) (by omega) ?_)))))));refine Ad U U (Ab (Aa (Av (Bd 72057593501058048 (α:=Nat × (Nat→Int)) (fun t=>[(10,.int .i64 ((t.1:Int) - 1))]) (fun t w'=>t.1≤l∧Sw a (a+l) f t.2∧HeapU t.2 a 0 t.1∧HsU t.2 a t.1 (a+l)∧Ctx w0 [q] w' [(q,Bl 24 (CB t.2 m))]) (fun t=>t.1) (l,g) U ?_ ?_ ?_))))
    ·exact ⟨rfl,trivial⟩
    ·exact ⟨Nat.le_refl _,hS,hP,⟨fun x y h1 h2 h3=>by dsimp only at h1; omega,fun x y h1 h2 h3=>by dsimp only at h2; omega⟩,H⟩
    ·rintro ⟨k,g⟩ j1 w ⟨hk,hS,hP,hQ,H⟩; dsimp only at hk hS hP hQ H; dsimp only
     rcases k with _ | k
     ·skip
      refine Aq (Ag (Ae U U (CQ U U U (Ab (Aa (Ay _ U ?_ ?_))))))
      ·intro h2;replace h2:=AG h2;omega
      ·intro h2;replace h2:=AH h2;refine Bc (Aj (Aj (AD (Db U U ?_))));exact ⟨rfl,g,hS,hQ.srt,H⟩
     ·rw [show ((k+1:Nat):Int) - 1=(k:Int) by omega];refine Aq (Ag (Ae U U (CQ U U U (Ab (Aa (Ay _ U ?_ ?_))))))
      ·intro h2;replace h2:=AG h2;refine Ax (Aa (Aq (Av (CI [([0,1,2,3,4,5,6,7,8,9,10,11,12,13,14,15,16],17),([18],19)] (fun z=>z.heap[q]? = some (Bl 24 (CB g m))) [17,19] B0 (by kernel_rfl) (H.drew.get at0) ?_))));refine AL U U ?_;refine Bq U U (AP U U (Bq U U (AP U U (AP U U (Ee U U U (by omega) (by omega) ?_)))));refine Bq U U (AP U U (AP U U (Ee U U U (by omega) (by omega) ?_)));refine AK U Bf Be U U (by omega) (by omega) ?_;refine BM U BR U (fun _ hx=>(C2 hx (by omega))) ?_;refine Bq U U (AP U U (AK U Bf Be U U (by omega) (by omega) ?_));refine BM U BR U (fun _ hx=>(C2 hx (by omega))) ?_;refine AK U Bf Be U U (by omega) (by omega) ?_;refine Bu ?_;replace H:=H.drew
       refine Cc (a+0) (fun z => .int .u64 (if z=a+0 then g (a+k) else g z)) (.int _ _) U Be U U U H at0 (by omega) (by omega) (by rw [if_pos rfl]; exact congrArg (fun z=>Value.int .u64 (g z)) (by omega)) (fun z _ hz=>by rw [if_neg hz]) ?_;rintro w H;refine Ab (Cg U (AL U U ?_));refine AK U Bf Be U U (by omega) (by omega) ?_;refine Bu (Cc (a+k) (fun z => .int .u64 (sw g (a+0) (a+k) z)) (.int _ _) U Be U U U H at0 (by omega) (by omega) (by rw [DO]; exact congrArg (fun z=>Value.int .u64 (g z)) (by omega)) (fun z _ hz=>by rw [DI hz]) ?_);rintro w H;refine Ab (Cg U (BS (Aw (Ap U U (Ae U U (Ae U U (Ae U U (Al U WH (Ur (lo:=0) (hi:=k) (o:=a) (f:=sw g (a+0) (a+k)) (H.get at0) (by omega) hn hm (by omega) (fun i c h1 h2 h3=>by rw [Ez (by omega) (by omega),Ez (by omega) (by omega)]; exact hP i c (by omega) h2 (by omega))) U ?_))))))));rintro rv w ⟨rfl,g2,hS2,hP2,H2⟩
       replace H:=Ctx.back (L1:=[_]) (L2:=[]) H H2;refine Ab (A3 (Aa (Aw (Ae U U (Bg U U U (by omega) (by omega) ?_)))));refine Ad U U (Ab (Aa ?_));have hout:=fun z hz=>hS2.out z hz;have hk2:g2 (a+k)=g (a+0):=by rw [hout _ (.inr (Nat.le_refl _)),DO]
       have hot:∀ z,a+k<z→g2 z=g z:=fun z hz=>by rw [hout _ (.inr (by omega)),Ez (by omega) (by omega)]
       refine ⟨(k,g2),rfl,⟨rfl,trivial⟩,⟨by dsimp only; omega,(hS.step (a+0) (a+k) ⟨by omega,by omega⟩ ⟨by omega,by omega⟩).trans (hS2.mono (Nat.le_refl _) (by omega)),hP2,⟨fun x y h1 h2 h3=>?_,fun x y h1 h2 h3=>?_⟩,H⟩,by dsimp only; omega⟩
       ·dsimp only at h1 ⊢;rw [hot y (by omega)]
        by_cases e:x=a+k
        ·rw [e,hk2]; exact hQ.le 0 y (by omega) (by omega) h3
        ·rw [hot x (by omega)]; exact hQ.srt x y (by omega) h2 h3
       ·dsimp only at h1 h2 ⊢;obtain ⟨z,hz1,hz2,hz3⟩:=hS2.mem (a+x) (by omega) (by omega)
        obtain ⟨u,hu1,hu2⟩:∃ u,u<k+1∧g2 (a+x)=g (a+u):=by
         by_cases e:z=a+0
         ·exact ⟨k,by omega,by rw [hz3,e,GX]⟩
         ·exact ⟨z - a,by omega,by rw [hz3,Ez e (by omega)]; congr 1; omega⟩
        rw [hu2]
        by_cases e:y=a+k
        ·rw [e,hk2]; exact hP.root u hu1
        ·rw [hot y (by omega)]; exact hQ.le u y hu1 (by omega) h3
      ·intro h2;replace h2:=AH h2;omega
  ·rw [show ((k+1:Nat):Int) - 1=(k:Int) by omega];refine Aq (Ag (Ae U U (CQ U U U (Ab (Aa (Ay _ U ?_ ?_))))))
   ·intro h1;replace h1:=AG h1;refine Ax (Aa (Aq (Av (Aw (Ap U U (Ae U U (Ae U U (Ae U U (Al U WH (Ur (lo:=k) (hi:=l) (o:=a) (f:=g) (H.get at0) (by omega) hn hm (by omega) hP) U ?_)))))))));rintro rv w ⟨rfl,g2,hS2,hP2,H2⟩;replace H:=Ctx.back (L1:=[_]) (L2:=[]) H H2;refine Ab (A3 (Aa (Aw (Ae U U (Bg U U U (by omega) (by omega) ?_)))));refine Ad U U (Ab (Aa ?_));exact ⟨(k,g2),rfl,⟨rfl,trivial⟩,⟨by dsimp only; omega,hS.trans hS2,hP2,H⟩,by dsimp only; omega⟩
   ·intro h1;replace h1:=AH h1;omega
end

end Go.Proofs.YtapphbmlkdhnmaaGreat

/- Sorting numbers of 64 bits: which one is the pivot. -/
namespace Go.Proofs.YtapphbmlkdhnmaaGreat
open Go.GV
attribute [local irreducible] AC W Wq Wt

section
variable {w:World} {q n c m s:Nat} {k:Int} {f:Nat→Int}

set_option maxRecDepth 20000 in
theorem Lm {i j:Nat} (hd:w.heap[q]? = some (Bl 24 (CB f m))) (hs:w.heap[s]? = some (Bl 3 [.int .i64 k])) (hi:i<n) (hj:j<n) (hn:n≤m) (hm:n≤1000000000) :
  Ret Tryz.prog 227 #[.slice (some ⟨q,0,none⟩) n c,.int .i64 (i:Int),.int .i64 (j:Int),ptr s] w fun v w'=>∃ (x y:Nat) (k':Int),((x=i∧y=j)∨(x=j∧y=i))∧v = .tuple #[.int .i64 (x:Int),.int .i64 (y:Int)]∧Ctx w [s] w' [(s,Bl 3 [.int .i64 k'])]:=by
 obtain ⟨w0,rfl⟩:∃ w0,w0=w:=⟨_,rfl⟩;have H:=Ctx.start1 hs;refine A2 (fn:=Tryz.f227) Tryz.func227 U [.slice (some ⟨q,0,none⟩) n c,.int .i64 (i:Int),.int .i64 (j:Int),.pointer (some ⟨s,0,none⟩)] U (by kernel_rfl) ?_;refine Ag (Ad U U (Ad U U (Ab (Aa (Aq (E2 8 B0 (by kernel_rfl) U U ?_))))));refine BV U U (AN U U (AR U Bf Be U U (by omega) (by omega) ?_));refine Ch U BR U (by rintro _ rfl; exact ((C2 (w:=w0.drew) hd (by omega)))) ?_;refine BV U U (AN U U (AR U Bf Be U U (by omega) (by omega) ?_));refine Ch U BR U (by rintro _ rfl; exact ((C2 (w:=w0.drew) hd (by omega)))) ?_;refine Ca ?_;replace H:=H.drew;refine Al U FH (EE _ _ _) U ?_;rintro v w ⟨rfl,rfl⟩;refine Ab (Aa (Ay _ U ?_ ?_))
 ·intro h1;refine Ag (Ba U U (AZ U U (AA U BG U H at0 U (LA U U U ?_))));intro k2;refine AZ U U (BX (.int _ _) U EV U U U H at0 (by (simp; done)) ?_);rintro w H;refine Ab (Aa (Ag (Ae U U (Ae U U (Ad U U (Ad U U (Ab (Aa (A9 (Am (DG (v1:=(.int _ _)) (v2:=(.int _ _)) U U U U ?_)))))))))));exact ⟨j,i,k2,.inr ⟨rfl,rfl⟩,rfl,H⟩
 ·intro h1;refine Ax (Aa (Ag (Ae U U (Ae U U (Ad U U (Ad U U (Ab (Aa (A9 (DG (v1:=(.int _ _)) (v2:=(.int _ _)) U U U U ?_))))))))));exact ⟨i,j,k,.inl ⟨rfl,rfl⟩,rfl,H⟩

set_option maxRecDepth 20000 in
theorem OC {i j l:Nat} (hd:w.heap[q]? = some (Bl 24 (CB f m))) (hs:w.heap[s]? = some (Bl 3 [.int .i64 k])) (hne:q≠s) (hi:i<n) (hj:j<n) (hl:l<n) (hn:n≤m) (hm:n≤1000000000) :
  Ret Tryz.prog 222 #[.slice (some ⟨q,0,none⟩) n c,.int .i64 (i:Int),.int .i64 (j:Int),.int .i64 (l:Int),ptr s] w fun v w'=>∃ (x:Nat) (k':Int),(x=i∨x=j∨x=l)∧v = .int .i64 (x:Int)∧Ctx w [s] w' [(s,Bl 3 [.int .i64 k'])]:=by
 obtain ⟨w0,rfl⟩:∃ w0,w0=w:=⟨_,rfl⟩;have H:=Ctx.start1 hs;have hq:q∉[s]:=by rw [List.mem_singleton]; exact hne
 refine A2 (fn:=Tryz.f222) Tryz.func222 U [.slice (some ⟨q,0,none⟩) n c,.int .i64 (i:Int),.int .i64 (j:Int),.int .i64 (l:Int),.pointer (some ⟨s,0,none⟩)] U (by kernel_rfl) ?_;refine Ag (Ad U U (Ab (Aa (Ag (Ap U U (Ae U U (Ae U U (Ba U U (Al U SM (Lm (i:=i) (j:=j) (H.ext.to hd hq) (H.get at0) hi hj hn hm) U ?_)))))))));rintro v w ⟨x1,y1,k1,h1,rfl,H2⟩;replace H:=Ctx.back (L1:=[_]) (L2:=[]) H H2;refine BK U U (A6 U U U (A6 U U U (Ad U U (Ad U U (Ab (Aa (Ag (Ap U U (Ae U U (Ae U U ?_))))))))));refine Ba U U (Al U SM (Lm (i:=y1) (j:=l) (H.ext.to hd hq) (H.get at0) (by omega) hl hn hm) U ?_);rintro v w ⟨x2,y2,k2,h2,rfl,H2⟩;replace H:=Ctx.back (L1:=[_]) (L2:=[]) H H2;refine BK U U (A6 U U U (A6 U U U (Ad U U (Ad U U (Ab (Aa (Ag (Ap U U (Ae U U (Ae U U ?_))))))))));refine Ba U U (Al U SM (Lm (i:=x1) (j:=x2) (H.ext.to hd hq) (H.get at0) (by omega) (by omega) hn hm) U ?_)
 rintro v w ⟨x3,y3,k3,h3,rfl,H2⟩;replace H:=Ctx.back (L1:=[_]) (L2:=[]) H H2;refine BK U U (A6 U U U (A6 U U U (Ad U U (Ad U U (Ab (Aa (Ag (Ae U U (Ad U U (Ab (Aa ?_)))))))))));refine A9 (AF (v:=(.int _ _)) U U U ?_);exact ⟨y3,k3,by omega,rfl,H⟩

set_option maxRecDepth 20000 in
theorem I6 {i:Nat} (hd:w.heap[q]? = some (Bl 24 (CB f m))) (hs:w.heap[s]? = some (Bl 3 [.int .i64 k])) (hne:q≠s) (hi0:0<i) (hi:i+1<n) (hn:n≤m) (hm:n≤1000000000) :
  Ret Tryz.prog 221 #[.slice (some ⟨q,0,none⟩) n c,.int .i64 (i:Int),ptr s] w fun v w'=>∃ (x:Nat) (k':Int),(x+1=i∨x=i∨x=i+1)∧v = .int .i64 (x:Int)∧Ctx w [s] w' [(s,Bl 3 [.int .i64 k'])]:=by
 obtain ⟨w0,rfl⟩:∃ w0,w0=w:=⟨_,rfl⟩;refine A2 (fn:=Tryz.f221) Tryz.func221 U [.slice (some ⟨q,0,none⟩) n c,.int .i64 (i:Int),.pointer (some ⟨s,0,none⟩)] U (by kernel_rfl) ?_;refine Ag (Ad U U (Ab (Aa (Ag (Ap U U (Ae U U (Bg U U U (by omega) (by omega) ?_)))))));rw [show (i:Int) - 1=((i - 1:Nat):Int) by omega];refine Ae U U (Ae U U (Ao U U U (by omega) (by omega) ?_));rw [show (i:Int)+1=((i+1:Nat):Int) by omega];refine Ba U U (Al U WI (OC (i:=i - 1) (j:=i) (l:=i+1) hd hs hne (by omega) (by omega) (by omega) hn hm) U ?_);rintro v w ⟨x1,k1,h1,rfl,H⟩;refine Ad U U (Ab (Aa (A9 (AF (v:=(.int _ _)) U U U ?_))));exact ⟨x1,k1,by omega,rfl,H⟩

set_option maxRecDepth 20000 in
set_option maxHeartbeats 2000000 in
theorem X4 {a b:Nat} (hd:w.heap[q]? = some (Bl 24 (CB f m))) (hab:a<b) (hb:b≤n) (hn:n≤m) (hm:n≤1000000000) :
  Ret Tryz.prog 203 #[.slice (some ⟨q,0,none⟩) n c,.int .i64 (a:Int),.int .i64 (b:Int)] w fun v w'=>∃ (x:Nat) (h:Int),a≤x∧x<b∧v = .tuple #[.int .i64 (x:Int),.int .i64 h]∧Ext [] w w':=by
 obtain ⟨w0,rfl⟩:∃ w0,w0=w:=⟨_,rfl⟩;have H:=Ctx.start w0 [];obtain ⟨l,rfl⟩:∃ l,b=a+l:=⟨b - a,by omega⟩;have hl:((a+l:Nat):Int) - (a:Int)=(l:Int):=by omega
 have hql:=B2 hd;refine A2 (fn:=Tryz.f203) Tryz.func203 U [.slice (some ⟨q,0,none⟩) n c,.int .i64 (a:Int),.int .i64 ((a+l:Nat):Int)] U (by kernel_rfl) ?_;refine Ag (Ad U U (Ad U U (Ab (Aa (Ag (Ae U U (Ae U U (Bg U U U (by omega) (by omega) ?_))))))));rw [hl];refine Ad U U (Ab (Aa (Ag (Bs U QP H ?_))));rintro b9 w - H;refine Ab (Aa (Ag (Ae U U (Ae U U (GF U U U (by omega) (by omega) (show _≤(9223372036854775807:Int) by omega) ?_)))));refine Cn U U U (by omega) (by omega) ?_;refine Ao U U U (by omega) (by omega) ?_;rw [show (a:Int)+(l:Int) / 4*1=((a+l / 4:Nat):Int) by omega];refine Ad U U (Ab (Aa (Ag (Ae U U (Ae U U (GF U U U (by omega) (by omega) (show _≤(9223372036854775807:Int) by omega) ?_))))));refine Cn U U U (by omega) (by omega) ?_;refine Ao U U U (by omega) (by omega) ?_;rw [show (a:Int)+(l:Int) / 4*2=((a+l / 4*2:Nat):Int) by omega]
 refine Ad U U (Ab (Aa (Ag (Ae U U (Ae U U (GF U U U (by omega) (by omega) (show _≤(9223372036854775807:Int) by omega) ?_))))));refine Cn U U U (by omega) (by omega) ?_;refine Ao U U U (by omega) (by omega) ?_;rw [show (a:Int)+(l:Int) / 4*3=((a+l / 4*3:Nat):Int) by omega];refine Ad U U (Ab (Aa (Aq (Ag (Ae U U (CQ U U U (Ab (Aa ?_))))))));have hqs:=H.own _ (List.mem_cons_self ..)
 have hne:q≠b9:=fun e=>by subst e; rcases hqs with h | h; cases h; dsimp only at h; omega
 refine Eo 562941363493888 (α:=Nat × Int) (fun z=>[(11,.int .i64 (z.1:Int))]) (fun z w'=>a≤z.1∧z.1<a+l∧Ctx w0 [] w' [(b9,Bl 3 [.int .i64 z.2])]) U ?_ ?_
 ·skip
  refine Ay _ U ?_ ?_
  ·intro h1;replace h1:=AG h1;refine Aq (Ag (Ae U U (CQ U U U (Ab (Aa (Eo 17557826313216 (α:=Nat × Nat × Nat × Int) (fun z=>[(10,.int .i64 (z.1:Int)),(11,.int .i64 (z.2.1:Int)),(12,.int .i64 (z.2.2.1:Int))]) (fun z w'=>(a≤z.1∧z.1<a+l)∧(a≤z.2.1∧z.2.1<a+l)∧(a≤z.2.2.1∧z.2.2.1<a+l)∧Ctx w0 [] w' [(b9,Bl 3 [.int .i64 z.2.2.2])]) U ?_ ?_))))))
   ·skip
    refine Ay _ U ?_ ?_
    ·intro h2;replace h2:=AG h2;refine Ag (Ap U U (Ae U U (Al U SJ (I6 (i:=a+l / 4) (H.ext.to hd (by simp)) (H.get at0) hne (by omega) (by omega) hn hm) U ?_)));rintro v w ⟨x1,k1,h3,rfl,H2⟩;replace H:=Ctx.back (L1:=[_]) (L2:=[]) H H2;refine Ad U U (Ab (Aa (Ag (Ap U U (Ae U U (Al U SJ (I6 (i:=a+l / 4*2) (H.ext.to hd (by simp)) (H.get at0) hne (by omega) (by omega) hn hm) U ?_))))));rintro v w ⟨x2,k2,h4,rfl,H2⟩;replace H:=Ctx.back (L1:=[_]) (L2:=[]) H H2;refine Ad U U (Ab (Aa (Aw (Ap U U (Ae U U (Al U SJ (I6 (i:=a+l / 4*3) (H.ext.to hd (by simp)) (H.get at0) hne (by omega) (by omega) hn hm) U ?_))))));rintro v w ⟨x3,k3,h5,rfl,H2⟩;replace H:=Ctx.back (L1:=[_]) (L2:=[]) H H2;refine Ad U U (Ab (Aa ?_));exact ⟨(x1,x2,x3,k3),rfl,⟨rfl,rfl,rfl,trivial⟩,by dsimp only; omega,by dsimp only; omega,by dsimp only; omega,H⟩
    ·intro h2;replace h2:=AH h2;refine Ax (Aa ?_);exact ⟨(a+l / 4,a+l / 4*2,a+l / 4*3,_),rfl,⟨rfl,rfl,rfl,trivial⟩,by dsimp only; omega,by dsimp only; omega,by dsimp only; omega,H⟩
   ·rintro ⟨x1,x2,x3,k1⟩ j1 w ⟨g1,g2,g3,H⟩; dsimp only at g1 g2 g3 H; dsimp only;refine Aw (Ap U U (Ae U U (Ae U U (Ae U U (Al U WI (OC (i:=x1) (j:=x2) (l:=x3) (H.ext.to hd (by simp)) (H.get at0) hne (by omega) (by omega) (by omega) hn hm) U ?_)))));rintro v w ⟨x4,k4,h3,rfl,H2⟩;replace H:=Ctx.back (L1:=[_]) (L2:=[]) H H2;refine Ad U U (Ab (Aa ?_));exact ⟨(x4,k4),rfl,⟨rfl,trivial⟩,by dsimp only; omega,by dsimp only; omega,H⟩
  ·intro h1;replace h1:=AH h1;refine Ax (Aa ?_);exact ⟨(a+l / 4*2,_),rfl,⟨rfl,trivial⟩,by dsimp only; omega,by dsimp only; omega,H⟩
 ·rintro ⟨x,k⟩ j w ⟨g1,g2,H⟩; dsimp only at g1 g2 H; dsimp only;refine Ag (AA U BG U H at0 U (Ab (Aa (Av (Ag (BQ U U U (Ai U U (Ab (Aa (Ay _ U ?_ ?_))))))))))
  ·intro h1;replace h1:=AG h1;refine Ag (Ae U U (Ad U U (Ad U U (Ab (Aa (A9 (AB (DG (v1:=(.int _ _)) (v2:=(.int _ _)) U U U U ?_))))))));exact ⟨x,_,g1,g2,rfl,H.ext⟩
  ·intro h2;replace h2:=AH h2;refine Ag (BQ U U U (Ai U U (Ab (Aa (Ay _ U ?_ ?_)))))
   ·intro h3;replace h3:=AG h3;refine Ag (Ae U U (Ad U U (Ad U U (Ab (Aa (A9 (AB (DG (v1:=(.int _ _)) (v2:=(.int _ _)) U U U U ?_))))))));exact ⟨x,_,g1,g2,rfl,H.ext⟩
   ·intro h4;replace h4:=AH h4;refine Ag (Ae U U (Ad U U (Ad U U (Ab (Aa (A9 (AB (DG (v1:=(.int _ _)) (v2:=(.int _ _)) U U U U ?_))))))));exact ⟨x,_,g1,g2,rfl,H.ext⟩

set_option maxRecDepth 20000 in
set_option maxHeartbeats 2000000 in
theorem Td {a b:Nat} (hd:w.heap[q]? = some (Bl 24 (CB f m))) (hab:a<b) (hb:b≤n) (hn:n≤m) (hm:n≤1000000000) :
  Ret Tryz.prog 204 #[.slice (some ⟨q,0,none⟩) n c,.int .i64 (a:Int),.int .i64 (b:Int)] w fun v w'=>v = .tuple #[]∧∃ g,Sw a b f g∧Ctx w [q] w' [(q,Bl 24 (CB g m))]:=by
 obtain ⟨w0,rfl⟩:∃ w0,w0=w:=⟨_,rfl⟩;have H:=Ctx.start1 hd;refine A2 (fn:=Tryz.f204) Tryz.func204 U [.slice (some ⟨q,0,none⟩) n c,.int .i64 (a:Int),.int .i64 (b:Int)] U (by kernel_rfl) ?_;refine Ag (Ae U U (Ad U U (Ab (Aa (Ag (Ae U U (Bg U U U (by omega) (by omega) ?_)))))));rw [show (b:Int) - 1=((b - 1:Nat):Int) by omega];refine Ad U U (Ab (Aa (Av (Bd 4294965440 (α:=Nat × Nat × (Nat→Int)) (fun t=>[(6,.int .i64 (t.1:Int)),(7,.int .i64 (t.2.1:Int))]) (fun t w'=>a≤t.1∧t.2.1<b∧t.1≤b∧Sw a b f t.2.2∧Ctx w0 [q] w' [(q,Bl 24 (CB t.2.2 m))]) (fun t=>b - t.1) (a,b - 1,f) U ?_ ?_ ?_))))
 ·exact ⟨rfl,rfl,trivial⟩
 ·exact ⟨Nat.le_refl _,by dsimp only; omega,by dsimp only; omega,.refl _,H⟩
 ·rintro ⟨i,j,g⟩ j0 w ⟨g1,g2,g3,hS,H⟩; dsimp only at g1 g2 g3 hS H; dsimp only;refine Aq (Ag (Ae U U (Ae U U (AO U U U (Ab (Aa (Ay _ U ?_ ?_)))))))
  ·intro h1;replace h1:=AG h1;refine Ax (Aa (Av (CI [([0,1,2,3,4,5,6,7,8,9,10,11,12],13),([14],15)] (fun z=>z.heap[q]? = some (Bl 24 (CB g m))) [13,15] B0 (by kernel_rfl) (H.drew.get at0) ?_)));refine AL U U ?_;refine Bq U U (AP U U (Bq U U (AP U U (Bq U U (AP U U (AK U Bf Be U U (by omega) (by omega) ?_))))));refine BM U BR U (fun _ hx=>(C2 hx (by omega))) ?_;refine Bq U U (AP U U (AK U Bf Be U U (by omega) (by omega) ?_));refine BM U BR U (fun _ hx=>(C2 hx (by omega))) ?_;refine AK U Bf Be U U (by omega) (by omega) ?_;refine Bu ?_;replace H:=H.drew;refine Cc i (fun z => .int .u64 (if z=i then g j else g z)) (.int _ _) U Be U U U H at0 (by omega) (by omega) (by rw [if_pos rfl]; exact congrArg (fun z=>Value.int .u64 (g z)) (by omega)) (fun z _ hz=>by rw [if_neg hz]) ?_;rintro w H;refine Ab (Cg U (AL U U ?_));refine AK U Bf Be U U (by omega) (by omega) ?_
   refine Bu (Cc j (fun z => .int .u64 (sw g i j z)) (.int _ _) U Be U U U H at0 (by omega) (by omega) (by rw [DO]; exact congrArg (fun z=>Value.int .u64 (g z)) (by omega)) (fun z _ hz=>by rw [DI hz]) ?_);rintro w H;refine Ab (Cg U (BS (Ag (Ae U U (Ao U U U (by omega) (by omega) ?_)))));refine Ad U U (Ab (Aa (Aw (Ae U U (Bg U U U (by omega) (by omega) ?_)))));refine Ad U U (Ab (A3 (Aa ?_)));exact ⟨(i+1,j - 1,sw g i j),rfl,⟨congrArg (Value.int .i64) (by dsimp only; omega),congrArg (Value.int .i64) (by dsimp only; omega),trivial⟩,⟨by dsimp only; omega,by dsimp only; omega,by dsimp only; omega,hS.step i j ⟨by omega,by omega⟩ ⟨by omega,by omega⟩,H⟩,by dsimp only; omega⟩
  ·intro h1;replace h1:=AH h1;refine Bc (Aj (Aj (AD (Db U U ?_))));exact ⟨rfl,g,hS,H⟩
end

end Go.Proofs.YtapphbmlkdhnmaaGreat
