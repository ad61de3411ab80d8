/- Part 10 of the proof. -/
import Derived.Test.YtdagmpmdcgedcaaGreatPart2
import Derived.Test.YtdagmpmdcgedcaaGreatPart9
import Derived.Test.YtdagmpmdcgedcaaGreatPart4
namespace Go.Proofs.YtdagmpmdcgedcaaGreat
open Go.GV
attribute [local irreducible] AB W Wq Wt
theorem W0 {N:Int} {es:List Ed} {pot:List Int} (hr:Cw N es=true) {k:Nat} (hk:k<2*es.length):ZF N es pot (k:Int)=(grE N es).len (ES pot) k:=by
 obtain ⟨e,he,hE,-⟩:=RW hr hk;unfold ZF Gr.len Gr.c Gr.u Gr.v;rw [hE];unfold HV
 rcases Nat.mod_two_eq_zero_or_one k with h | h
 ·rw [if_pos h,if_pos h,if_pos h,TI he,Sm he,Sn he,if_neg (by omega)]; rfl
 ·rw [if_pos h,if_neg (show ¬ k % 2=0 by omega),if_neg (show ¬ k % 2=0 by omega),if_neg (show ¬ k % 2=0 by omega),TI he,Sm he,Sn he]; rfl
theorem TN {N:Int} {es:List Ed} {fl:List Int} (hw:Cm N es fl=true) {k:Nat} (hk:k<2*es.length):KP N es fl (k:Int)=CC (Cr es) (flE fl) k:=by
 obtain ⟨e,x,he,hx,hro,-⟩:=RY hw hk;rw [hro];unfold Nm CC Cr flE;rw [Bo he,Bo hx]
 rcases Nat.mod_two_eq_zero_or_one k with h | h
 ·rw [if_neg (by omega),if_pos h]
 ·rw [if_pos h,if_neg (by omega)]
theorem Aa4 {N:Int} {es:List Ed} {fl:List Int} (hw:Cm N es fl=true) (h:∀ v,v<N.toNat→BC (grE N es) (flE fl) v=0):FE N es fl=true:=by
 unfold FE Nn;rw [hw,Bool.true_and,List.all_eq_true];intro x hx;obtain ⟨i,hi⟩:=List.mem_iff_getElem?.1 hx;obtain ⟨h1,rfl⟩:=OY hi;exact decide_eq_true (h i h1)
theorem Gp {N:Int} {es:List Ed} {fl pot:List Int}:Fy N es fl pot=true↔FE N es fl=true∧Ge N pot=true∧Fine (grE N es) (Cr es) (flE fl) (ES pot):=by
 have hE:(grE N es).E=es.length:=rfl;unfold Fy;simp only [Bool.and_eq_true];constructor
 ·rintro ⟨hr,hf,hp,ht⟩;have hw:=(Ff hf).1;obtain ⟨hl,-,hin⟩:=Cv hw;refine ⟨hf,hp,fun i hi=>?_,fun a ha hro=>?_⟩
  ·rw [hE] at hi;obtain ⟨e,he⟩:=A8 (h:=hi);obtain ⟨x,hx⟩:=A8 (l:=fl) (i:=i);unfold flE Cr;rw [Bo he,Bo hx];exact hin i e x he hx
  ·rw [hE] at ha;have h1:=List.all_eq_true.1 ht a (List.mem_range.2 ha);unfold Jr at h1;rw [W0 hr ha,TN hw ha,decide_eq_true hro,Bool.and_true,Bool.not_eq_true',decide_eq_false_iff_not] at h1;omega
 ·rintro ⟨hf,hp,hF⟩;have hw:=(Ff hf).1;obtain ⟨hl,hr,hin⟩:=Cv hw;refine ⟨hr,hf,hp,List.all_eq_true.2 fun a ha=>?_⟩;rw [List.mem_range] at ha;unfold Jr;rw [W0 hr ha,TN hw ha,Bool.not_eq_true']
  by_cases h:0<CC (Cr es) (flE fl) a
  ·rw [decide_eq_false (by have:=hF.fit a ha h; omega),Bool.false_and]
  ·rw [decide_eq_false h,Bool.and_false]
theorem Vp {N:Nat} {es:List Ed} {x p:Nat→Int} (hr:Cw (N:Int) es=true) (hF:Fine (grE (N:Int) es) (Cr es) x p) (ho:∀ v,v<N→BC (grE (N:Int) es) x v=0) (hp:∀ v,v<N → -1073741824≤p v∧p v≤1073741824):Fy (N:Int) es (tab x es.length) (tab p N)=true:=by
 have hx:∀ i,i<es.length→flE (tab x es.length) i=x i:=fun i hi=>Ad3 hi;have hq:∀ v,v<N→ES (tab p N) v=p v:=fun v hv=>Bo (BT hv)
 have hw:Cm (N:Int) es (tab x es.length)=true:=by
  unfold Cm;rw [hr,CV,decide_eq_true rfl];refine List.all_eq_true.2 fun b hb=>?_;obtain ⟨i,hi⟩:=List.mem_iff_getElem?.1 hb;have hl:=Ck hi;rw [List.length_zipWith,CV] at hl;obtain ⟨e,he⟩:=A8 (l:=es) (i:=i);rw [OX he (BT (f:=x) (by omega))] at hi
  injection hi with hi
  have h1:=hF.in' i (by show i<es.length; omega);unfold Cr at h1;rw [Bo he] at h1;rw [← hi];show inB e (x i)=true;unfold inB;rw [decide_eq_true h1.1,decide_eq_true h1.2]; rfl
 refine Gp.2 ⟨Aa4 hw fun v hv=>?_,?_,Pf (Kg hr) (Aa2 hF hx) hq⟩
 ·rw [Lj hx];exact ho v hv
 ·unfold Ge;rw [CV,decide_eq_true rfl,Bool.and_true,List.all_eq_true];intro y hy;obtain ⟨i,hi⟩:=List.mem_iff_getElem?.1 hy;obtain ⟨h1,rfl⟩:=OY hi;have:=hp i h1;unfold N3;rw [Bool.and_eq_true,decide_eq_true_eq,decide_eq_true_eq];omega
theorem LZ {ds es:List Du} (h:Aaf ds es) (hs:(es.map (·.id)).Pairwise (·<·)):ds=es:=by
 obtain ⟨hp,hd⟩:=h
 induction es generalizing ds with
 | nil=>exact hp.eq_nil
 | cons e es ih =>
  cases ds with
  | nil=>exact absurd hp.symm.eq_nil (by simp)
  | cons d ds =>
   rw [List.map_cons,List.pairwise_cons] at hs hd
   have hde:d=e:=by
    rcases List.mem_cons.1 (hp.mem_iff.1 (List.mem_cons_self ..)) with h | h
    ·exact h
    ·rcases List.mem_cons.1 (hp.mem_iff.2 (List.mem_cons_self ..)) with h2 | h2
     ·exact h2.symm
     ·have h3:=hs.1 d.id (List.mem_map_of_mem (f:=fun d:Du=>d.id) h);have h4:=hd.1 e.id (List.mem_map_of_mem (f:=fun d:Du=>d.id) h2);omega
   subst hde;rw [ih hs.2 (List.Perm.cons_inv hp) hd.2]
structure Rnd where
 no:Int
 day:Int
 cmp:Bool
 ids:List Int
 N:Int
 es:List Ed
 fl:List Int
 pot:List Int
structure RSl where
 aI:Option Addr
 cI:Nat
 aE:Option Addr
 cE:Nat
 aF:Option Addr
 cF:Nat
 aP:Option Addr
 cP:Nat
abbrev BK (r:Rnd) (q:RSl):List Value:=[.int .u64 r.no,.int .i64 r.day,.bool r.cmp,.slice q.aI r.ids.length q.cI,.int .i64 r.N,.slice q.aE r.es.length q.cE,.slice q.aF r.fl.length q.cF,.slice q.aP r.pot.length q.cP]
structure RAt (w:World) (r:Rnd) (q:RSl):Prop where
 I:Rd w q.aI 1 U1 r.ids
 E:Rd w q.aE 4 CI r.es
 F:Rd w q.aF 1 I1 r.fl
 P:Rd w q.aP 1 I1 r.pot
 fc:r.fl.length≤q.cF
structure ROff (q:RSl) (r:Rnd) (S:Nat→Prop):Prop where
 I:r.ids≠[]→¬ S (adr q.aI).block
 E:r.es≠[]→¬ S (adr q.aE).block
 F:r.fl≠[]→¬ S (adr q.aF).block
 P:r.pot≠[]→¬ S (adr q.aP).block
theorem RAt.ext {w w':World} {r:Rnd} {q:RSl} {S:List Nat} (h:RAt w r q) (he:Ext S w w') (hn:ROff q r (·∈S)):RAt w' r q :=
 ⟨h.I.ext' he hn.I,h.E.ext' he hn.E,h.F.ext' he hn.F,h.P.ext' he hn.P,h.fc⟩
theorem RAt.ext0 {w w':World} {r:Rnd} {q:RSl} (h:RAt w r q) (he:Ext [] w w'):RAt w' r q:=h.ext he ⟨fun _=>by simp,fun _=>by simp,fun _=>by simp,fun _=>by simp⟩
theorem ROff.mono {q:RSl} {r:Rnd} {S S':Nat→Prop} (h:ROff q r S) (hs:∀ x,S' x→S x):ROff q r S':=⟨fun g k=>h.I g (hs _ k),fun g k=>h.E g (hs _ k),fun g k=>h.F g (hs _ k),fun g k=>h.P g (hs _ k)⟩
theorem RAt.lt {w:World} {r:Rnd} {q:RSl} (h:RAt w r q):ROff q r (fun x=>w.heap.size≤x) :=
 ⟨fun g=>Nat.not_le.2 (h.I.lt' (fun _ _=>rfl) (by decide) g),fun g=>Nat.not_le.2 (h.E.lt' (fun _ _=>rfl) (by decide) g),fun g=>Nat.not_le.2 (h.F.lt' (fun _ _=>rfl) (by decide) g),fun g=>Nat.not_le.2 (h.P.lt' (fun _ _=>rfl) (by decide) g)⟩
def AcAt (w:World) (t:TypeId) (bx:Nat) (acs:List Ac):Prop:=∃ a c,w.heap[bx]? = some (Bl t [.slice a acs.length c])∧Rd w a 2 CM acs
def DuAt (w:World) (bd:Nat) (ds:List Du):Prop:=∃ b nx o,w.heap[bd]? = some (Bl 165 (DU b nx))∧w.heap[b]? = some o∧CT .u64 (dm ds) o
theorem AcAt.ext0 {w w':World} {t:TypeId} {bx:Nat} {acs:List Ac} (h:AcAt w t bx acs) (he:Ext [] w w'):AcAt w' t bx acs:=by
 obtain ⟨a,c,h1,h2⟩:=h;exact ⟨a,c,he.to h1 (by simp),h2.ext0 he⟩
theorem DuAt.ext0 {w w':World} {bd:Nat} {ds:List Du} (h:DuAt w bd ds) (he:Ext [] w w'):DuAt w' bd ds:=by
 obtain ⟨b,nx,o,h1,h2,h3⟩:=h;exact ⟨b,nx,o,he.to h1 (by simp),he.to h2 (by simp),h3⟩
theorem KC {bx:Nat} {acs:List Ac} (ha:Ef acs=0) (w:World) (A:AcAt w 162 bx acs) :
  Ret Tryz.prog 180 #[ptr bx] w fun v w'=>Ext [] w w'∧∃ a c,v = .slice a (acs.map Dq).length c∧Rd w' a 1 I1 (acs.map Dq):=by
 obtain ⟨h1,h2,-⟩:=BZ.1 ha;obtain ⟨a,c,g1,g2⟩:=A;refine Ret.mono (Aaj a acs.length c acs w g1 g2 U h2) fun v w' F=>⟨F.ext,?_⟩;obtain ⟨a',n',c',f',rfl,O,hb⟩:=F.ex;obtain rfl:=O.num;exact ⟨a',c',rfl,O.rd1 fun x hx=>(hb x hx).1⟩
theorem IW {bd:Nat} {ds:List Du} {nx:Int} (hd:ofC ds nx=0) (w:World) (D:DuAt w bd ds) :
  Ret Tryz.prog 50 #[ptr bd] w fun v w'=>Ext [] w w'∧∃ a c,v = .slice a ds.length c∧Rd w' a 7 CO ds:=by
 obtain ⟨h1,-,h3,-⟩:=Fm.1 hd;obtain ⟨b,nx',o,g1,g2,g3⟩:=D;refine Ret.mono (LV w g1 g2 g3 (Kn hd)) ?_;rintro v w' ⟨ds',hS,F⟩;obtain rfl:=LZ hS (J0 h3).2.1;refine ⟨F.ext,?_⟩;obtain ⟨a',n',c',f',rfl,O,hb⟩:=F.ex;obtain rfl:=O.numN (fun _ _=>rfl) (by decide);exact ⟨a',c',rfl,OS.rd O (fun x hx=>(hb x hx).1) (fun _ _=>rfl) (by decide)⟩
end Go.Proofs.YtdagmpmdcgedcaaGreat
namespace Go.Proofs.YtdagmpmdcgedcaaGreat
open Go.GV
attribute [local irreducible] AB W Wq Wt
structure PlanR (acs:List Ac) (ds:List Du) (net:Bool) (r:Rnd):Prop where
 no:r.no=0
 day:r.day=0
 cmp:r.cmp=net
 ids:r.ids=(opn ds).map Du.id
 N:r.N=((acs.length+1:Nat):Int)
 es:r.es=BJ (acs.map Dq) (opn ds) net
 chk:Fy r.N r.es r.fl r.pot=true
def rnd0:List Value:=[.int .u64 0,.int .i64 0,.bool false,.slice none 0 0,.int .i64 0,.slice none 0 0,.slice none 0 0,.slice none 0 0]
def Aer (w:World) (acs:List Ac) (ds:List Du) (net:Bool) (v:Value) (w':World):Prop :=
 Ext [] w w'∧((D3 (acs.map Dq) ds=false∧v = .tuple #[.agg rnd0.toArray,.int .i64 1]) ∨
  (D3 (acs.map Dq) ds=true∧∃ r q,v = .tuple #[.agg (BK r q).toArray,.int .i64 0]∧PlanR acs ds net r∧RAt w' r q∧ROff q r (fun x=>x<w.heap.size)))
set_option maxRecDepth 20000 in
set_option maxHeartbeats 4000000 in
theorem W1 {bx bd:Nat} {acs:List Ac} {ds:List Du} {nx:Int} (ha:Ef acs=0) (hd:ofC ds nx=0) (net:Bool) (w:World) (A:AcAt w 162 bx acs) (D:DuAt w bd ds) :
  Ret Tryz.prog 112 #[ptr bx,ptr bd,.bool net] w (Aer w acs ds net):=by
 obtain ⟨w0,rfl⟩:∃ w0,w0=w:=⟨_,rfl⟩;have H:=Ctx.start w0 [];have hn16:=(BZ.1 ha).1;have hm64:=(Fm.1 hd).1;obtain ⟨rs,hrs⟩:∃ rs,rs=acs.map Dq:=⟨_,rfl⟩;have hrl:rs.length=acs.length:=by rw [hrs,List.length_map]
 refine Aw (fn:=Tryz.f112) Tryz.func112 U [.pointer (some ⟨bx,0,none⟩),.pointer (some ⟨bd,0,none⟩),.bool net] U (by kernel_rfl) ?_;refine Af (AX Gg H ?_);rintro b6 w - H;refine Ad U (Ab (Aa (Aq (Af (BU (α:=Unit) 516096 (fun _=>[(18,.bool (false))]) (fun _ w'=>Ctx w0 [] w' [(b6,Bl 55 rnd0)]) U ?_ ?_)))))
 ·refine Ay U (Co Nh U ?_);refine AE U (AY 15 U ?_ ?_)
  ·intro h1;refine Ah U (Ah U (AN U (.bool _) U (Ab ?_)));exact ⟨rfl,(),rfl,⟨congrArg Value.bool (by simp_all),trivial⟩,H⟩
  ·intro h2;refine Ay U (Co Ix U ?_);refine AU U (.bool _) U (Ab ?_);exact ⟨rfl,(),rfl,⟨congrArg Value.bool (by rfl),trivial⟩,H⟩
 rintro - j18 w H;refine Fg U (Au (Aa ?_));cases hbb:D3 rs ds
 ·skip
  refine Af (Ay U (Al Rz (KC ha _ (A.ext0 H.ext)) U ?_));rintro v w ⟨hx22,a2,c2,rfl,R2⟩;rw [← hrs] at R2 ⊢;replace H:=H.call hx22;refine Ay U (Al LF (IW hd _ (D.ext0 H.ext)) U ?_);rintro v w ⟨hx24,a3,c3,rfl,R3⟩;replace H:=H.call hx24;replace R2:=R2.ext0 hx24;refine AE U (Al MB (Hj a2 a3 _ c2 _ c3 rs ds net _ R2 U R3 U) U ?_);rintro v w ⟨hx26,⟨-,rfl⟩ | ⟨hb1,-⟩⟩
  rotate_left
  (rw [hbb] at hb1; cases hb1)
  replace H:=H.call hx26;refine BM U (A6 U U (A6 U U (A6 U U (AX Ni H ?_))));rintro b8 w - H;refine Bm CL U U U (by simp [AO]) H at0 U ?_;rintro w H;refine A1 U (Ad U (Ab (Aa (Aq (Af (Ae U (C9 U U (Ab (Aa (Ap _ U ?_ ?_))))))))))
  ·intro h1;replace h1:=CR h1;refine Af (B1 [.int .u64 0,.int .i64 0,.bool false,.slice none 0 0,.int .i64 0,.slice none 0 0,.slice none 0 0,.slice none 0 0] VQ Gg (by kernel_rfl) ?_);refine Ae U (Bm Dh U U U (by simp [AO]) H at1 U ?_);rintro w H;refine Ad U (Ab (Aa (A4 (Ao (Ib U U U FT Dh H at1 U (show _=(.int _ _) from rfl) ?_)))));exact ⟨H.ext,.inl ⟨by rw [← hrs]; exact hbb,rfl⟩⟩
  ·intro h1;replace h1:=CS h1;cases h1
 ·skip
  have hB:=(HK).1 hbb;obtain ⟨es,hes⟩:∃ es,es=BJ rs (opn ds) net:=⟨_,rfl⟩;refine Af (Ay U (Al Rz (KC ha _ (A.ext0 H.ext)) U ?_));rintro v w ⟨hx22,a2,c2,rfl,R2⟩;rw [← hrs] at R2 ⊢;replace H:=H.call hx22;refine Ay U (Al LF (IW hd _ (D.ext0 H.ext)) U ?_);rintro v w ⟨hx24,a3,c3,rfl,R3⟩;replace H:=H.call hx24;replace R2:=R2.ext0 hx24;refine AE U ?_;have hlb:=H.lt at0;refine Al MB (Hj a2 a3 _ c2 _ c3 rs ds net _ R2 U R3 U) U ?_;rintro v w ⟨hx26,⟨hb1,-⟩ | ⟨-,aE,nE,cE,vI,rfl,SE,SI⟩⟩
  (rw [hbb] at hb1; cases hb1)
  replace H:=H.call hx26;rw [← hes] at SE;obtain ⟨aE,cE,hE1,-,RE,hEn⟩:=SE.ex;obtain ⟨aI,cI,rfl,-,RI,hIn⟩:=SI.ex;cases hE1;have hx026:=H.ext;have hb60:w0.heap.size≤b6:=(H.own _ (List.mem_cons_self ..)).elim (fun h=>by cases h) id;obtain ⟨w26,rfl⟩:∃ z,z=w:=⟨_,rfl⟩;replace H:=Ctx.lend (L1:=[_]) (L2:=[]) H;dsimp only [List.map] at H;have hs24:=hx26.size;refine BM U (A6 U U (A6 U U (A6 U U (AX Ni H ?_))));rintro b8 w - H;refine Bm CL U U U (by simp [AO]) H at0 U ?_;rintro w H;refine A1 U (Ad U (Ab (Aa (Aq (Af (Ae U (C9 U U (Ab (Aa (Ap _ U ?_ ?_))))))))))
  ·intro h1;replace h1:=CR h1;exact absurd U h1
  ·intro h1;replace h1:=CS h1;have hri:Cw ((rs.length+1:Nat):Int) es=true:=by rw [hes]; exact hB.right net
   have hE6:es≠[]→(adr aE).block∉[b6]:=fun h=>by have:=hEn h; rw [List.mem_singleton]; omega
   have hI6:(opn ds).map Du.id≠[]→(adr aI).block∉[b6]:=fun h=>by have:=hIn h; rw [List.mem_singleton]; omega
   have hE26:=RE.lt' (fun _ _=>rfl) (by decide);have hI26:=RI.lt' (fun _ _=>rfl) (by decide);refine Au (Aa (Af (Cl Df CL U H at0 U ?_)));have hl8:=H.lt at0;have hl6:=H.lt at1;refine Al Ahi (Aeq (rs.length+1) aE cE es _ (RE.ext' H.ext hE6) hri) U ?_;rintro v w ⟨bf,bp,x,p,k,rfl,hF,hov,hpb,HB⟩;replace H:=H.call HB.ext;have RF:Rd w (some ⟨bf,0,none⟩) 1 I1 (tab x es.length):=Cx (HB.get at0);have RP:Rd w (some ⟨bp,0,none⟩) 1 I1 (tab p (rs.length+1)):=Cx (HB.get at1);have hbf:=(HB.own _ (List.mem_of_getElem? at0)).elim (fun h=>by cases h) id;have hbp:=(HB.own _ (List.mem_of_getElem? at1)).elim (fun h=>by cases h) id;dsimp only at hbf hbp;replace RE:=RE.ext' H.ext hE6;replace RI:=RI.ext' H.ext hI6;have hb80:=(H.own _ (List.mem_of_getElem? at0)).elim (fun h => .inl (List.mem_singleton.1 h)) Or.inr;have hx036:=hx026.then H.ext (fun x hx => .inr (by rw [List.mem_singleton.1 hx]; exact hb60))
   have hs36:=HB.ext.size;have hs26:=H.size;obtain ⟨w36,rfl⟩:∃ z,z=w:=⟨_,rfl⟩;replace H:=Ctx.lend (L1:=[_,_]) (L2:=[]) H;dsimp only [List.map] at H;refine BM U (A6 U U (A6 U U (A6 U U (AX VR H ?_))));rintro b11 w - H;refine Bm Ng U U U (by simp [AO]) H at0 U ?_;rintro w H;refine Ad U (Ad U (Ab (Aa (Aq (Af (Ae U (C9 U U (Ab (Aa (Ap _ U ?_ ?_))))))))))
   ·intro h2;replace h2:=CR h2;exact absurd U h2
   ·intro h2;replace h2:=CS h2;obtain ⟨r,hr⟩:∃ r:Rnd,r=⟨0,0,net,(opn ds).map Du.id,((rs.length+1:Nat):Int),es,tab x es.length,tab p (rs.length+1)⟩:=⟨_,rfl⟩;obtain ⟨q,hq⟩:∃ q:RSl,q=⟨aI,cI,aE,cE,some ⟨bf,0,none⟩,es.length,some ⟨bp,0,none⟩,rs.length+1⟩:=⟨_,rfl⟩
    have hcells:BK r q=[.int .u64 0,.int .i64 0,.bool net,.slice aI ((opn ds).map Du.id).length cI,.int .i64 ((rs.length+1:Nat):Int),.slice aE es.length cE,.slice (some ⟨bf,0,none⟩) es.length es.length,.slice (some ⟨bp,0,none⟩) (rs.length+1) (rs.length+1)]:=by
     rw [hr,hq];unfold BK;dsimp only;rw [CV,CV]
    refine Au (Aa (Af (AE U (A3 U (Cl Df CL U H at1 U (Cl Tk Ng U H at0 U (B1 [.int .u64 0,.int .i64 0,.bool net,.slice aI ((opn ds).map Du.id).length cI,.int .i64 ((rs.length+1:Nat):Int),.slice aE es.length cE,.slice (some ⟨bf,0,none⟩) es.length es.length,.slice (some ⟨bp,0,none⟩) (rs.length+1) (rs.length+1)] VQ Gg (by kernel_rfl) ?_)))))));refine Bm Dh U U U (by simp [AO]) H at2 U ?_;rintro w H;refine Ad U (Ab (Aa (A4 (Ib U U U FT Dh H at2 U (show _=(.int _ _) from rfl) ?_))))
    have h8:w0.heap.size≤b8:=by rcases hb80 with h | h <;> omega
    have hxx:=hx036.then H.ext fun x hx => .inr (by simp only [List.mem_cons,List.not_mem_nil,or_false] at hx; omega);refine ⟨hxx,.inr ⟨by rw [← hrs]; exact hbb,r,q,by rw [hcells],⟨by rw [hr],by rw [hr],by rw [hr],by rw [hr],by rw [hr,hrl],by rw [hr,← hrs]; exact hes,?_⟩,⟨?_,?_,?_,?_,?_⟩,⟨?_,?_,?_,?_⟩⟩⟩
    ·rw [hr]; exact Vp hri hF hov hpb
    ·rw [hr,hq]; exact RI.ext' H.ext fun h=>by have h1:=hI26 h; have h2:=hI6 h; rw [List.mem_singleton] at h2; simp only [List.mem_cons,List.not_mem_nil,or_false]; rcases hb80 with h3 | h3 <;> omega
    ·rw [hr,hq]; exact RE.ext' H.ext fun h=>by have h1:=hE26 h; have h2:=hE6 h; rw [List.mem_singleton] at h2; simp only [List.mem_cons,List.not_mem_nil,or_false]; rcases hb80 with h3 | h3 <;> omega
    ·rw [hr,hq]; exact RF.ext' H.ext fun _=>by show bf∉[b8,b6]; simp only [List.mem_cons,List.not_mem_nil,or_false]; omega
    ·rw [hr,hq]; exact RP.ext' H.ext fun _=>by show bp∉[b8,b6]; simp only [List.mem_cons,List.not_mem_nil,or_false]; omega
    ·rw [hr,hq]; dsimp only; rw [CV]; exact Nat.le_refl _
    ·rw [hr,hq]; intro h; have:=hIn h; dsimp only; omega
    ·rw [hr,hq]; intro h; have:=hEn h; dsimp only; omega
    ·rw [hr,hq]; intro _; show ¬ bf<w0.heap.size; omega
    ·rw [hr,hq]; intro _; show ¬ bp<w0.heap.size; omega
end Go.Proofs.YtdagmpmdcgedcaaGreat
namespace Go.Proofs.YtdagmpmdcgedcaaGreat
open Go.GV
attribute [local irreducible] AB W Wq Wt
def Aa5 (w:World) (rs:List Int) (ds:List Du) (net:Bool) (N:Int) (aE:Option Addr) (nE:Nat) (vI:Value) (code:Int):Prop :=
 (D3 rs ds=false∧code=1∧∃ aI nI cI,vI = .slice aI nI cI)∨(D3 rs ds=true∧code=0∧N=((rs.length+1:Nat):Int)∧nE=(BJ rs (opn ds) net).length∧Rd w aE 4 CI (BJ rs (opn ds) net)∧∃ aI cI,vI = .slice aI ((opn ds).map Du.id).length cI∧Rd w aI 1 U1 ((opn ds).map Du.id))
theorem RoundRes.uni {w w':World} {rs:List Int} {ds:List Du} {net:Bool} {v:Value} (h:RoundRes w rs ds net v w'):Ext [] w w'∧∃ N aE nE cE aI nI cI code,v = .tuple #[Ec N aE nE cE,.slice aI nI cI,.int .i64 code]∧∀ (S:List Nat) (w2:World),(∀ x∈S,x<w.heap.size)→Ext S w' w2→Aa5 w2 rs ds net N aE nE (.slice aI nI cI) code:=by
 obtain ⟨hx,⟨h1,rfl⟩ | ⟨h1,aE,nE,cE,vI,rfl,SE,SI⟩⟩:=h
 ·exact ⟨hx,_,_,_,_,_,_,_,_,rfl,fun _ _ _ _ => .inl ⟨h1,rfl,_,_,_,rfl⟩⟩
 ·obtain ⟨aE',cE',hE,-,RE,hEn⟩:=SE.ex;obtain ⟨aI,cI,rfl,-,RI,hIn⟩:=SI.ex;cases hE;exact ⟨hx,_,_,_,_,_,_,_,_,rfl,fun S w2 hS he => .inr ⟨h1,rfl,rfl,rfl,RE.ext' he (fun hn hm=>by have:=hEn hn; have:=hS _ hm; omega),_,_,rfl,RI.ext' he (fun hn hm=>by have:=hIn hn; have:=hS _ hm; omega)⟩⟩
structure NowZ where
 b:Nat
 N:Int
 aE:Option Addr
 nE:Nat
 cE:Nat
 aI:Option Addr
 nI:Nat
 cI:Nat
 code:Int
def NowI (w0:World) (rs:List Int) (ds:List Du) (net:Bool) (b5:Nat) (o5:Obj) (z:NowZ) (w:World):Prop :=
 Ext [] w0 w∧w.heap[b5]? = some o5∧w.heap[z.b]? = some (Bl 51 [.int .i64 z.N,.slice z.aE z.nE z.cE])∧Aa5 w rs ds net z.N z.aE z.nE (.slice z.aI z.nI z.cI) z.code
def N5 (acs:List Ac) (ds:List Du) (r:Rnd):Bool :=
 D3 (acs.map Dq) ds && (decide (((acs.length+1:Nat):Int)=r.N) && (decide (BJ (acs.map Dq) (opn ds) r.cmp=r.es) && decide ((opn ds).map Du.id=r.ids)))
set_option maxRecDepth 20000 in
set_option maxHeartbeats 8000000 in
theorem Aj5 {bx bd:Nat} {acs:List Ac} {ds:List Du} {nx:Int} (ha:Ef acs=0) (hd:ofC ds nx=0) {r:Rnd} {q:RSl} (w:World) (A:AcAt w 162 bx acs) (D:DuAt w bd ds) (RA:RAt w r q) (he:r.es.length≤1000000) (hi:r.ids.length≤1000000) :
  Ret Tryz.prog 183 #[ptr bx,ptr bd,.agg (BK r q).toArray] w fun v w'=>v = .bool (N5 acs ds r)∧Ext [] w w':=by
 obtain ⟨w0,rfl⟩:∃ w0,w0=w:=⟨_,rfl⟩;have H:=Ctx.start w0 [];have hn16:=(BZ.1 ha).1;have hm64:=(Fm.1 hd).1;obtain ⟨rs,hrs⟩:∃ rs,rs=acs.map Dq:=⟨_,rfl⟩;have hrl:rs.length=acs.length:=by rw [hrs,List.length_map]
 refine Aw (fn:=Tryz.f183) Tryz.func183 U [.pointer (some ⟨bx,0,none⟩),.pointer (some ⟨bd,0,none⟩),.agg (BK r q).toArray] U (by kernel_rfl) ?_;refine Af (Bv (BK r q) (.agg _) U U H ?_);rintro b5 w - H;refine Ai U (Ab (Aa ?_));have hx5:=H.ext;have h5:=H.get at0;obtain ⟨w5,rfl⟩:∃ z,z=w:=⟨_,rfl⟩;refine DC 2097024 (α:=NowZ) (fun z=>[(7,ptr z.b),(8,.slice z.aI z.nI z.cI),(9,.int .i64 z.code)]) (NowI w0 rs ds r.cmp b5 (Bl 55 (BK r q))) U ?_ ?_
 ·skip
  refine NW (.two [0,2,4,5] 1 (.two [] 3 (.two [] 6 (.one [7,8,9,10] 11 (.one [] 12 (.one [] 13 (.one [] 14 .stop)))) 11 (.one [] 6 (.one [7,8,9,10] 12 (.one [] 13 (.one [] 14 .stop))))) 11 (.one [] 3 (.one [] 6 (.one [7,8,9,10] 12 (.one [] 13 (.one [] 14 .stop)))))) 11 (.one [] 1 (.one [] 3 (.one [] 6 (.one [7,8,9,10] 12 (.one [] 13 (.one [] 14 .stop))))))) (fun z=>Ext [] w5 z) Bs (by kernel_rfl) (Ext.drew [] w5) ?_;refine It U U U ?_;refine BD U (BD U (An U VP U (B0 JQ U (fun _ hx=>(by rw [Aj (hx.to h5 (by simp))]; rfl)) ?_)));refine AP ?_;have E:=Ext.drew [] w5;refine ⟨?_,?_⟩
  ·skip
   refine Al Rz (KC ha _ (A.ext0 (hx5.trans E))) U ?_;rintro v w ⟨hx12,a2,c2,rfl,R2⟩;rw [← hrs] at R2 ⊢;replace E:=E.trans hx12;refine Ab (BP (by exact E) ?_);refine It U U U ?_;refine AP ?_;refine ⟨?_,?_⟩
   ·skip
    refine Al LF (IW hd _ (D.ext0 (hx5.trans E))) U ?_;rintro v w ⟨hx14,a3,c3,rfl,R3⟩;replace E:=E.trans hx14;replace R2:=R2.ext0 hx14;refine Ab (BP (by exact E) ?_);refine It U U U ?_;refine AP ?_;refine ⟨?_,?_⟩
    ·skip
     refine Al MB (Hj a2 a3 _ c2 _ c3 rs ds r.cmp _ R2 U R3 U) U ?_;rintro v w hR;obtain ⟨hx17,N,aE,nE,cE,aI,nI,cI,code,rfl,hU⟩:=hR.uni;replace E:=E.trans hx17;refine Ab (BP (by exact E) ?_);refine BO U U ?_;refine DA U (Bu U U (Bu U U (Bu U U (AP ?_))));have H:=Ctx.start w [];refine AX Ni H ?_;rintro b7 w - H;refine Ab (BP (by exact E.trans H.ext) ?_);refine BO U U ?_;refine AP (Bm CL U U U (by simp [AO]) H at0 U ?_);rintro w H;refine Ab (BP (by exact E.trans H.ext) ?_);refine BO U U ?_;refine AP (A1 U (Ab (BP (by exact E.trans H.ext) ?_)));refine BO U U ?_;refine AP (Ad U (Ab (BP (by exact E.trans H.ext) ?_)));refine DT ?_;refine Aa ?_;exact ⟨⟨b7,N,aE,nE,cE,aI,nI,cI,code⟩,rfl,⟨rfl,rfl,rfl,trivial⟩,hx5.trans (E.trans H.ext),(E.trans H.ext).to h5 (by simp),H.get at0,hU [] _ (by simp) H.ext⟩
    ·skip
     have H:=Ctx.start w [];refine AX Ni H ?_;rintro b7 w - H;have hn7:w5.heap.size≤b7:=Nat.le_trans E.size ((H.own _ (List.mem_cons_self ..)).elim (fun h=>by cases h) id);replace E:=E.trans H.ext;have hb7:=H.get at0;replace R2:=R2.ext0 H.ext;replace R3:=R3.ext0 H.ext;refine Ab (BP (by exact E) ?_);refine BO U U ?_;refine AP ?_;have hl7:=Ba hb7;refine Al MB (Hj a2 a3 _ c2 _ c3 rs ds r.cmp _ R2 U R3 U) U ?_;rintro v w hR;obtain ⟨hx17,N,aE,nE,cE,aI,nI,cI,code,rfl,hU⟩:=hR.uni;replace E:=E.trans hx17;replace hb7:=hx17.to hb7 (by simp);have H:=Ctx.start1 hb7;refine Ab (BP (by exact E) ?_);refine BO U U ?_;refine DA U (Bu U U (Bu U U (Bu U U (AP (Bm CL U U U (by simp [AO]) H at0 U ?_)))));rintro w H;refine Ab (BP (by exact E.then H.ext (fun x hx => .inr (by rw [List.mem_singleton.1 hx]; exact hn7))) ?_);refine BO U U ?_
     refine AP (A1 U (Ab (BP (by exact E.then H.ext (fun x hx => .inr (by rw [List.mem_singleton.1 hx]; exact hn7))) ?_)));refine BO U U ?_;refine AP (Ad U (Ab (BP (by exact E.then H.ext (fun x hx => .inr (by rw [List.mem_singleton.1 hx]; exact hn7))) ?_)));refine DT ?_;refine Aa ?_;have E2:=E.then H.ext fun x hx => .inr (by rw [List.mem_singleton.1 hx]; exact hn7);exact ⟨⟨b7,N,aE,nE,cE,aI,nI,cI,code⟩,rfl,⟨rfl,rfl,rfl,trivial⟩,hx5.trans E2,E2.to h5 (by simp),H.get at0,hU [b7] _ (by simpa using hl7) H.ext⟩
   ·skip
    have H:=Ctx.start w [];refine AX Ni H ?_;rintro b7 w - H;have hn7:w5.heap.size≤b7:=Nat.le_trans E.size ((H.own _ (List.mem_cons_self ..)).elim (fun h=>by cases h) id);replace E:=E.trans H.ext;have hb7:=H.get at0;replace R2:=R2.ext0 H.ext;refine Ab (BP (by exact E) ?_);refine BO U U ?_;refine AP (Al LF (IW hd _ (D.ext0 (hx5.trans E))) U ?_);rintro v w ⟨hx14,a3,c3,rfl,R3⟩;replace E:=E.trans hx14;replace R2:=R2.ext0 hx14;replace hb7:=hx14.to hb7 (by simp);refine Ab (BP (by exact E) ?_);refine BO U U ?_;refine AP ?_;have hl7:=Ba hb7;refine Al MB (Hj a2 a3 _ c2 _ c3 rs ds r.cmp _ R2 U R3 U) U ?_;rintro v w hR;obtain ⟨hx17,N,aE,nE,cE,aI,nI,cI,code,rfl,hU⟩:=hR.uni;replace E:=E.trans hx17;replace hb7:=hx17.to hb7 (by simp);have H:=Ctx.start1 hb7;refine Ab (BP (by exact E) ?_);refine BO U U ?_
    refine DA U (Bu U U (Bu U U (Bu U U (AP (Bm CL U U U (by simp [AO]) H at0 U ?_)))));rintro w H;refine Ab (BP (by exact E.then H.ext (fun x hx => .inr (by rw [List.mem_singleton.1 hx]; exact hn7))) ?_);refine BO U U ?_;refine AP (A1 U (Ab (BP (by exact E.then H.ext (fun x hx => .inr (by rw [List.mem_singleton.1 hx]; exact hn7))) ?_)));refine BO U U ?_;refine AP (Ad U (Ab (BP (by exact E.then H.ext (fun x hx => .inr (by rw [List.mem_singleton.1 hx]; exact hn7))) ?_)));refine DT ?_;refine Aa ?_;have E2:=E.then H.ext fun x hx => .inr (by rw [List.mem_singleton.1 hx]; exact hn7);exact ⟨⟨b7,N,aE,nE,cE,aI,nI,cI,code⟩,rfl,⟨rfl,rfl,rfl,trivial⟩,hx5.trans E2,E2.to h5 (by simp),H.get at0,hU [b7] _ (by simpa using hl7) H.ext⟩
  ·skip
   have H:=Ctx.start (World.drew w5) [];refine AX Ni H ?_;rintro b7 w - H;have hn7:w5.heap.size≤b7:=Nat.le_trans E.size ((H.own _ (List.mem_cons_self ..)).elim (fun h=>by cases h) id);replace E:=E.trans H.ext;have hb7:=H.get at0;refine Ab (BP (by exact E) ?_);refine BO U U ?_;refine AP (Al Rz (KC ha _ (A.ext0 (hx5.trans E))) U ?_);rintro v w ⟨hx12,a2,c2,rfl,R2⟩;rw [← hrs] at R2 ⊢;replace E:=E.trans hx12;replace hb7:=hx12.to hb7 (by simp);refine Ab (BP (by exact E) ?_);refine BO U U ?_;refine AP (Al LF (IW hd _ (D.ext0 (hx5.trans E))) U ?_);rintro v w ⟨hx14,a3,c3,rfl,R3⟩;replace E:=E.trans hx14;replace R2:=R2.ext0 hx14;replace hb7:=hx14.to hb7 (by simp);refine Ab (BP (by exact E) ?_);refine BO U U ?_;refine AP ?_;have hl7:=Ba hb7;refine Al MB (Hj a2 a3 _ c2 _ c3 rs ds r.cmp _ R2 U R3 U) U ?_;rintro v w hR;obtain ⟨hx17,N,aE,nE,cE,aI,nI,cI,code,rfl,hU⟩:=hR.uni
   replace E:=E.trans hx17;replace hb7:=hx17.to hb7 (by simp);have H:=Ctx.start1 hb7;refine Ab (BP (by exact E) ?_);refine BO U U ?_;refine DA U (Bu U U (Bu U U (Bu U U (AP (Bm CL U U U (by simp [AO]) H at0 U ?_)))));rintro w H;refine Ab (BP (by exact E.then H.ext (fun x hx => .inr (by rw [List.mem_singleton.1 hx]; exact hn7))) ?_);refine BO U U ?_;refine AP (A1 U (Ab (BP (by exact E.then H.ext (fun x hx => .inr (by rw [List.mem_singleton.1 hx]; exact hn7))) ?_)));refine BO U U ?_;refine AP (Ad U (Ab (BP (by exact E.then H.ext (fun x hx => .inr (by rw [List.mem_singleton.1 hx]; exact hn7))) ?_)));refine DT ?_;refine Aa ?_;have E2:=E.then H.ext fun x hx => .inr (by rw [List.mem_singleton.1 hx]; exact hn7);exact ⟨⟨b7,N,aE,nE,cE,aI,nI,cI,code⟩,rfl,⟨rfl,rfl,rfl,trivial⟩,hx5.trans E2,E2.to h5 (by simp),H.get at0,hU [b7] _ (by simpa using hl7) H.ext⟩
 ·rintro ⟨b7,N,aE,nE,cE,aI,nI,cI,code⟩ j1 w ⟨hx0,h5',hb7,hU⟩; dsimp only at hb7 hU; dsimp only;obtain ⟨w1,rfl⟩:∃ z,z=w:=⟨_,rfl⟩;have H:=Ctx.start w1 [];have RA1:=RA.ext0 hx0
  rcases hU with ⟨hb,rfl,-⟩ | ⟨hb,rfl,rfl,rfl,RE,aI',cI',hI,RI⟩
  ·skip
   refine Af (Ae U (Cf U U (AE U (AY 23 U ?_ ?_))))
   ·intro g1;replace g1:=AJ g1;exact absurd g1 (by decide)
   ·intro g1;replace g1:=AK g1;refine Ah U (Ah U (Ah U (Ah U (Ah U (Ah U (AU U (.bool _) U (AE U (Ah U (Ah U ?_)))))))));refine Ah U (Ah U (Ah U (Ah U (AU U (.bool _) U (AE U (Ah U (Ah U (Ah U (Ah U ?_)))))))));refine AU U (.bool _) U (Ai U (Ab (Aa (A4 (AD (v:=(.bool _)) U U U ?_)))));exact ⟨congrArg Value.bool (by unfold N5; rw [← hrs,hb]; simp_all),hx0⟩
  ·skip
   cases hI;have hel:(BJ rs (opn ds) r.cmp).length≤1000000:=by have:=Ip ds; rw [Ha]; split <;> omega
   have hil:((opn ds).map Du.id).length≤1000000:=by have:=Ip ds; rw [List.length_map]; omega
   refine Af (Ae U (Cf U U (AE U (AY 23 U ?_ ?_))))
   ·intro h1;replace h1:=AJ h1;refine Ag Fl U (AZ Ca U ((by rw [Aj (H.ext.to hb7 (by simp))]; rfl)) ?_);refine Ag F9 U (Ag Fl U (AZ Ca U ((by rw [Aj (H.ext.to h5' (by simp))]; rfl)) ?_));refine Cf U U (AN U (.bool _) U (AE U (AY 31 U ?_ ?_)))
    ·intro h2;replace h2:=AJ h2;refine Ag Dv U (AZ Fs U ((by rw [Aj (H.ext.to hb7 (by simp))]; rfl)) ?_);refine Ag F9 U (Ag Dv U (AZ Fs U ((by rw [Aj (H.ext.to h5' (by simp))]; rfl)) ?_));refine Al Ah1 (Aj1 aE q.aE _ cE _ q.cE (BJ rs (opn ds) r.cmp) r.es _ (RE.ext0 H.ext) U hel (RA1.E.ext0 H.ext) U he) U ?_;rintro v w ⟨rfl,hx37⟩;replace H:=H.call hx37;refine AN U (.bool _) U (AE U (AY 39 U ?_ ?_))
     ·intro h3;refine A3 U (Ag Gw U (AZ JR U ((by rw [Aj (H.ext.to h5' (by simp))]; rfl)) ?_));refine Al Ah2 (Aj2 aI q.aI _ cI _ q.cI ((opn ds).map Du.id) r.ids _ (RI.ext0 H.ext) U hil (RA1.I.ext0 H.ext) U hi) U ?_;rintro v w ⟨rfl,hx43⟩;replace H:=H.call hx43;refine AN U (.bool _) U (Ai U (Ab (Aa (A4 (AD (v:=(.bool _)) U U U ?_)))));exact ⟨congrArg Value.bool (by unfold N5; rw [← hrs,hb,← hrl]; simp_all),hx0.trans H.ext⟩
     ·intro h4;refine Ah U (Ah U (Ah U (Ah U (AU U (.bool _) U (Ai U (Ab (Aa (A4 (AD (v:=(.bool _)) U U U ?_)))))))));exact ⟨congrArg Value.bool (by unfold N5; rw [← hrs,hb,← hrl]; simp_all),hx0.trans H.ext⟩
    ·intro h5;replace h5:=AK h5;refine Ah U (Ah U (Ah U (Ah U (Ah U (Ah U (AU U (.bool _) U (AE U (Ah U (Ah U ?_)))))))));refine Ah U (Ah U (AU U (.bool _) U (Ai U (Ab (Aa (A4 (AD (v:=(.bool _)) U U U ?_)))))));exact ⟨congrArg Value.bool (by unfold N5; rw [← hrs,hb,← hrl]; simp_all),hx0.trans H.ext⟩
   ·intro h6;replace h6:=AK h6;refine Ah U (Ah U (Ah U (Ah U (Ah U (Ah U (AU U (.bool _) U (AE U (Ah U (Ah U ?_)))))))));refine Ah U (Ah U (Ah U (Ah U (AU U (.bool _) U (AE U (Ah U (Ah U (Ah U (Ah U ?_)))))))));refine AU U (.bool _) U (Ai U (Ab (Aa (A4 (AD (v:=(.bool _)) U U U ?_)))));exact ⟨congrArg Value.bool (by unfold N5; rw [← hrs,hb,← hrl]; simp_all),hx0.trans H.ext⟩
end Go.Proofs.YtdagmpmdcgedcaaGreat
namespace Go.Proofs.YtdagmpmdcgedcaaGreat
open Go.GV
attribute [local irreducible] AB W Wq Wt
set_option maxRecDepth 20000 in
set_option maxHeartbeats 4000000 in
theorem Aes {c4 c7 by' bd b n:Nat} {nx:Int} {o:Obj} {ds:List Du} {d:Du} {x:Int} {f f':Nat→Int} (w:World)
  (h4:w.heap[c4]? = some (Bl 101 [ptr bd])) (h7:w.heap[c7]? = some (Bl 35 [.slice (some ⟨by',0,none⟩) n n])) (hd:w.heap[bd]? = some (Bl 165 (DU b nx))) (H0:Ctx w [by',b] w [(by',Bl 2 (BS f n)),(b,o)]) (hM:CT .u64 (dm ds) o)
  (n4:c4∉[by',b]) (n7:c7∉[by',b]) (nd:bd∉[by',b]) (hf:CN ds d.id=some d) (hh:d.held=false) (hx:0≤x∧x≤d.am) (ham:Vo ds) (hfr:0≤d.fr∧d.fr<n) (hto:0≤d.to∧d.to<n)
  (hfb:∀ k,-1152921504606846976≤f k∧f k≤1152921504606846976) (hf':∀ k,f' k=f k+(one (d.to.toNat=k) - one (d.fr.toNat=k))*x)  (_hn:n≤1000000:=by omega):
  Ret Tryz.prog 184 #[.int .u64 d.id,.int .i64 x,ptr c4,ptr c7] w fun v w'=>v = .int .i64 0∧∃ o',CT .u64 (dm (GZ ds d.id x)) o'∧Ctx w [by',b] w' [(by',Bl 2 (BS f' n)),(b,o')]:=by
 obtain ⟨w0,rfl⟩:∃ w0,w0=w:=⟨_,rfl⟩;have H:=H0;have hamd:=ham d (HI hf).1;obtain ⟨fn,hfn⟩:∃ fn:Nat,d.fr=fn:=⟨d.fr.toNat,by omega⟩;obtain ⟨tn,htn⟩:∃ tn:Nat,d.to=tn:=⟨d.to.toNat,by omega⟩;obtain ⟨f1,hf1⟩:∃ f1,f1=upd f fn (f fn - x):=⟨_,rfl⟩;have hof:f1 fn=f fn - x:=by rw [hf1,Di]
 have hon:∀ q,q≠fn→f1 q=f q:=fun q hq=>by rw [hf1,Et hq]
 have hst:∀ q,f' q=upd f1 tn (f1 tn+x) q:=fun q=>by
  rw [hf',hfn,htn,Int.toNat_natCast,Int.toNat_natCast]
  by_cases h1:q=tn
  ·subst h1;rw [Di,Fv rfl]
   by_cases h2:fn=q
   ·subst h2; rw [Fv rfl,hof]; omega
   ·rw [EW h2,hon q (Ne.symm h2)]; omega
  ·rw [Et h1,EW (Ne.symm h1)]
   by_cases h2:fn=q
   ·subst h2; rw [Fv rfl,hof]; omega
   ·rw [EW h2,hon q (Ne.symm h2)]; omega
 have hb1:=hfb fn;have hb2:=hfb tn
 have hot : -1157425104234217472≤f1 tn∧f1 tn≤1157425104234217472:=by
  by_cases h:tn=fn
  ·rw [h,hof]; omega
  ·rw [hon tn h]; omega
 have hbb:=H.ne at0 at1 (by decide);refine Aw (fn:=Tryz.f184) Tryz.func184 U [.int .u64 d.id,.int .i64 x,.pointer (some ⟨c4,0,none⟩),.pointer (some ⟨c7,0,none⟩)] U (by kernel_rfl) ?_;refine Af (Ad U (Ab (Aa (Af (AZ Fw U ((H.old (Aj h4 _) n4)) ?_)))));refine Ae U (Al UG (Sj _ (H.ext.to hd nd) (H.get at1) hM) U ?_);rintro v w ⟨rfl,hx12⟩;replace H:=H.call hx12;rw [show LY ds d.id=d by unfold LY; rw [hf]; rfl];refine BM U (A6 U U (A6 U U (AX Eu H ?_)));rintro b7 w - H;refine Bm Ci U U U (by exact CQ _) H at0 U ?_;rintro w H;refine Ai U (Ab (Aa (Af (AZ Cg U ((H.old (Aj h7 _) n7)) ?_))));refine Ag Gz U (AM Ca U H at0 U (Bn Bg B6 U U ?_));refine Rh fn _ U Bw U H at1 (by rw [hfn]; simp) U ?_;refine Ae U (Br U U ?_);refine Bn Bg B6 U U ?_
 refine Cc fn (fun q => .int .i64 (f1 q)) (.int _ _) B6 U U U H at1 (by rw [hfn]; simp) (by rw [hof]) (fun q _ hq=>by rw [hon q hq]) ?_;rintro w H;refine Ab (Aa (Af (AZ Cg U ((H.old (Aj h7 _) n7)) ?_)));refine Ag Ih U (AM Ca U H at0 U (Bn Bg B6 U U ?_));refine Rh tn _ U Bw U H at1 (by rw [htn]; simp) U ?_;refine Ae U (Ax U U ?_);refine Bn Bg B6 U U ?_;refine Cc tn (fun q => .int .i64 (f' q)) (.int _ _) B6 U U U H at1 (by rw [htn]; simp) (by rw [hst,Di]) (fun q _ hq=>by rw [hst,Et hq]) ?_;rintro w H;refine Ab (Aa (Af (AZ Fw U ((H.old (Aj h4 _) n4)) ?_)));refine Ae U (Ae U ?_);obtain ⟨hc0,hS⟩:=XM (p:=(d,x)) ⟨hf,hh,hx.1,hx.2⟩;dsimp only at hc0 hS;have Hp:=H.perm (show List.Perm _ [_,_,_] from (List.Perm.swap _ _ _).trans ((List.Perm.swap _ _ _).cons _))
 refine Al Ahl (Aeh (k:=d.id) (x:=x) _ (H.ext.to hd nd) (H.get at2) hM (by intro h; exact nd (by rw [h]; simp)) ham) U ?_;rintro v w ⟨rfl,o',hM',H2⟩;rw [hc0];rw [hS] at hM';refine Ad U (Ab (Aa (A4 (AD (v:=(.int _ _)) U U U ?_))));have HB:=Ctx.back (L1:=[_]) (L2:=[_,_]) (Hp.perm (List.Perm.swap _ _ _)) H2;exact ⟨rfl,o',hM',(HB.perm (List.Perm.swap _ _ _)).left (L:=[_,_]) (L':=[_])⟩
end Go.Proofs.YtdagmpmdcgedcaaGreat
namespace Go.Proofs.YtdagmpmdcgedcaaGreat
open Go.GV
attribute [local irreducible] AB W Wq Wt
theorem Af9 {α:Type} (A B C p y q1 q2:α) (E:List α):(A::B::C::(E++[p,y,q1,q2])).Perm (y::C::A::B::p::q1::q2::E):=by
 have h1:(A::B::C::(E++[p,y,q1,q2])).Perm (A::B::C::p::y::q1::q2::E):=((List.perm_append_comm (l₁:=E) (l₂:=[p,y,q1,q2])).cons C |>.cons B).cons A;have h2:(A::B::C::p::y::q1::q2::E).Perm (y::A::B::C::p::q1::q2::E):=List.perm_middle (l₁:=[A,B,C,p]);have h3:(A::B::C::p::q1::q2::E).Perm (C::A::B::p::q1::q2::E):=List.perm_middle (l₁:=[A,B]);exact h1.trans (h2.trans (h3.cons y))
theorem Ctx.turnEnt {w0 w w':World} {S:List Nat} {L:List (Nat × Obj)} {a:Option Addr} {t:TypeId} {full full':List Value} (H:Ctx w0 S w (L++ent a t full)) (he:Ext ((ent a t full).map (·.1)) w w') (hb:∀ x∈ent a t full',w'.heap[x.1]? = some x.2):Ctx w0 S w' (L++ent a t full'):=by
 have H':Ctx w ((ent a t full).map (·.1)) w' (ent a t full'):=⟨he,hb,FD,fun x hx=>by
  cases a with
  | none=>simp [ent] at hx
  | some p =>
   simp only [ent,List.mem_singleton] at hx;subst hx
   exact .inl (by simp [ent])⟩
 exact (Ctx.back (Ctx.comm H) H').comm
theorem Dr {w:World} {b:Nat} {t:TypeId} {l:List Value} (h:w.heap[b]? = some (Bl t l)) (o:Nat) (l':List Value) (hl:(l.drop o).take l'.length=l'):∀ j v,l'[j]? = some v→w.cell? ⟨b,o+j,none⟩=some v:=fun j v hv=>by
 rw [Aj h];have hj:=Ck hv;rw [← hl,List.getElem?_take,if_pos hj,List.getElem?_drop] at hv;exact hv
theorem ROff.or {q:RSl} {r:Rnd} {S T:Nat→Prop} (h:ROff q r S) (k:ROff q r T):ROff q r (fun x=>S x∨T x) :=
 ⟨fun g x=>x.elim (h.I g) (k.I g),fun g x=>x.elim (h.E g) (k.E g),fun g x=>x.elim (h.F g) (k.F g),fun g x=>x.elim (h.P g) (k.P g)⟩
structure ApF (acs:List Ac) (ds:List Du) (r:Rnd):Prop where
 B:Bright (acs.map Dq) ds
 N:r.N=(((acs.map Dq).length+1:Nat):Int)
 es:r.es=BJ (acs.map Dq) (opn ds) r.cmp
 ids:r.ids=(opn ds).map Du.id
 pay:PayIn (opn ds) (r.fl.take (opn ds).length)
 len:r.fl.length=r.es.length
 by':∀ (k:Nat) (a:Ac),acs[k]? = some a→(r.cmp=true→byK (acs.map Dq) (opn ds) r.cmp r.fl k=0) ∧ -(Dq a)≤byK (acs.map Dq) (opn ds) r.cmp r.fl k∧byK (acs.map Dq) (opn ds) r.cmp r.fl k≤4503599627370496
 sum:B7 (byK (acs.map Dq) (opn ds) r.cmp r.fl) acs.length=0
 ok:KS ds ((opn ds).zip (r.fl.take (opn ds).length))
 all:Km ds ((opn ds).zip (r.fl.take (opn ds).length))=DI ds (r.fl.take (opn ds).length)
theorem Aa6 {acs:List Ac} {ds:List Du} {nx:Int} {r:Rnd} (_ha:Ef acs=0) (hd:ofC ds nx=0) (hck:Fy r.N r.es r.fl r.pot=true) (hnow:N5 acs ds r=true):ApF acs ds r:=by
 have hm64:=(Fm.1 hd).1;unfold N5 at hnow;simp only [Bool.and_eq_true,decide_eq_true_eq] at hnow;obtain ⟨h1,h2,h3,h4⟩:=hnow;have hB:=(HK).1 h1;have hN:r.N=(((acs.map Dq).length+1:Nat):Int):=by rw [List.length_map]; exact h2.symm
 have hf:=(Gp.1 hck).1;rw [hN,← h3] at hf;obtain ⟨f1,f2,f3,f4⟩:=TJ (fun x hx=>(CE.1 (hB.may x hx)).1) hB.open'.due hf;have hp:=Aen f1 [] (by rw [List.nil_append]; exact Kn hd);rw [List.nil_append] at hp;rw [List.length_map] at f4;exact ⟨hB,hN,h3.symm,h4.symm,f1,by rw [f2,h3],fun k a hk=>f3 k _ (by rw [List.getElem?_map,hk]; rfl),f4,hp.1,hp.2⟩
def EE (acs:List Ac) (ds:List Du) (r:Rnd):Int:=if Fy r.N r.es r.fl r.pot=false then 1 else if N5 acs ds r=false then 3 else 0
def GK (acs:List Ac) (ds:List Du) (r:Rnd):List Ac:=if EE acs ds r=0 then shA acs (tab (byK (acs.map Dq) (opn ds) r.cmp r.fl) acs.length) else acs
def Gq (acs:List Ac) (ds:List Du) (r:Rnd):List Du:=if EE acs ds r=0 then DI ds (r.fl.take (opn ds).length) else ds
theorem HM {acs:List Ac} {ds:List Du} {nx:Int} {r:Rnd} (ha:Ef acs=0) (hd:ofC ds nx=0) (h:EE acs ds r=0):ApF acs ds r:=by
 unfold EE at h
 cases h1:Fy r.N r.es r.fl r.pot with
 | false=>rw [if_pos h1] at h; simp at h
 | true =>
  rw [if_neg (by rw [h1]; decide)] at h
  cases h2:N5 acs ds r with
  | false=>rw [if_pos h2] at h; simp at h
  | true=>exact Aa6 ha hd h1 h2
theorem MP {acs:List Ac} {ds:List Du} {nx:Int} {r:Rnd} (ha:Ef acs=0) (hd:ofC ds nx=0):Ef (GK acs ds r)=0∧ofC (Gq acs ds r) nx=0∧(GK acs ds r).length=acs.length:=by
 unfold GK Gq
 by_cases h:EE acs ds r=0
 ·rw [if_pos h,if_pos h];have F:=HM ha hd h;exact ⟨(Ns ha (fun k a hk=>(F.by' k a hk).2) F.sum).2,Aem F.pay hd,So⟩
 ·rw [if_neg h,if_neg h];exact ⟨ha,hd,rfl⟩
abbrev LX (bx:Nat) (a:Option Addr) (n c:Nat) (full:List Value) (bd b:Nat) (nx:Int) (o:Obj):List (Nat × Obj):=(bx,Bl 162 [.slice a n c])::(bd,Bl 165 (DU b nx))::(b,o)::ent a 43 full
structure AP7 where
 i:Nat
 o:Obj
set_option maxRecDepth 20000 in
set_option maxHeartbeats 8000000 in
theorem Aa7 {bx bd b c:Nat} {a:Option Addr} {full:List Value} {o:Obj} {acs:List Ac} {ds:List Du} {nx:Int} {r:Rnd} {q:RSl} (ha:Ef acs=0) (hd:ofC ds nx=0) (w:World)
  (H0:Ctx w ((LX bx a acs.length c full bd b nx o).map (·.1)) w (LX bx a acs.length c full bd b nx o)) (O:OS a acs.length c 2 full (acs.flatMap CM)) (hM:CT .u64 (dm ds) o) (RA:RAt w r q) (hoff:ROff q r (·∈(LX bx a acs.length c full bd b nx o).map (·.1)))
  (hN:I64 r.N) (he:r.es.length≤1000000) (hi:r.ids.length≤1000000) (hf:r.fl.length≤1000000) (hp:r.pot.length≤1000000) :
  Ret Tryz.prog 113 #[ptr bx,ptr bd,.agg (BK r q).toArray] w fun v w'=>v = .int .i64 (EE acs ds r)∧∃ full' o',OS a acs.length c 2 full' ((GK acs ds r).flatMap CM)∧CT .u64 (dm (Gq acs ds r)) o' ∧
   Ctx w ((LX bx a acs.length c full bd b nx o).map (·.1)) w' (LX bx a acs.length c full' bd b nx o'):=by
 obtain ⟨w0,rfl⟩:∃ w0,w0=w:=⟨_,rfl⟩;have H:=Ctx.start w0 [];have hn16:=(BZ.1 ha).1;have hm64:=(Fm.1 hd).1;have hbx:=H0.get at0;have hbd:=H0.get at1;have hb:=H0.get at2;have RAc:Rd w0 a 2 CM acs:=OS.rd O (fun x hx=>H0.blk x (List.mem_cons_of_mem _ (List.mem_cons_of_mem _ (List.mem_cons_of_mem _ hx)))) (fun _ _=>rfl) (by decide);have A:AcAt w0 162 bx acs:=⟨a,c,hbx,RAc⟩;have D:DuAt w0 bd ds:=⟨b,nx,o,hbd,hb,hM⟩;obtain ⟨ck,hck⟩:∃ ck,ck=Fy r.N r.es r.fl r.pot:=⟨_,rfl⟩;obtain ⟨nw,hnw⟩:∃ nw,nw=N5 acs ds r:=⟨_,rfl⟩;refine Aw (fn:=Tryz.f113) Tryz.func113 U [.pointer (some ⟨bx,0,none⟩),.pointer (some ⟨bd,0,none⟩),.agg (BK r q).toArray] U (by kernel_rfl) ?_;refine Af (Bv [ptr bd] (.pointer _) U U H ?_);rintro b4 w - H;refine Bv (BK r q) (.agg _) U U H ?_;rintro b5 w - H
 refine Ad U (Ab (Aa (Aq (A0 (Af (BU (α:=Unit) 520192 (fun _=>[(12,.bool (false))]) (fun _ w'=>Ctx w0 [] w' [(b5,Bl 55 (BK r q)),(b4,Bl 101 [ptr bd])]) U ?_ ?_))))))
 ·refine Ay U (Co Nh U ?_);refine AE U (AY 15 U ?_ ?_)
  ·intro h1;refine Ah U (Ah U (AN U (.bool _) U (Ai U (Ab ?_))));exact ⟨rfl,(),rfl,⟨congrArg Value.bool (by simp_all),trivial⟩,H⟩
  ·intro h2;refine AM Fw U H at1 U (Co Ix U ?_);refine AU U (.bool _) U (Ai U (Ab ?_));exact ⟨rfl,(),rfl,⟨congrArg Value.bool (by rfl),trivial⟩,H⟩
 rintro - j12 w H;refine Fg U (Af (Ag F9 U (Cj _ Df CL U U ((Dr (b:=b5) (t:=55) (l:=BK r q) (H.get at0) 4 [.int .i64 r.N,.slice q.aE r.es.length q.cE] U)) ?_)));refine Ag Gx U (Cj _ Tk Ng U U ((Dr (b:=b5) (t:=55) (l:=BK r q) (H.get at0) 6 [.slice q.aF r.fl.length q.cF,.slice q.aP r.pot.length q.cP] U)) ?_);refine Al YO (Tu r.N q.aE q.aF q.aP _ q.cE _ q.cF _ q.cP r.es r.fl r.pot _ (RA.E.ext0 H.ext) U hN (RA.F.ext0 H.ext) U (by omega) (RA.P.ext0 H.ext) U (by omega)) U ?_;rintro v w ⟨rfl,hx24⟩;rw [← hck];replace H:=H.call hx24;refine BA U (Ai U (Ab (Aa (Ap _ U ?_ ?_))))
 ·intro h1;replace h1:=BE h1;refine Af (Ad U (Ab (Aa (A4 (AA (Ao (AD (v:=(.int _ _)) U U U ?_)))))));have h1':ck=false:=by simpa using h1
  have hC:EE acs ds r=1:=by unfold EE; rw [← hck,if_pos h1']
  unfold GK Gq;rw [hC,if_neg (by decide),if_neg (by decide)];exact ⟨rfl,full,o,O,hM,H0.call H.ext⟩
 ·intro h1;replace h1:=BF h1;have h1':ck=true:=by simpa using h1
  refine Af (Ay U (AM Fw U H at1 U (Cl FT Dh U H at0 U (Al Ahj (Aj5 ha hd _ (A.ext0 H.ext) (D.ext0 H.ext) (RA.ext0 H.ext) he hi) U ?_))));rintro v w ⟨rfl,hx30⟩;rw [← hnw];replace H:=H.call hx30;refine BA U (Ai U (Ab (Aa (Ap _ U ?_ ?_))))
  ·intro h2;replace h2:=BE h2;refine Af (Ad U (Ab (Aa (A4 (AA (Ao (AD (v:=(.int _ _)) U U U ?_)))))));have h2':nw=false:=by simpa using h2
   have hC:EE acs ds r=3:=by unfold EE; rw [← hck,h1',if_neg (by decide),← hnw,if_pos h2']
   unfold GK Gq;rw [hC,if_neg (by decide),if_neg (by decide)];exact ⟨rfl,full,o,O,hM,H0.call H.ext⟩
  ·intro h2;replace h2:=BF h2;have h2':nw=true:=by simpa using h2
   have hC:EE acs ds r=0:=by unfold EE; rw [← hck,h1',if_neg (by decide),← hnw,h2',if_neg (by decide)]
   have F:=HM ha hd hC;unfold GK Gq;rw [hC,if_pos rfl,if_pos rfl];have hSh:=(Ns ha (fun k a hk=>(F.by' k a hk).2) F.sum).1;obtain ⟨f,hf0⟩:∃ f:Nat→Nat→Int,f=fun i=>DS (grE (((acs.map Dq).length+1:Nat):Int) (BJ (acs.map Dq) (opn ds) r.cmp)) (flE r.fl) i:=⟨_,rfl⟩;have hfe:byK (acs.map Dq) (opn ds) r.cmp r.fl=f (opn ds).length:=by rw [hf0]; rfl
   rw [hfe] at hSh ⊢;have hf00:f 0=fun _=>0:=by rw [hf0]; rfl
   obtain ⟨m,hm⟩:∃ m,m=(opn ds).length:=⟨_,rfl⟩;have hml:m≤64:=by have:=Ip ds; omega
   have hmf:m≤r.fl.length:=by rw [F.len,F.es,Ha]; omega
   have hltm:(r.fl.take m).length=m:=by rw [List.length_take]; omega
   have hidl:r.ids.length=m:=by rw [F.ids,List.length_map,hm]
   have hcut:Sh (r.ids.length:Int) r.fl.length=m:=by unfold Sh; rw [hidl]; omega
   rw [← hm] at hSh ⊢;refine Au (A5 (Aa (Af (Ay U (Al Zg (Pm (bd:=bx) a acs.length c acs _ (H.ext.to hbx (by simp)) (RAc.ext0 H.ext) U) U ?_)))));rintro v w F33;obtain ⟨a33,n33,c33,f33,rfl,O33,-⟩:=F33.ex;obtain rfl:=O33.numN (fun _ _=>rfl) (by decide);replace H:=H.call F33.ext;refine Bi Dg U (GS Bg B6 Lg EK U U H ?_);rintro b35 w - H;rw [Int.toNat_natCast,EO] at H;rw [Int.toNat_natCast];refine AX Af4 H ?_;rintro b7 w - H;refine Cp (.slice _ _ _) Af1 U U U H at0 (by decide) ?_;rintro w H;refine Ab (Aa (Af (BQ [.pointer _,.pointer _] U (CG U (.func _ _ _) U ?_))));refine Ab (Aa (Aq (Af (Ag F9 U (Cj _ Df CL U U ((Dr (b:=b5) (t:=55) (l:=BK r q) (H.get at2) 4 [.int .i64 r.N,.slice q.aE r.es.length q.cE] U)) ?_)))))
   refine Ag Gx U (Ag Jo U (AM Cg U H at2 U (Ag Gw U (AM JR U H at2 U (Bi Bx U (Al YH (Wv r.N q.aE q.aF r.es.length q.cE _ q.cF (r.ids.length:Int) r.fl _ (RA.F.ext0 H.ext) U RA.fc hf) U ?_))))));rintro v w F45;rw [hcut] at F45;obtain ⟨a45,n45,c45,f45,rfl,O45,hb45⟩:=F45.ex;have hn45:=O45.num;rw [List.length_take,Nat.min_eq_left hmf] at hn45;rw [hn45] at O45 ⊢;refine Bi Bg U (Ae U (Ab (Aa (A0 ?_))));have HFp:=(Ctx.callEnt H0 H.ext (fun x hx=>⟨H.blk x hx,(H.own x hx).elim (fun h=>by cases h) id⟩) H.nd).perm (Af9 _ _ _ _ _ _ _ _);have HF:=HFp.call F45.ext;have E9:=H.ext.trans F45.ext
   obtain ⟨S9,hS9⟩:∃ S9,S9=((b35,Bl 2 (List.map (fun _=>Value.int .i64 0) (List.range acs.length)))::(b,o)::(bx,Bl 162 [.slice a acs.length c])::(bd,Bl 165 (DU b nx))::(b7,Bl 35 [.slice (some ⟨b35,0,none⟩) acs.length acs.length])::(b5,Bl 55 (BK r q))::(b4,Bl 101 [ptr bd])::ent a 43 full).map (·.1):=⟨_,rfl⟩;have RPY:Rd w a45 1 I1 (r.fl.take m):=O45.rd1 fun x hx=>(hb45 x hx).1
   have hPY:r.fl.take m≠[]→(adr a45).block∉S9:=fun hne hm9=>by
    obtain ⟨z,rfl⟩:=O45.form (by have:=List.length_pos_iff.2 hne; rw [List.length_take] at this; omega);have h7:=(hb45 (z,Bl 2 f45) (List.mem_singleton.2 rfl)).2;rw [hS9] at hm9;obtain ⟨y,hy,hy2⟩:=List.mem_map.1 hm9;have h8:=Ba (HFp.blk y hy);dsimp only at h7;have h9:y.1=z:=hy2;omega
   have RA9:=RA.ext0 E9
   have hoff9:ROff q r (·∈S9):=(hoff.or RA.lt).mono fun x hx=>by
    rw [hS9] at hx;obtain ⟨y,hy,rfl⟩:=List.mem_map.1 hx;exact HFp.own y hy
   clear HFp;obtain ⟨w9,rfl⟩:∃ z,z=w:=⟨_,rfl⟩;replace HF:Ctx w0 ((LX bx a acs.length c full bd b nx o).map (·.1)) w9 (((b35,Bl 2 (List.map (fun _=>Value.int .i64 0) (List.range acs.length)))::(b,o)::(bx,Bl 162 [.slice a acs.length c])::(bd,Bl 165 (DU b nx))::(b7,Bl 35 [.slice (some ⟨b35,0,none⟩) acs.length acs.length])::(b5,Bl 55 (BK r q))::(b4,Bl 101 [ptr bd])::ent a 43 full)++[]):=by rw [List.append_nil]; exact HF
   have H:Ctx w9 S9 w9 ((b35,Bl 2 (List.map (fun _=>Value.int .i64 0) (List.range acs.length)))::(b,o)::(bx,Bl 162 [.slice a acs.length c])::(bd,Bl 165 (DU b nx))::(b7,Bl 35 [.slice (some ⟨b35,0,none⟩) acs.length acs.length])::(b5,Bl 55 (BK r q))::(b4,Bl 101 [ptr bd])::ent a 43 full):=by rw [hS9]; exact Ctx.lend HF
   refine Bt 18446603336221199936 (α:=AP7) (fun t=>[(47,.int .i64 (t.i:Int))]) (fun t w'=>t.i≤m∧CT .u64 (dm (Km ds (((opn ds).zip (r.fl.take m)).take t.i))) t.o∧Ctx w9 S9 w' ((b35,Bl 2 (BS (f t.i) acs.length))::(b,t.o)::(bx,Bl 162 [.slice a acs.length c])::(bd,Bl 165 (DU b nx))::(b7,Bl 35 [.slice (some ⟨b35,0,none⟩) acs.length acs.length])::(b5,Bl 55 (BK r q))::(b4,Bl 101 [ptr bd])::ent a 43 full)) (fun t=>m - t.i) ⟨0,o⟩ U ?_ ?_ ?_
   ·exact ⟨rfl,trivial⟩
   ·refine ⟨Nat.zero_le _,hM,?_⟩;dsimp only;rw [hf00];exact H
   ·clear H;rintro ⟨i,o1⟩ jj w ⟨hi7,hM1,H⟩; dsimp only at hi7 hM1 H; dsimp only;refine Af (Bj U U (Ab (Aa (Aq (Ap _ U ?_ ?_)))))
    ·intro h3;replace h3:=AJ h3;obtain ⟨d,hdi⟩:=A8 (l:=opn ds) (i:=i);obtain ⟨x,hxi⟩:=A8 (l:=r.fl) (i:=i);have hxt:(r.fl.take m)[i]? = some x:=by rw [List.getElem?_take,if_pos (by omega)]; exact hxi
     have hid:r.ids[i]? = some d.id:=by rw [F.ids,List.getElem?_map,hdi]; rfl
     have hps:((opn ds).zip (r.fl.take m))[i]? = some (d,x):=by rw [List.getElem?_zip_eq_some]; exact ⟨hdi,hxt⟩
     have hok:=F.ok;rw [← hm] at hok;obtain ⟨⟨hfd,hheld,hx0,hx1⟩,hnext⟩:=TH hok hps;dsimp only at hfd hheld hx0 hx1 hnext;have ham7:=(Ww (Aa1 hd) hok i).1;have hDI:=F.B.open'.due d (List.mem_of_getElem? hdi);rw [List.length_map] at hDI;have hdm:=Dc hDI.1
     have hfb:∀ k,-1152921504606846976≤f i k∧f i k≤1152921504606846976:=fun k=>by
      have:=Kc (g:=grE (((acs.map Dq).length+1:Nat):Int) (BJ (acs.map Dq) (opn ds) r.cmp)) (x:=flE r.fl) (c:=4503599627370496) k (k:=i) fun j hj=>by
       obtain ⟨d',hd'⟩:=A8 (l:=opn ds) (i:=j);obtain ⟨x',hx'⟩:=A8 (l:=r.fl) (i:=j);have h1:=F.pay.2 j d' x' hd' (by rw [List.getElem?_take,if_pos (by omega)]; exact hx');have h2:=(Dc (F.B.open'.due d' (List.mem_of_getElem? hd')).1).2.2.2.1;show 0≤r.fl.getD j 0∧r.fl.getD j 0≤_;rw [Bo hx'];omega
      rw [hf0];dsimp only;omega
     have hfs:∀ k,f (i+1) k=f i k+(one (d.to.toNat=k) - one (d.fr.toNat=k))*x:=fun k=>by
      rw [hf0];dsimp only;rw [Gk,Sm (Io hdi),Sn (Io hdi),show flE r.fl i=x from Bo hxi]; rfl
     refine Au (Aa (Aq (A0 (Af (Ae U (AS RPY Bg B6 U U (by omega) ?_))))));refine AZ Bw U (((RPY.ext' H.ext hPY).fld hxt U (j:=0) U)) ?_;refine Ad U (Ad U (Ab (Aa (Af (Da U (.func _ _ _) U ?_)))));refine Ag Gw U (AM JR U H at5 U (Ae U (AS RA9.I Bx Bp U U (by rfl) ?_)));refine AZ B5 U (((RA9.I.ext' H.ext hoff9.I).fld hid U (j:=0) U)) ?_
     refine Ae U (Fz U Ahk (Aes (f:=f i) (f':=f (i+1)) (x:=x) (d:=d) _ (H.get at6) (H.get at4) (H.get at3) (Ctx.lend (L1:=[_,_]) (L2:=_) H) hM1 (fun h=>by simp only [List.mem_cons,List.not_mem_nil,or_false] at h; exact h.elim (H.ne at6 at0 (by decide)) (H.ne at6 at1 (by decide))) (fun h=>by simp only [List.mem_cons,List.not_mem_nil,or_false] at h; exact h.elim (H.ne at4 at0 (by decide)) (H.ne at4 at1 (by decide))) (fun h=>by simp only [List.mem_cons,List.not_mem_nil,or_false] at h; exact h.elim (H.ne at3 at0 (by decide)) (H.ne at3 at1 (by decide))) hfd hheld ⟨hx0,hx1⟩ ham7 ⟨hdm.1.1,hDI.2.1⟩ ⟨hdm.2.1.1,hDI.2.2⟩ hfb hfs) U ?_);rintro v w ⟨rfl,o2,hM2,H2⟩;replace H:=Ctx.back (L1:=[_,_]) (L2:=_) H H2;rw [← hnext] at hM2;refine Ad U (Ab (Aa (Af (Ae U (C9 U U (Ab (Aa (Ap _ U ?_ ?_))))))))
     ·intro h4;replace h4:=CR h4;exact absurd U h4
     ·intro h4;replace h4:=CS h4;refine Au (A5 (Aa (Az (Ax U U ?_))));refine Ae U (Ab (Aa ?_));exact ⟨⟨i+1,o2⟩,rfl,⟨rfl,trivial⟩,⟨by dsimp only; omega,hM2,H⟩,by dsimp only; omega⟩
    ·intro h3;replace h3:=AK h3;obtain rfl:i=m:=by omega
     have hall:=F.all;rw [← hm] at hall;rw [List.take_of_length_le (by rw [List.length_zip,← hm,List.length_take]; omega),hall] at hM1;refine Bq (Am (Am (AG (Aa (Af (Ay U (AM Cg U H at4 U (Al Ahm (XC (bd:=bx) a (some ⟨b35,0,none⟩) c acs.length acs.length full acs (tab (f i) acs.length) _ (H.get at2) O (fun x hx=>⟨H.blk x (List.mem_append_right [_,_,_,_,_,_,_] hx),fun h=>(List.pairwise_cons.1 H0.nd).1 x (List.mem_cons_of_mem _ (List.mem_cons_of_mem _ hx)) h.symm⟩) (Cx (H.get at0)) (CV _ _)) U ?_))))))));rintro v w ⟨rfl,full',O',hb',hx66⟩;rw [hSh];refine Ad U (Ab (Aa (A4 (AD (v:=(.int _ _)) U U U ?_))));have HT:=Ctx.turnEnt (L:=[_,_,_,_,_,_,_]) H hx66 hb';rw [hS9] at HT;have HB:=Ctx.back HF HT;rw [List.append_nil] at HB;exact ⟨rfl,full',o1,O',hM1,(HB.perm (Af9 _ _ _ _ _ _ _ _).symm).left (L':=[_,_,_,_])⟩
end Go.Proofs.YtdagmpmdcgedcaaGreat
namespace Go.Proofs.YtdagmpmdcgedcaaGreat
open Go.GV
attribute [local irreducible] AB W Wq Wt
def plc (k:Nat) (d:Du):Int:=one (d.to=(k:Int)) - one (d.fr=(k:Int))
theorem IX {p q:Prop} [Decidable p] [Decidable q] (h:p↔q):one p=one q:=by
 by_cases hp:p
 ·rw [Fv hp,Fv (h.1 hp)]
 ·rw [EW hp,EW (fun hq=>hp (h.2 hq))]
def Ko (acs:List Ac) (ds:List Du) (k:Nat):Int:=(acs.getD k a00).ba+Ch (ds.map fun d=>plc k d*d.am)
theorem Aet {rs:List Int} {os:List Du} {net:Bool} {fl:List Int} {k:Nat} (hos:∀ d∈os,0≤d.fr∧0≤d.to) (hl:os.length≤fl.length):byK rs os net fl k=Ch (List.zipWith (fun d x=>plc k d*x) os (fl.take os.length)):=by
 unfold byK DS;rw [← TA]
 congr 1
 refine List.ext_getElem? fun i=>?_
 rcases Nat.lt_or_ge i os.length with hi | hi
 ·obtain ⟨d,hd⟩:=A8 (h:=hi);obtain ⟨x,hx⟩:=A8 (l:=fl) (i:=i);have he:=Io (rs:=rs) (net:=net) hd;have h0:=hos d (List.mem_of_getElem? hd);rw [BT hi,List.getElem?_zipWith,hd,List.getElem?_take,if_pos hi,hx,Sn he,Sm he];unfold flE;rw [Bo hx];have h1:one ((Kl d).t.toNat=k)=one (d.to=(k:Int)):=IX ⟨fun h=>by have:d.to.toNat=k:=h; omega,fun h=>by show d.to.toNat=k; omega⟩;have h2:one ((Kl d).f.toNat=k)=one (d.fr=(k:Int)):=IX ⟨fun h=>by have:d.fr.toNat=k:=h; omega,fun h=>by show d.fr.toNat=k; omega⟩;rw [h1,h2];rfl
 ·rw [List.getElem?_eq_none (by rw [CV]; omega),List.getElem?_eq_none (by rw [List.length_zipWith]; omega)]
theorem XQ {acs:List Ac} {ds:List Du} {net:Bool} {r:Rnd} (hb:D3 (acs.map Dq) ds=true) (P:PlanR acs ds net r):EE acs ds r=0:=by
 unfold EE N5;rw [P.chk,hb,P.cmp,P.es,P.ids,P.N];simp
theorem Ma:∀ {ds:List Du} {xs:List Int} {e:Du},e∈DI ds xs→∃ d∈ds,e.id=d.id
 | [],_,_,h=>by cases h
 | d::ds,[],e,h=>⟨e,h,rfl⟩
 | d::ds,x::xs,e,h=>by
  unfold DI at h
  split at h
  ·rcases List.mem_cons.1 h with rfl | h
   ·exact ⟨_,List.mem_cons_self ..,rfl⟩
   ·obtain ⟨d',h1,h2⟩:=Ma h;exact ⟨d',List.mem_cons_of_mem _ h1,h2⟩
  ·split at h
   ·obtain ⟨d',h1,h2⟩:=Ma h;exact ⟨d',List.mem_cons_of_mem _ h1,h2⟩
   ·rcases List.mem_cons.1 h with rfl | h
    ·exact ⟨d,List.mem_cons_self ..,rfl⟩
    ·obtain ⟨d',h1,h2⟩:=Ma h;exact ⟨d',List.mem_cons_of_mem _ h1,h2⟩
def MgI (ds left:List Du) (i j:Nat):Prop:=j≤left.length∧∃ xs,PayIn (opn (ds.drop i)) xs∧left.drop j=DI (ds.drop i) xs
theorem MgI.start {ds:List Du} {xs:List Int} (h:PayIn (opn ds) xs):MgI ds (DI ds xs) 0 0:=⟨Nat.zero_le _,xs,h,rfl⟩
theorem J2 {α:Type} {l:List α} {i:Nat} {x:α} (h:l[i]? = some x):l.drop i=x::l.drop (i+1):=by
 obtain ⟨h1,rfl⟩:=List.getElem?_eq_some_iff.1 h;exact List.drop_eq_getElem_cons h1
theorem QF {α:Type} {l m:List α} {j:Nat} {x:α} (h:l.drop j=x::m):l[j]? = some x∧l.drop (j+1)=m:=by
 have h1:(l.drop j)[0]? = some x:=by rw [h]; rfl
 rw [List.getElem?_drop,Nat.add_zero] at h1;refine ⟨h1,?_⟩;rw [J2 h1] at h;injection h
theorem MgI.step {ds left:List Du} {i j:Nat} {d:Du} (hs:(ds.map (·.id)).Pairwise (·<·)) (h:MgI ds left i j) (hd:ds[i]? = some d) (hp:1≤d.am) :
  (∃ e,left[j]? = some e∧e.id=d.id∧e.am≤d.am∧1≤e.am∧(d.held=true→e=d)∧MgI ds left (i+1) (j+1)) ∨
  (d.held=false∧(∀ e,left[j]? = some e→e.id≠d.id)∧MgI ds left (i+1) j):=by
 obtain ⟨hj,xs,hP,hl⟩:=h;rw [J2 hd] at hP hl;rw [E5] at hP
 by_cases hh:d.held=true
 ·rw [if_pos hh] at hP
  have hl':left.drop j=d::DI (ds.drop (i+1)) xs:=by
   rw [hl]; exact Gm hh _ _
  obtain ⟨g1,g2⟩:=QF hl';exact .inl ⟨d,g1,rfl,Int.le_refl _,hp,fun _=>rfl,Ck g1,xs,hP,g2⟩
 ·rw [if_neg hh] at hP;obtain ⟨x,xs,rfl⟩:=PayIn.cons hP;obtain ⟨⟨h0,h1⟩,hP⟩:=PayIn.tail hP;rw [Gn hh] at hl
  by_cases hx:d.am=x
  ·rw [if_pos hx,List.nil_append] at hl;refine .inr ⟨by simpa using hh,fun e he hid=>?_,hj,xs,hP,hl⟩;have h3:=J2 he;rw [hl] at h3;obtain ⟨d',hd',hid'⟩:=Ma (e:=e) (by rw [h3]; exact List.mem_cons_self ..);have hs':((ds.drop i).map (·.id)).Pairwise (·<·):=by rw [List.map_drop]; exact hs.drop
   rw [J2 hd,List.map_cons,List.pairwise_cons] at hs';have:=hs'.1 d'.id (List.mem_map_of_mem hd');omega
  ·rw [if_neg hx,List.cons_append,List.nil_append] at hl;obtain ⟨g1,g2⟩:=QF hl;exact .inl ⟨_,g1,rfl,by dsimp only; omega,by dsimp only; omega,fun h=>absurd h hh,Ck g1,xs,hP,g2⟩
theorem MgI.ends {ds left:List Du} {j:Nat} (h:MgI ds left ds.length j):j=left.length:=by
 obtain ⟨hj,xs,-,hl⟩:=h;rw [List.drop_length] at hl;have:=congrArg List.length hl;rw [List.length_drop] at this;have h0:(DI [] xs).length=0:=rfl;omega
end Go.Proofs.YtdagmpmdcgedcaaGreat
namespace Go.Proofs.YtdagmpmdcgedcaaGreat
open Go.GV
attribute [local irreducible] AB W Wq Wt
theorem W3 {F:Nat→Int} {E:Nat} {s:Nat→Nat} (h1:∀ i,i<E→s i<E) (h2:∀ i,i<E→s (s i)=i):B7 (fun i=>F (s i)) E=B7 F E:=by
 have e1:B7 (fun i=>F (s i)) E=B7 (fun i=>B7 (fun j=>one (s i=j)*F j) E) E:=Cu fun i hi=>(GY F (h1 i hi)).symm;have e2:=OU (fun i j=>one (s i=j)*F j) E E
 have e3:B7 (fun j=>B7 (fun i=>one (s i=j)*F j) E) E=B7 F E:=Cu fun j hj=>by
  have:B7 (fun i=>one (s i=j)*F j) E=B7 (fun i=>one (s j=i)*F j) E:=Cu fun i hi=>by
   rw [IX (p:=s i=j) (q:=s j=i) ⟨fun h=>by rw [← h,h2 i hi],fun h=>by rw [← h,h2 j hj]⟩]
  rw [this];exact GY (fun _=>F j) (h1 j hj)
 rw [e1,← e3];exact e2
structure Twin (g g':Gr) (cap cap':Nat→Int) (s p:Nat→Nat):Prop where
 N:g'.N=g.N
 E:g'.E=g.E
 s1:∀ i,i<g.E→s i<g.E
 s2:∀ i,i<g.E→s (s i)=i
 p1:∀ v,v<g.N→p v<g.N
 p2:∀ v,v<g.N→p (p v)=v
 f:∀ i,i<g.E→g'.f (s i)=p (g.f i)
 t:∀ i,i<g.E→g'.t (s i)=p (g.t i)
 co:∀ i,i<g.E→g'.co (s i)=g.co i
 cap:∀ i,i<g.E→cap' (s i)=cap i
theorem Twin.symm {g g':Gr} {cap cap':Nat→Int} {s p:Nat→Nat} (_hg':g'.Ok) (hg:g.Ok) (T:Twin g g' cap cap' s p):Twin g' g cap' cap s p :=
 ⟨T.N.symm,T.E.symm,fun i hi=>by rw [T.E] at hi ⊢; exact T.s1 i hi,fun i hi=>by rw [T.E] at hi; exact T.s2 i hi,
  fun v hv=>by rw [T.N] at hv ⊢; exact T.p1 v hv,fun v hv=>by rw [T.N] at hv; exact T.p2 v hv,
  fun i hi=>by
   rw [T.E] at hi;have h:=T.f (s i) (T.s1 i hi);rw [T.s2 i hi] at h
   rw [h,T.p2 _ (hg.f _ (T.s1 i hi))],
  fun i hi=>by
   rw [T.E] at hi;have h:=T.t (s i) (T.s1 i hi);rw [T.s2 i hi] at h
   rw [h,T.p2 _ (hg.t _ (T.s1 i hi))],
  fun i hi=>by
   rw [T.E] at hi;have h:=T.co (s i) (T.s1 i hi);rw [T.s2 i hi] at h
   exact h.symm,
  fun i hi=>by
   rw [T.E] at hi;have h:=T.cap (s i) (T.s1 i hi);rw [T.s2 i hi] at h
   exact h.symm⟩
theorem Twin.le {g g':Gr} {cap cap' x x' p':Nat→Int} {q:Nat→Int} {s p:Nat→Nat} (T:Twin g g' cap cap' s p) (hg:g.Ok) (h:Fine g cap x q) (h0:∀ v,v<g.N→BC g x v=0) (h':Fine g' cap' x' p') (h0':∀ v,v<g'.N→BC g' x' v=0):Hv g x≤Hv g' x':=by
 have hc:Hv g (fun i=>x' (s i))=Hv g' x':=by
  unfold Hv;rw [T.E,← W3 (F:=fun i=>x' i*g'.co i) T.s1 T.s2];exact Cu fun i hi=>by rw [T.co i hi]
 rw [← hc];refine Fine.best hg h h0 (fun i hi=>?_) fun v hv=>?_
 ·have h1:=h'.in' (s i) (by rw [T.E]; exact T.s1 i hi);rw [T.cap i hi] at h1;exact h1
 ·have h1:=h0' (p v) (by rw [T.N]; exact T.p1 v hv);rw [← h1];unfold BC DS;rw [T.E,← W3 (F:=fun i=>(one (g'.t i=p v) - one (g'.f i=p v))*x' i) T.s1 T.s2];refine Cu fun i hi=>?_;have hp:∀ u,u<g.N→(u=v↔p u=p v):=fun u hu=>⟨fun h=>by rw [h],fun h=>by rw [← T.p2 u hu,h,T.p2 v hv]⟩;rw [T.t i hi,T.f i hi,IX (hp _ (hg.t i hi)),IX (hp _ (hg.f i hi))]
theorem Twin.eq {g g':Gr} {cap cap' x x' p':Nat→Int} {q:Nat→Int} {s p:Nat→Nat} (T:Twin g g' cap cap' s p) (hg:g.Ok) (hg':g'.Ok) (h:Fine g cap x q) (h0:∀ v,v<g.N→BC g x v=0) (h':Fine g' cap' x' p') (h0':∀ v,v<g'.N→BC g' x' v=0):Hv g x=Hv g' x' :=
 Int.le_antisymm (T.le hg h h0 h' h0') ((T.symm hg' hg).le hg' h' h0' h h0)
def flip (n:Nat) (a b:Du):Du:={ b with id:=a.id,fr:=(n:Int) - 1 - b.fr,to:=(n:Int) - 1 - b.to }
def turnD (n:Nat) (ds:List Du):List Du:=List.zipWith (flip n) ds ds.reverse
def mirE (n:Nat) (e:Ed):Ed:={ e with f:=(n:Int) - 1 - e.f,t:=(n:Int) - 1 - e.t }
def sigN (n m i:Nat):Nat:=if i<m then m - 1 - i else m+(2*(n - 1 - (i - m) / 2)+(i - m) % 2)
def piN (n v:Nat):Nat:=if v<n then n - 1 - v else v
end Go.Proofs.YtdagmpmdcgedcaaGreat
namespace Go.Proofs.YtdagmpmdcgedcaaGreat
open Go.GV
attribute [local irreducible] AB W Wq Wt
def costR (r:Rnd):Int:=Hv (grE r.N r.es) (flE r.fl)
theorem TO {f g:Nat→Int} {m:Nat}:∀ n,m≤n→(∀ i,i<m→f i=g i)→(∀ i,m≤i→i<n→f i=0)→B7 f n=B7 g m
 | 0,h,_,_=>by
  obtain rfl:m=0:=by omega
  rfl
 | n+1,h,h1,h2=>by
  rcases Nat.lt_or_ge n m with h3 | h3
  ·obtain rfl:m=n+1:=by omega
   exact Cu h1
  ·show B7 f n+f n=_;rw [TO n h3 h1 fun i hi hn=>h2 i hi (by omega),h2 n h3 (by omega),Int.add_zero]
end Go.Proofs.YtdagmpmdcgedcaaGreat
namespace Go.Proofs.YtdagmpmdcgedcaaGreat
open Go.GV
theorem TP {rs:List Int} {os:List Du} {net:Bool} {xs:List Int} (hl:os.length≤xs.length) (v:Nat):∀ k,k≤os.length→(∀ (i:Nat) (d:Du) (x:Int),i<k→os[i]? = some d→xs[i]? = some x→0≤x∧x≤d.am) →
  -Ch ((os.map Du.am).take k)≤DS (grE ((rs.length+1:Nat):Int) (BJ rs os net)) (flE xs) k v∧DS (grE ((rs.length+1:Nat):Int) (BJ rs os net)) (flE xs) k v≤Ch ((os.map Du.am).take k)
 | 0,_,_=>⟨Int.le_refl _,Int.le_refl _⟩
 | k+1,h,hp=>by
  have ih:=TP (rs:=rs) (net:=net) hl v k (by omega) fun i d x hi=>hp i d x (by omega);obtain ⟨d,hd⟩:=A8 (l:=os) (i:=k);obtain ⟨x,hx⟩:=A8 (l:=xs) (i:=k);have h1:=hp k d x (by omega) hd hx;have hm:(os.map Du.am)[k]? = some d.am:=by rw [List.getElem?_map,hd]; rfl
  have h2:∀ (p q:Prop) [Decidable p] [Decidable q],-x≤(one p - one q)*x∧(one p - one q)*x≤x:=fun p q _ _=>by
   by_cases hp:p <;> by_cases hq:q <;> simp only [one,if_pos,if_neg,hp,hq,not_false_eq_true] <;> omega
  rw [Gk,IU hm,show flE xs k=x from Bo hx];have h3:=h2 ((grE ((rs.length+1:Nat):Int) (BJ rs os net)).t k=v) ((grE ((rs.length+1:Nat):Int) (BJ rs os net)).f k=v);omega
theorem Aeu {rs:List Int} {os:List Du} {net:Bool} {xs:List Int} (hp:PayIn os xs) (v:Nat) (k:Nat) (h:k≤os.length) :
  -Ch ((os.map Du.am).take k)≤DS (grE ((rs.length+1:Nat):Int) (BJ rs os net)) (flE xs) k v∧DS (grE ((rs.length+1:Nat):Int) (BJ rs os net)) (flE xs) k v≤Ch ((os.map Du.am).take k) :=
 TP (Nat.le_of_eq hp.1) v k h fun i d x _=>hp.2 i d x
theorem XR {xs:List Int} (h:∀ x∈xs,0≤x) (k:Nat):Ch (xs.take k)≤Ch xs:=by
 have h1:Ch (xs.take k++xs.drop k)=Ch (xs.take k)+Ch (xs.drop k):=E7 _ _;rw [List.take_append_drop] at h1;have h2:=GF (xs:=xs.drop k) fun x hx=>h x (List.mem_of_mem_drop hx);omega
def TQ (rs:List Int) (net:Bool) (k:Nat):Int:=if net=true then 0 else rs.getD k 0
def QG (rs:List Int) (os:List Du) (net:Bool) (xs:List Int) (k:Nat):Int:=TQ rs net k+byK rs os net xs k
structure PermP (rs:List Int) (ds:List Du) (net:Bool) (xs:List Int):Prop where
 B:Bright rs ds
 pay:PayIn (opn ds) xs
 left:∀ k,k<rs.length→0≤QG rs (opn ds) net xs k∧(net=true→QG rs (opn ds) net xs k=0)
def EF (os:List Du) (xs:List Int) (k:Nat):Int:=B7 (fun i=>(os.getD i d00).we*xs.getD i 0) k
theorem Kp {os:List Du} {xs:List Int} {k:Nat} {d:Du} {x:Int} (hd:os[k]? = some d) (hx:xs[k]? = some x):EF os xs (k+1)=EF os xs k+d.we*x:=by
 show EF os xs k+(os.getD k d00).we*xs.getD k 0=_;rw [Bo hd,Bo hx]
theorem Lp {os:List Du} {xs:List Int} (hp:PayIn os xs) (hos:∀ d∈os,0≤d.we∧d.we≤1000):∀ k,k≤os.length→0≤EF os xs k∧EF os xs k≤1000*Ch ((os.map Du.am).take k)
 | 0,_=>⟨Int.le_refl _,Int.le_refl _⟩
 | k+1,h=>by
  have ih:=Lp hp hos k (by omega);have hl:=hp.1;obtain ⟨d,hd⟩:=A8 (l:=os) (i:=k);obtain ⟨x,hx⟩:=A8 (l:=xs) (i:=k);have h1:=hp.2 k d x hd hx;have hw:=hos d (List.mem_of_getElem? hd);have hm:(os.map Du.am)[k]? = some d.am:=by rw [List.getElem?_map,hd]; rfl
  have h2:0≤d.we*x:=Int.mul_nonneg hw.1 h1.1;have h3:d.we*x≤1000*d.am:=Int.le_trans (Int.mul_le_mul_of_nonneg_right hw.2 h1.1) (Int.mul_le_mul_of_nonneg_left h1.2 (by decide));rw [Kp hd hx,IU hm];omega
def HO (rs:List Int) (os:List Du) (net:Bool) (xs:List Int) (i:Nat):Int :=
 if i<os.length then flE xs i else if (i - os.length) % 2=0 then max 0 (-byK rs os net xs ((i - os.length) / 2)) else max 0 (byK rs os net xs ((i - os.length) / 2))
theorem MQ {rs:List Int} {os:List Du} {net:Bool} {xs:List Int} {i:Nat} (h:i<os.length):HO rs os net xs i=flE xs i:=if_pos h
theorem TR (rs:List Int) (os:List Du) (net:Bool) (xs:List Int) (k:Nat):HO rs os net xs (os.length+2*k)=max 0 (-byK rs os net xs k):=by
 unfold HO;rw [if_neg (by omega),if_pos (by omega),show (os.length+2*k - os.length) / 2=k by omega]
theorem QH (rs:List Int) (os:List Du) (net:Bool) (xs:List Int) (k:Nat):HO rs os net xs (os.length+2*k+1)=max 0 (byK rs os net xs k):=by
 unfold HO;rw [if_neg (by omega),if_neg (by omega),show (os.length+2*k+1 - os.length) / 2=k by omega]
theorem Kq {g:Gr} {x y:Nat→Int} (v:Nat):∀ k,(∀ i,i<k→x i=y i)→DS g x k v=DS g y k v
 | 0,_=>rfl
 | k+1,h=>by rw [Gk,Gk,Kq v k fun i hi=>h i (by omega),h k (by omega)]
theorem TS {rs:List Int} {os:List Du} {j:Nat} (hj:j<rs.length):∃ x,rs[j]? = some x∧(BJ rs os false)[os.length+2*j]? = some ⟨rs.length,j,x,0⟩∧(BJ rs os false)[os.length+2*j+1]? = some ⟨j,rs.length,4503599627370496,0⟩:=by
 obtain ⟨x,hx⟩:=A8 (h:=hj);exact ⟨x,hx,KA (LW hx),by rw [Nat.add_assoc]; exact KA (NJ hj)⟩
theorem Vq {rs:List Int} {ds:List Du} {net:Bool} {xs:List Int} (P:PermP rs ds net xs):∀ v,v<rs.length+1→BC (grE ((rs.length+1:Nat):Int) (BJ rs (opn ds) net)) (HO rs (opn ds) net xs) v=0:=by
 have hB:=P.B.right net;have hok:=Kg hB;have hN:(grE ((rs.length+1:Nat):Int) (BJ rs (opn ds) net)).N=rs.length+1:=by show ((rs.length+1:Nat):Int).toNat=_; omega
 have hE:(grE ((rs.length+1:Nat):Int) (BJ rs (opn ds) net)).E=(BJ rs (opn ds) net).length:=rfl;have hlen:=Ha rs (opn ds) net
 have hb:∀ v,v<rs.length→BC (grE ((rs.length+1:Nat):Int) (BJ rs (opn ds) net)) (HO rs (opn ds) net xs) v=0:=fun v hv=>by
  have h0:DS (grE ((rs.length+1:Nat):Int) (BJ rs (opn ds) net)) (HO rs (opn ds) net xs) (opn ds).length v=byK rs (opn ds) net xs v:=Kq v _ fun i hi=>MQ hi;unfold BC;rw [hE,hlen]
  cases net with
  | true =>
   rw [if_pos rfl,show (opn ds).length+0=(opn ds).length from rfl,h0];have:=(P.left v hv).2 rfl;unfold QG TQ at this;rw [if_pos rfl] at this;omega
  | false =>
   rw [if_neg (by decide),Pq (n:=rs.length) (fun j hj=>?_) hv rs.length (Nat.le_refl _),if_pos hv,h0,TR,QH]
   ·omega
   ·obtain ⟨x,-,e1,e2⟩:=TS (os:=opn ds) hj;rw [Sm e1,Sn e1,Sm e2,Sn e2];dsimp only;omega
 intro v hv
 rcases Nat.lt_or_ge v rs.length with h | h
 ·exact hb v h
 ·obtain rfl:v=rs.length:=by omega
  have ha:=over_all _ hok (HO rs (opn ds) net xs);rw [hN] at ha;have h2:B7 (BC (grE ((rs.length+1:Nat):Int) (BJ rs (opn ds) net)) (HO rs (opn ds) net xs)) rs.length=B7 (fun _=>0) rs.length:=Cu hb;have h3:B7 (BC (grE ((rs.length+1:Nat):Int) (BJ rs (opn ds) net)) (HO rs (opn ds) net xs)) rs.length+BC (grE ((rs.length+1:Nat):Int) (BJ rs (opn ds) net)) (HO rs (opn ds) net xs) rs.length=0:=ha;rw [h2,G9] at h3;omega
theorem QI {rs:List Int} {os:List Du} {net:Bool} {i:Nat} (hi:i<(BJ rs os net).length):(∃ d,os[i]? = some d∧(BJ rs os net)[i]? = some (Kl d)) ∨
  (net=false∧∃ k x,k<rs.length∧rs[k]? = some x∧((i=os.length+2*k∧(BJ rs os net)[i]? = some ⟨rs.length,k,x,0⟩)∨(i=os.length+2*k+1∧(BJ rs os net)[i]? = some ⟨k,rs.length,4503599627370496,0⟩))):=by
 have hlen:=Ha rs os net
 rcases Nat.lt_or_ge i os.length with h | h
 ·obtain ⟨d,hd⟩:=A8 (h:=h);exact .inl ⟨d,hd,Io hd⟩
 ·cases net with
  | true=>rw [hlen,if_pos rfl] at hi; omega
  | false =>
   rw [hlen,if_neg (by decide)] at hi;obtain ⟨x,hx,e1,e2⟩:=TS (os:=os) (j:=(i - os.length) / 2) (rs:=rs) (by omega);refine .inr ⟨rfl,(i - os.length) / 2,x,by omega,hx,?_⟩
   by_cases hp:(i - os.length) % 2=0
   ·exact .inl ⟨by omega,by rw [show os.length+2*((i - os.length) / 2)=i by omega] at e1; exact e1⟩
   ·exact .inr ⟨by omega,by rw [show os.length+2*((i - os.length) / 2)+1=i by omega] at e2; exact e2⟩
theorem XS {rs:List Int} {ds:List Du} {net:Bool} {xs:List Int} (P:PermP rs ds net xs) {i:Nat} (hi:i<(BJ rs (opn ds) net).length):0≤HO rs (opn ds) net xs i∧HO rs (opn ds) net xs i≤Cr (BJ rs (opn ds) net) i:=by
 have htot:=P.B.open'.tot;unfold Cr
 rcases QI hi with ⟨d,hd,he⟩ | ⟨rfl,k,x,hk,hx,⟨rfl,he⟩ | ⟨rfl,he⟩⟩
 ·have hl:=P.pay.1;have hlt:=Ck hd;obtain ⟨y,hy⟩:=A8 (l:=xs) (i:=i);have:=P.pay.2 i d y hd hy;rw [MQ hlt,show flE xs i=y from Bo hy,Bo he];exact this
 ·rw [TR,Bo he];have h1:=(P.left k hk).1;have h2:=CE.1 (P.B.may x (List.mem_of_getElem? hx));unfold QG TQ at h1;rw [if_neg (by decide),Bo hx] at h1;show 0≤max 0 _∧max 0 _≤x;omega
 ·rw [QH,Bo he];have h1:=(Aeu (rs:=rs) (net:=false) P.pay k _ (Nat.le_refl _)).2;rw [List.take_of_length_le (by rw [List.length_map]; exact Nat.le_refl _)] at h1;have h2:byK rs (opn ds) false xs k≤4503599627370496:=Int.le_trans h1 htot;show 0≤max 0 _∧max 0 _≤(4503599627370496:Int);omega
theorem Nt {rs:List Int} {os:List Du} {net:Bool} {y:Nat→Int} {xs:List Int} (hy:∀ i,i<os.length→y i=flE xs i):Hv (grE ((rs.length+1:Nat):Int) (BJ rs os net)) y = -EF os xs os.length:=by
 have hlen:=Ha rs os net
 have h1:Hv (grE ((rs.length+1:Nat):Int) (BJ rs os net)) y=B7 (fun i => -((os.getD i d00).we*xs.getD i 0)) os.length:=by
  unfold Hv;refine TO (f:=fun i=>y i*(grE ((rs.length+1:Nat):Int) (BJ rs os net)).co i) _ (by show os.length≤(BJ rs os net).length; omega) (fun i hi=>?_) fun i hi h2=>?_
  ·obtain ⟨d,hd⟩:=A8 (h:=hi)
   (try dsimp only)
   rw [TI (Io hd),Bo hd,hy i hi];unfold Kl flE;dsimp only;rw [Int.mul_neg,Int.mul_comm]
  ·rcases QI (rs:=rs) (os:=os) (net:=net) (i:=i) h2 with ⟨d,hd,he⟩ | ⟨hn,k,x,hk,hx,⟨hi2,he⟩ | ⟨hi2,he⟩⟩
   ·have:=Ck hd;omega
   ·(try dsimp only)
    rw [TI he];exact Int.mul_zero _
   ·(try dsimp only)
    rw [TI he];exact Int.mul_zero _
 rw [h1,NG];rfl
structure RndF (rs:List Int) (ds:List Du) (net:Bool) (r:Rnd):Prop where
 N:r.N=((rs.length+1:Nat):Int)
 es:r.es=BJ rs (opn ds) net
 chk:Fy r.N r.es r.fl r.pot=true
theorem RndF.fine {rs:List Int} {ds:List Du} {net:Bool} {r:Rnd} (P:RndF rs ds net r):Cw r.N r.es=true∧Cm r.N r.es r.fl=true∧(∀ v,v<r.N.toNat→BC (grE r.N r.es) (flE r.fl) v=0)∧Fine (grE r.N r.es) (Cr r.es) (flE r.fl) (ES r.pot):=by
 obtain ⟨h1,-,h3⟩:=Gp.1 P.chk;obtain ⟨h4,h5⟩:=Ff h1;exact ⟨(Cv h4).2.1,h4,h5,h3⟩
theorem RndF.best {rs:List Int} {ds:List Du} {net:Bool} {r:Rnd} (P:RndF rs ds net r) {xs:List Int} (Q:PermP rs ds net xs):EF (opn ds) xs (opn ds).length≤EF (opn ds) (r.fl) (opn ds).length:=by
 obtain ⟨p1,p2,p3,p4⟩:=P.fine;rw [P.N,P.es] at p1 p3 p4;have hN:(grE ((rs.length+1:Nat):Int) (BJ rs (opn ds) net)).N=rs.length+1:=by show ((rs.length+1:Nat):Int).toNat=_; omega
 have hN2:((rs.length+1:Nat):Int).toNat=rs.length+1:=by omega
 have h:=Fine.best (Kg p1) p4 (fun v hv=>p3 v (by rw [hN] at hv; omega)) (y:=HO rs (opn ds) net xs) (fun i hi=>XS Q hi) fun v hv=>Vq Q v (by rw [hN] at hv; exact hv);rw [Nt (xs:=r.fl) fun i _=>rfl,Nt fun i hi=>MQ hi] at h;omega
theorem RndF.perm {rs:List Int} {ds:List Du} {net:Bool} {r:Rnd} (P:RndF rs ds net r) (hB:Bright rs ds):PermP rs ds net (r.fl.take (opn ds).length)∧B7 (byK rs (opn ds) net r.fl) rs.length=0∧(∀ (k:Nat) (x:Int),rs[k]? = some x→(net=true→byK rs (opn ds) net r.fl k=0) ∧ -x≤byK rs (opn ds) net r.fl k∧byK rs (opn ds) net r.fl k≤4503599627370496):=by
 have hc:=(Gp.1 P.chk).1;rw [P.N,P.es] at hc;obtain ⟨h1,h2,h3,h4⟩:=TJ (fun x hx=>(CE.1 (hB.may x hx)).1) hB.open'.due hc;refine ⟨⟨hB,h1,fun k hk=>?_⟩,h4,h3⟩
 have hby:byK rs (opn ds) net (r.fl.take (opn ds).length) k=byK rs (opn ds) net r.fl k:=Kq k _ fun i hi=>by
  unfold flE;rw [List.getD_eq_getElem?_getD,List.getD_eq_getElem?_getD,List.getElem?_take,if_pos hi]
 obtain ⟨x,hx⟩:=A8 (h:=hk);obtain ⟨g1,g2,-⟩:=h3 k x hx;unfold QG TQ;rw [hby]
 cases net with
 | true=>rw [if_pos rfl,g1 rfl]; exact ⟨by omega,fun _=>by omega⟩
 | false=>rw [if_neg (by decide),Bo hx]; exact ⟨by omega,fun h=>by cases h⟩
theorem Vr {os:List Du} {fl:List Int}:∀ k,k≤os.length→EF os (fl.take os.length) k=EF os fl k:=fun k hk=>Cu fun i hi=>by
 rw [List.getD_eq_getElem?_getD (l:=fl.take os.length),List.getD_eq_getElem?_getD (l:=fl),List.getElem?_take,if_pos (by omega)]
def Aa8:List Du→List Int→List Int→List Int
 | [],_,_=>[]
 | _::_,[],ys=>ys
 | d::os,x::xs,ys=>if d.am=x then x::Aa8 os xs ys else match ys with
  | []=>x::Aa8 os xs []
  | y::ys=>(x+y)::Aa8 os xs ys
def QJ:List Du→List Int→List Du
 | [],_=>[]
 | d::ds,[]=>d::ds
 | d::ds,x::xs=>if d.am=x then QJ ds xs else { d with am:=d.am - x }::QJ ds xs
theorem Mb:∀ (ds:List Du) (xs:List Int),opn (DI ds xs)=QJ (opn ds) xs
 | [],xs=>by cases xs <;> rfl
 | d::ds,xs=>by
  by_cases hh:d.held=true
  ·rw [Gm hh,E5,E5,if_pos hh,List.nil_append,List.nil_append,Mb ds xs]
  ·cases xs with
   | nil =>
    rw [MO,E5,if_neg hh];rfl
   | cons x xs =>
    rw [Gn hh,E5,if_neg hh]
    by_cases ha:d.am=x
    ·rw [if_pos ha,List.nil_append,Mb ds xs];show _=(if d.am=x then _ else _);rw [if_pos ha];rfl
    ·rw [if_neg ha];show opn ({ d with am:=d.am - x }::DI ds xs)=(if d.am=x then _ else _);rw [if_neg ha,E5,if_neg (show ¬ ({ d with am:=d.am - x }:Du).held=true from hh),Mb ds xs];rfl
end Go.Proofs.YtdagmpmdcgedcaaGreat
namespace Go.Proofs.YtdagmpmdcgedcaaGreat
open Go.GV
theorem QK {os:List Du} {xs:List Int}:∀ k,k≤os.length→os.length≤xs.length→EF os xs k=Ch ((List.zipWith (fun d x=>d.we*x) os xs).take k)
 | 0,_,_=>rfl
 | k+1,h,hl=>by
  obtain ⟨d,hd⟩:=A8 (l:=os) (i:=k);obtain ⟨x,hx⟩:=A8 (l:=xs) (i:=k);rw [Kp hd hx,QK k (by omega) hl,IU (x:=d.we*x) (by rw [List.getElem?_zipWith,hd,hx])]
theorem Nu {os:List Du} {xs:List Int} (hl:os.length≤xs.length):EF os xs os.length=Ch (List.zipWith (fun d x=>d.we*x) os xs):=by
 rw [QK _ (Nat.le_refl _) hl,List.take_of_length_le (by rw [List.length_zipWith]; omega)]
theorem Ps {f:Du→Int→Int}:∀ {os:List Du} {xs:List Int},List.zipWith f os (xs.take os.length)=List.zipWith f os xs
 | [],xs=>by cases xs <;> rfl
 | d::os,[]=>rfl
 | d::os,x::xs=>by
  show f d x::List.zipWith f os (xs.take os.length)=_;rw [Ps];rfl
theorem Mc:∀ {ds:List Du} {xs:List Int} {e:Du},e∈DI ds xs→∃ d∈ds,e.fr=d.fr∧e.to=d.to∧e.we=d.we
 | [],_,_,h=>by cases h
 | d::ds,[],e,h=>⟨e,h,rfl,rfl,rfl⟩
 | d::ds,x::xs,e,h=>by
  unfold DI at h
  split at h
  ·rcases List.mem_cons.1 h with rfl | h
   ·exact ⟨_,List.mem_cons_self ..,rfl,rfl,rfl⟩
   ·obtain ⟨d',h1,h2⟩:=Mc h;exact ⟨d',List.mem_cons_of_mem _ h1,h2⟩
  ·split at h
   ·obtain ⟨d',h1,h2⟩:=Mc h;exact ⟨d',List.mem_cons_of_mem _ h1,h2⟩
   ·rcases List.mem_cons.1 h with rfl | h
    ·exact ⟨_,List.mem_cons_self ..,rfl,rfl,rfl⟩
    ·obtain ⟨d',h1,h2⟩:=Mc h;exact ⟨d',List.mem_cons_of_mem _ h1,h2⟩
theorem planF {acs:List Ac} {ds:List Du} {net:Bool} {r:Rnd} (P:PlanR acs ds net r):RndF (acs.map Dq) ds net r :=
 ⟨by rw [P.N,List.length_map],P.es,P.chk⟩
theorem TT {acs:List Ac} {ds:List Du} {nx:Int} {r:Rnd} (ha:Ef acs=0) (hd:ofC ds nx=0) (hC:EE acs ds r=0):Bright ((GK acs ds r).map Dq) (Gq acs ds r):=by
 have F:=HM ha hd hC;obtain ⟨h1,h2,h3⟩:=MP (r:=r) ha hd;refine Lo h1 h2 fun d hdm=>?_;unfold Gq at hdm;rw [if_pos hC] at hdm;obtain ⟨d',h4,h5,h6,-⟩:=Mc hdm;have h7:=(F.B.due d' h4).2;rw [List.length_map] at h7;rw [h3];omega
end Go.Proofs.YtdagmpmdcgedcaaGreat
namespace Go.Proofs.YtdagmpmdcgedcaaGreat
open Go.GV
structure Ak where
 kd:Int
 a:Int
 b:Int
 x:Int
 w:Int
 u:Int
 id:Int
structure Ld where
 day:Int
 acs:List Ac
 ds:List Du
 nx:Int
 rn:List Rnd
 no:Int
def N6 (r:Rnd):Bool:=Fy r.N r.es r.fl r.pot && (decide (r.ids.length≤64) && decide (0≤r.day))
structure Ld.Ok (s:Ld):Prop where
 ac:Ef s.acs=0
 du:ofC s.ds s.nx=0
 bk:∀ d∈s.ds,d.fr<s.acs.length∧d.to<s.acs.length
 day:0≤s.day∧s.day≤9223372036854775807
 kept:s.rn.length≤4∧(s.rn.length:Int)≤s.no∧s.no≤4611686018427387904
 nos:∀ (i:Nat) (r:Rnd),s.rn[i]? = some r→r.no=s.no - s.rn.length+1+i
 may:∀ r∈s.rn,N6 r=true
def bas (acs:List Ac):List Int:=acs.map Ac.ba
def Kr (acs:List Ac) (k:Int) (a:Ac):List Ac:=acs.set k.toNat a
def FO (acs:List Ac) (k x:Int):Int:=if inA acs k=false then 10 else if (decide (0<x) && CY x)=false then 1 else if (ED (bas acs++[x])).2≠0 then 13 else 0
def E8 (acs:List Ac) (k x:Int):List Ac:=if FO acs k x=0 then Kr acs k ⟨(Dd acs k).ba+x,(Dd acs k).re⟩ else acs
def FP (acs:List Ac) (k x:Int):Int:=if inA acs k=false then 10 else if (decide (0<x) && CY x)=false then 1 else if (Dd acs k).ba<x then 12 else 0
def EA (acs:List Ac) (k x:Int):List Ac:=if FP acs k x=0 then Kr acs k ⟨(Dd acs k).ba - x,(Dd acs k).re⟩ else acs
def Md (acs:List Ac) (k x:Int):Int:=if inA acs k=false then 10 else if CY x=false then 1 else 0
def GL (acs:List Ac) (k x:Int):List Ac:=if Md acs k x=0 then Kr acs k ⟨(Dd acs k).ba,x⟩ else acs
theorem Ev {acs:List Ac} {k:Int}:inA acs k=true↔0≤k∧k<acs.length:=by
 unfold inA;rw [Bool.and_eq_true,decide_eq_true_eq,decide_eq_true_eq]
theorem Fo {acs:List Ac} {k:Int} (h:inA acs k=true):acs[k.toNat]? = some (Dd acs k):=by
 have h1:=Ev.1 h;obtain ⟨a,ha⟩:=A8 (l:=acs) (i:=k.toNat);unfold Dd;rw [if_pos h,ha,Bo ha]
theorem Me {xs:List Int}:∀ {i:Nat} {x y:Int},xs[i]? = some x→Ch (xs.set i y)=Ch xs - x+y:=by
 induction xs with
 | nil=>intro i x y h; cases h
 | cons z xs ih =>
  intro i x y h
  cases i with
  | zero =>
   simp only [List.getElem?_cons_zero,Option.some.injEq] at h;subst h;rw [List.set_cons_zero,BN,BN];omega
  | succ i =>
   rw [List.set_cons_succ,BN,BN,ih (show xs[i]? = some x from h)];omega
theorem Mf (acs:List Ac) (k:Int) (a:Ac):bas (Kr acs k a)=(bas acs).set k.toNat a.ba:=by
 unfold bas Kr;rw [List.map_set]
theorem Mg (acs:List Ac) (k:Int) (a:Ac):(Kr acs k a).length=acs.length:=by unfold Kr; rw [List.length_set]
theorem Sp {acs:List Ac} {k:Int} {a:Ac} (h:Ef acs=0) (hk:inA acs k=true) (hm:Im a=true) (hs:Ch (bas acs) - (Dd acs k).ba+a.ba≤4503599627370496):Ef (Kr acs k a)=0:=by
 obtain ⟨h1,h2,h3⟩:=BZ.1 h;have h4:=Dj.1 h3;have hg:(bas acs)[k.toNat]? = some (Dd acs k).ba:=by unfold bas; rw [List.getElem?_map,Fo hk]; rfl
 refine BZ.2 ⟨by rw [Mg]; exact h1,fun b hb=>?_,Dj.2 ⟨fun x hx=>?_,?_⟩⟩
 ·unfold Kr at hb
  rcases List.mem_or_eq_of_mem_set hb with h5 | rfl
  ·exact h2 b h5
  ·exact hm
 ·change x∈bas (Kr acs k a) at hx
  rw [Mf] at hx
  rcases List.mem_or_eq_of_mem_set hx with h5 | rfl
  ·exact h4.1 x h5
  ·exact CE.2 (EQ.1 hm).1
 ·change Ch (bas (Kr acs k a))≤_
  rw [Mf,Me hg];exact hs
theorem IY {acs:List Ac} {k:Int} (h:Ef acs=0) (hk:inA acs k=true):(0≤(Dd acs k).ba∧(Dd acs k).ba≤4503599627370496)∧0≤(Dd acs k).re∧(Dd acs k).re≤4503599627370496 :=
 EQ.1 ((BZ.1 h).2.1 _ (List.mem_of_getElem? (Fo hk)))
theorem Vs {acs:List Ac} (h:Ef acs=0):(∀ x∈bas acs,CY x=true)∧Ch (bas acs)≤4503599627370496:=Dj.1 (BZ.1 h).2.2
theorem J3 (acs:List Ac) (k x:Int):(FO acs k x≠0∧E8 acs k x=acs)∨(FO acs k x=0∧inA acs k=true∧0<x∧CY x=true∧(ED (bas acs++[x])).2=0∧E8 acs k x=Kr acs k ⟨(Dd acs k).ba+x,(Dd acs k).re⟩):=by
 by_cases h:FO acs k x=0
 ·refine .inr ⟨h,?_⟩;have h2:=h;unfold FO at h2
  cases h3:inA acs k with
  | false=>rw [if_pos h3] at h2; cases h2
  | true =>
   rw [if_neg (by rw [h3]; decide)] at h2
   cases h4:(decide (0<x) && CY x) with
   | false=>rw [if_pos h4] at h2; cases h2
   | true =>
    rw [if_neg (by rw [h4]; decide)] at h2;rw [Bool.and_eq_true,decide_eq_true_eq] at h4
    by_cases h5:(ED (bas acs++[x])).2≠0
    ·rw [if_pos h5] at h2; cases h2
    ·refine ⟨rfl,h4.1,h4.2,by omega,?_⟩;unfold E8;rw [if_pos h]
 ·refine .inl ⟨h,?_⟩;unfold E8;rw [if_neg h]
theorem W4 {acs:List Ac} (h:Ef acs=0) (k x:Int):Ef (E8 acs k x)=0∧(E8 acs k x).length=acs.length∧Ch (bas (E8 acs k x))=Ch (bas acs)+(if FO acs k x=0 then x else 0):=by
 rcases J3 acs k x with ⟨h1,h2⟩ | ⟨h1,hk,hx,hm,ht,h2⟩
 ·rw [h2,if_neg h1];exact ⟨h,rfl,by omega⟩
 ·have hg:=IY h hk;have h3:=(Dj.1 ht).2;rw [E7,BN] at h3;have h4:Ch ([]:List Int)=0:=rfl;have hmem:(Dd acs k).ba∈bas acs:=List.mem_map_of_mem (List.mem_of_getElem? (Fo hk));have h5:=TK (fun y hy=>(CE.1 ((Vs h).1 y hy)).1) _ hmem;have hx2:=CE.1 hm;rw [h2,if_pos h1];refine ⟨Sp h hk (EQ.2 ⟨⟨by dsimp only; omega,by dsimp only; omega⟩,hg.2⟩) (by dsimp only; omega),Mg ..,?_⟩;rw [Mf,Me (x:=(Dd acs k).ba) (by unfold bas; rw [List.getElem?_map,Fo hk]; rfl)];dsimp only;omega
theorem Lq (acs:List Ac) (k x:Int):(FP acs k x≠0∧EA acs k x=acs)∨(FP acs k x=0∧inA acs k=true∧0<x∧CY x=true∧x≤(Dd acs k).ba∧EA acs k x=Kr acs k ⟨(Dd acs k).ba - x,(Dd acs k).re⟩):=by
 by_cases h:FP acs k x=0
 ·refine .inr ⟨h,?_⟩;have h2:=h;unfold FP at h2
  cases h3:inA acs k with
  | false=>rw [if_pos h3] at h2; cases h2
  | true =>
   rw [if_neg (by rw [h3]; decide)] at h2
   cases h4:(decide (0<x) && CY x) with
   | false=>rw [if_pos h4] at h2; cases h2
   | true =>
    rw [if_neg (by rw [h4]; decide)] at h2;rw [Bool.and_eq_true,decide_eq_true_eq] at h4
    by_cases h5:(Dd acs k).ba<x
    ·rw [if_pos h5] at h2; cases h2
    ·refine ⟨rfl,h4.1,h4.2,by omega,?_⟩;unfold EA;rw [if_pos h]
 ·refine .inl ⟨h,?_⟩;unfold EA;rw [if_neg h]
theorem W5 {acs:List Ac} (h:Ef acs=0) (k x:Int):Ef (EA acs k x)=0∧(EA acs k x).length=acs.length∧Ch (bas (EA acs k x))=Ch (bas acs) - (if FP acs k x=0 then x else 0):=by
 rcases Lq acs k x with ⟨h1,h2⟩ | ⟨h1,hk,hx,hm,hle,h2⟩
 ·rw [h2,if_neg h1];exact ⟨h,rfl,by omega⟩
 ·have hg:=IY h hk;have h3:=(Vs h).2;rw [h2,if_pos h1];refine ⟨Sp h hk (EQ.2 ⟨⟨by dsimp only; omega,by dsimp only; omega⟩,hg.2⟩) (by dsimp only; omega),Mg ..,?_⟩;rw [Mf,Me (x:=(Dd acs k).ba) (by unfold bas; rw [List.getElem?_map,Fo hk]; rfl)];dsimp only;omega
theorem QL (acs:List Ac) (k x:Int):(Md acs k x≠0∧GL acs k x=acs)∨(Md acs k x=0∧inA acs k=true∧CY x=true∧GL acs k x=Kr acs k ⟨(Dd acs k).ba,x⟩):=by
 by_cases h:Md acs k x=0
 ·refine .inr ⟨h,?_⟩;have h2:=h;unfold Md at h2
  cases h3:inA acs k with
  | false=>rw [if_pos h3] at h2; cases h2
  | true =>
   rw [if_neg (by rw [h3]; decide)] at h2
   cases h4:CY x with
   | false=>rw [if_pos h4] at h2; cases h2
   | true =>
    refine ⟨rfl,rfl,?_⟩;unfold GL;rw [if_pos h]
 ·refine .inl ⟨h,?_⟩;unfold GL;rw [if_neg h]
theorem Aa9 {acs:List Ac} (h:Ef acs=0) (k x:Int):Ef (GL acs k x)=0∧(GL acs k x).length=acs.length∧Ch (bas (GL acs k x))=Ch (bas acs):=by
 rcases QL acs k x with ⟨h1,h2⟩ | ⟨h1,hk,hm,h2⟩
 ·rw [h2];exact ⟨h,rfl,rfl⟩
 ·have hg:=IY h hk;have h3:=(Vs h).2;have hx:=CE.1 hm;rw [h2];refine ⟨Sp h hk (EQ.2 ⟨hg.1,hx⟩) (by dsimp only; omega),Mg ..,?_⟩;rw [Mf,Me (x:=(Dd acs k).ba) (by unfold bas; rw [List.getElem?_map,Fo hk]; rfl)];dsimp only;omega
theorem Aba {acs:List Ac} (h:Ef acs=0) (hl:acs.length<16):Ef (acs++[a00])=0∧Ch (bas (acs++[a00]))=Ch (bas acs):=by
 obtain ⟨h1,h2,h3⟩:=BZ.1 h;have h4:=Dj.1 h3
 have h5:Ch ((acs++[a00]).map Ac.ba)=Ch (acs.map Ac.ba):=by
  rw [List.map_append,E7];show Ch (acs.map Ac.ba)+0=_;omega
 refine ⟨BZ.2 ⟨by rw [List.length_append,List.length_singleton]; omega,fun b hb=>?_,Dj.2 ⟨fun x hx=>?_,by rw [h5]; exact h4.2⟩⟩,h5⟩
 ·rcases List.mem_append.1 hb with h6 | h6
  ·exact h2 b h6
  ·rw [List.mem_singleton.1 h6]; decide
 ·rw [List.map_append] at hx
  rcases List.mem_append.1 hx with h6 | h6
  ·exact h4.1 x h6
  ·rw [List.mem_singleton.1 h6]; decide
def Abb (nx fr to x w u:Int):Du:=⟨nx,fr,to,x,w,u,false⟩
def J4 (ds:List Du) (nx fr to x w u:Int):Int:=if DY (Abb nx fr to x w u)=false then 1 else if 64≤ds.length∨4611686018427387904≤nx then 6 else if (ED (ds.map Du.am++[x])).2≠0 then 13 else 0
def MR (ds:List Du) (nx fr to x w u:Int):List Du:=if J4 ds nx fr to x w u=0 then ds++[Abb nx fr to x w u] else ds
def Pt (ds:List Du) (nx fr to x w u:Int):Int:=if J4 ds nx fr to x w u=0 then nx+1 else nx
def Mi (ds:List Du) (k:Int) (b:Bool):Int:=match CN ds k with
 | none=>11
 | some d=>if d.held=b then 14 else 0
def I6 (ds:List Du) (k:Int) (b:Bool):List Du:=if Mi ds k b=0 then ds.map fun d=>if d.id=k then { d with held:=b } else d else ds
def PK (ds:List Du) (k:Int):Int:=match CN ds k with
 | none=>11
 | some _=>0
def Sq (ds:List Du) (k:Int):List Du:=ds.filter fun d => !decide (d.id=k)
def MS (ds:List Du) (u:Int):List Du:=ds.filter fun d=>decide (u≤d.un)
theorem Ep {ds:List Du} {nx:Int} (h:ofC ds nx=0):ds.length≤64∧(1≤nx∧nx≤4611686018427387904)∧F7 nx 0 ds=true∧Ch (ds.map Du.am)≤4503599627370496:=by
 obtain ⟨h1,h2,h3,h4⟩:=Fm.1 h;exact ⟨h1,h2,h3,(Dj.1 h4).2⟩
theorem Sr {nx:Int}:∀ {ah:Int} {ds:List Du},F7 nx ah ds=true↔(∀ d∈ds,DY d=true∧ah<d.id∧d.id<nx)∧(ds.map Du.id).Pairwise (·<·)
 | ah,[]=>⟨fun _=>⟨fun _ h=>(by cases h),List.Pairwise.nil⟩,fun _=>rfl⟩
 | ah,x::ds=>by
  simp only [F7,Bool.and_eq_true,decide_eq_true_eq,List.map_cons,List.pairwise_cons];rw [Sr];constructor
  ·rintro ⟨⟨h1,h2,h3⟩,h4,h5⟩;refine ⟨fun d hd=>?_,fun y hy=>?_,h5⟩
   ·rcases List.mem_cons.1 hd with rfl | hd
    ·exact ⟨h1,h2,h3⟩
    ·obtain ⟨g1,g2,g3⟩:=h4 d hd;exact ⟨g1,by omega,g3⟩
   ·obtain ⟨d,hd,rfl⟩:=List.mem_map.1 hy;exact (h4 d hd).2.1
  ·rintro ⟨h1,h2,h3⟩;obtain ⟨g1,g2,g3⟩:=h1 x (List.mem_cons_self ..);refine ⟨⟨g1,g2,g3⟩,fun d hd=>?_,h3⟩;obtain ⟨k1,-,k3⟩:=h1 d (List.mem_cons_of_mem _ hd);exact ⟨k1,h2 _ (List.mem_map_of_mem hd),k3⟩
theorem Ss {ds:List Du} {nx:Int} (h1:ds.length≤64) (h2:1≤nx∧nx≤4611686018427387904) (h3:∀ d∈ds,DY d=true∧0<d.id∧d.id<nx) (h4:(ds.map Du.id).Pairwise (·<·)) (h5:Ch (ds.map Du.am)≤4503599627370496):ofC ds nx=0:=by
 refine Fm.2 ⟨h1,h2,Sr.2 ⟨h3,h4⟩,Dj.2 ⟨fun x hx=>?_,h5⟩⟩;obtain ⟨d,hd,rfl⟩:=List.mem_map.1 hx;have:=Dc (h3 d hd).1;exact CE.2 (by omega)
theorem Ga {ds:List Du} {nx:Int} (h:ofC ds nx=0):(∀ d∈ds,DY d=true∧0<d.id∧d.id<nx)∧(ds.map Du.id).Pairwise (·<·):=Sr.1 (Ep h).2.2.1
theorem Pu (p:Du→Bool):∀ {ds:List Du},(∀ d∈ds,0≤d.am)→Ch ((ds.filter p).map Du.am)≤Ch (ds.map Du.am)
 | [],_=>Int.le_refl _
 | d::ds,h=>by
  have ih:=Pu p (ds:=ds) fun e he=>h e (List.mem_cons_of_mem _ he);have h0:=h d (List.mem_cons_self ..);rw [List.filter_cons]
  split
  ·rw [List.map_cons,List.map_cons,BN,BN]; omega
  ·rw [List.map_cons,BN]; omega
theorem QM {ds:List Du} {nx:Int} (h:ofC ds nx=0) (p:Du→Bool):ofC (ds.filter p) nx=0:=by
 obtain ⟨h1,h2,-,h4⟩:=Ep h;obtain ⟨h5,h6⟩:=Ga h;have h7:(ds.filter p).Sublist ds:=List.filter_sublist;refine Ss (Nat.le_trans h7.length_le h1) h2 (fun d hd=>h5 d (h7.subset hd)) ?_ (Int.le_trans (Pu p fun d hd=>by have:=Dc (h5 d hd).1; omega) h4);exact h6.sublist (h7.map _)
theorem Aj6 {ds:List Du} {nx:Int} (h:ofC ds nx=0) (fr to x w u:Int):ofC (MR ds nx fr to x w u) (Pt ds nx fr to x w u)=0:=by
 unfold MR Pt
 by_cases hC:J4 ds nx fr to x w u=0
 ·rw [if_pos hC,if_pos hC];unfold J4 at hC
  cases hm:DY (Abb nx fr to x w u) with
  | false=>rw [if_pos hm] at hC; cases hC
  | true =>
   rw [if_neg (by rw [hm]; decide)] at hC
   by_cases hl:64≤ds.length∨4611686018427387904≤nx
   ·rw [if_pos hl] at hC; cases hC
   ·rw [if_neg hl] at hC
    by_cases ht:(ED (ds.map Du.am++[x])).2≠0
    ·rw [if_pos ht] at hC; cases hC
    ·obtain ⟨h1,h2,-,h4⟩:=Ep h;obtain ⟨h5,h6⟩:=Ga h;have h7:=(Dj.1 (show (ED (ds.map Du.am++[x])).2=0 by omega)).2;refine Ss (by rw [List.length_append,List.length_singleton]; omega) (by omega) (fun d hd=>?_) ?_ (by rw [List.map_append]; exact h7)
     ·rcases List.mem_append.1 hd with h8 | h8
      ·obtain ⟨g1,g2,g3⟩:=h5 d h8;exact ⟨g1,g2,by omega⟩
      ·rw [List.mem_singleton.1 h8];exact ⟨hm,by show 0<nx; omega,by show nx<nx+1; omega⟩
     ·rw [List.map_append,List.pairwise_append];refine ⟨h6,List.pairwise_singleton ..,fun y hy z hz=>?_⟩;obtain ⟨d,hd,rfl⟩:=List.mem_map.1 hy;have hz':z=nx:=by simpa [Abb] using hz
      rw [hz'];exact (h5 d hd).2.2
 ·rw [if_neg hC,if_neg hC];exact h
theorem Abc {ds:List Du} {nx:Int} (h:ofC ds nx=0) (k:Int) (b:Bool):ofC (I6 ds k b) nx=0:=by
 unfold I6
 split
 ·obtain ⟨h1,h2,-,h4⟩:=Ep h;obtain ⟨h5,h6⟩:=Ga h
  have hid:(ds.map fun d=>if d.id=k then { d with held:=b } else d).map Du.id=ds.map Du.id:=by
   rw [List.map_map];refine List.map_congr_left fun d _=>?_;show (if d.id=k then ({ d with held:=b }:Du) else d).id=d.id
   split <;> rfl
  have ham:(ds.map fun d=>if d.id=k then { d with held:=b } else d).map Du.am=ds.map Du.am:=by
   rw [List.map_map];refine List.map_congr_left fun d _=>?_;show (if d.id=k then ({ d with held:=b }:Du) else d).am=d.am
   split <;> rfl
  refine Ss (by rw [List.length_map]; exact h1) h2 (fun e he=>?_) (by rw [hid]; exact h6) (by rw [ham]; exact h4);obtain ⟨d,hd,rfl⟩:=List.mem_map.1 he;obtain ⟨g1,g2,g3⟩:=h5 d hd
  split
  ·exact ⟨g1,g2,g3⟩
  ·exact ⟨g1,g2,g3⟩
 ·exact h
theorem Abd {ds:List Du} {k:Int} {b:Bool} {n:Nat} (h:∀ d∈ds,d.fr<(n:Int)∧d.to<(n:Int)) {e:Du} (he:e∈I6 ds k b):e.fr<(n:Int)∧e.to<(n:Int):=by
 unfold I6 at he
 split at he
 ·obtain ⟨d,hd,rfl⟩:=List.mem_map.1 he
  split
  ·exact h d hd
  ·exact h d hd
 ·exact h e he
end Go.Proofs.YtdagmpmdcgedcaaGreat
namespace Go.Proofs.YtdagmpmdcgedcaaGreat
open Go.GV
def IZ (xs:List Int) (k:Nat):Int:=B7 (fun i=>one (0<xs.getD i 0)) k
def JC (rn:List Rnd) (r:Rnd):List Rnd:=(rn++[r]).drop (rn.length - 3)
theorem TU {rn:List Rnd} (h:rn.length≤4) (r:Rnd):(JC rn r).length=min (rn.length+1) 4:=by
 unfold JC;rw [List.length_drop,List.length_append,List.length_singleton];omega
theorem Abe {rn:List Rnd} {r x:Rnd} (h:x∈JC rn r):x∈rn∨x=r:=by
 have h1:=List.mem_of_mem_drop h
 rcases List.mem_append.1 h1 with h2 | h2
 ·exact .inl h2
 ·exact .inr (List.mem_singleton.1 h2)
def MT (s:Ld) (r:Rnd):Ld:=⟨s.day,GK s.acs s.ds r,Gq s.acs s.ds r,s.nx,JC s.rn { r with no:=s.no+1,day:=s.day },s.no+1⟩
theorem Vt {s:Ld} (h:s.Ok) {net:Bool} {r:Rnd} (P:PlanR s.acs s.ds net r) (hno:s.no<4611686018427387904:=by omega):EE s.acs s.ds r=0∧(MT s r).Ok:=by
 have hBr:=Lo h.ac h.du h.bk;have hol:=Ip s.ds;have h64:=hBr.m64;have hC:EE s.acs s.ds r=0:=XQ ((HK).2 hBr) P;obtain ⟨h1,h2,h3⟩:=MP (r:=r) h.ac h.du;have hB2:=TT h.ac h.du hC;obtain ⟨k1,k2,k3⟩:=h.kept;have hkl:=TU k1 { r with no:=s.no+1,day:=s.day };refine ⟨hC,⟨h1,h2,fun d hd=>?_,h.day,⟨by show (JC _ _).length≤4; omega,by show ((JC _ _).length:Int)≤s.no+1; omega,by show s.no+1≤_; omega⟩,fun i x hx=>?_,fun x hx=>?_⟩⟩
 ·have:=(hB2.due d hd).2;rw [List.length_map] at this;exact this
 ·change (JC s.rn { r with no:=s.no+1,day:=s.day })[i]? = some x at hx
  show x.no=s.no+1 - ((JC s.rn { r with no:=s.no+1,day:=s.day }).length:Nat)+1+i;have hi:=Ck hx;rw [hkl] at hi ⊢;unfold JC at hx;rw [List.getElem?_drop] at hx
  rcases Nat.lt_or_ge (s.rn.length - 3+i) s.rn.length with h5 | h5
  ·rw [List.getElem?_append_left h5] at hx;have:=h.nos _ x hx;omega
  ·rw [List.getElem?_append_right h5] at hx;have h6:s.rn.length - 3+i - s.rn.length=0:=by omega
   rw [h6] at hx;cases hx;show s.no+1=_;omega
 ·rcases Abe hx with h5 | rfl
  ·exact h.may x h5
  ·unfold N6;dsimp only;have hids:r.ids.length=(opn s.ds).length:=by rw [P.ids,List.length_map]
   rw [P.chk,decide_eq_true (show r.ids.length≤64 by omega),decide_eq_true h.day.1];rfl
end Go.Proofs.YtdagmpmdcgedcaaGreat
namespace Go.Proofs.YtdagmpmdcgedcaaGreat
open Go.GV
structure Rp where
 e:Int
 n:List Int
def rp (l:List Int) (e:Int):Rp:=if e=0 then ⟨0,l⟩ else ⟨e,[]⟩
theorem TV {l:List Int} {e:Int} (h:e≠0):rp l e=⟨e,[]⟩:=if_neg h
theorem rp_e (l:List Int) (e:Int):(rp l e).e=e:=by
 unfold rp
 split
 ·rename_i h; exact h.symm
 ·rfl
def PL (acs:List Ac) (k:Int):List Int:=[(Dd acs k).ba,(Dd acs k).re]
def Nv (b:Bool):Int:=if b=true then 1 else 0
def TW (s:Ld) (k:Int):Option Rnd:=if k≤s.no∧s.no - k<s.rn.length then s.rn[(k - (s.no - s.rn.length+1)).toNat]? else none
def Lr (r:Rnd) (b:Int):Rp :=
 if b < -1∨(r.es.length:Int)+r.N≤b then ⟨1,[]⟩
 else if b = -1 then ⟨0,[r.day,Nv r.cmp,r.N,r.es.length,r.ids.length]⟩
 else if (r.es.length:Int)≤b then ⟨0,[r.pot.getD (b - r.es.length).toNat 0]⟩
 else ⟨0,[(r.es.getD b.toNat e0).f,(r.es.getD b.toNat e0).t,(r.es.getD b.toNat e0).cap,(r.es.getD b.toNat e0).cost,r.fl.getD b.toNat 0,if b<r.ids.length then IntKind.i64.wrap (r.ids.getD b.toNat 0) else 0]⟩
def EN (s:Ld) (a:Ak):Ld :=
 if a.kd=1 then (if s.acs.length<16 then { s with acs:=s.acs++[a00] } else s)
 else if a.kd=2 then { s with acs:=E8 s.acs a.a a.x }
 else if a.kd=3 then { s with acs:=EA s.acs a.a a.x }
 else if a.kd=4 then { s with acs:=GL s.acs a.a a.x }
 else if a.kd=5 then (if (inA s.acs a.a && inA s.acs a.b)=true∧s.day≤a.u then { s with ds:=MR s.ds s.nx a.a a.b a.x a.w a.u,nx:=Pt s.ds s.nx a.a a.b a.x a.w a.u } else s)
 else if a.kd=6 then { s with ds:=I6 s.ds a.id true }
 else if a.kd=7 then { s with ds:=I6 s.ds a.id false }
 else if a.kd=8 then { s with ds:=Sq s.ds a.id }
 else if a.kd=9 then (if s.day≤a.u then { s with day:=a.u,ds:=MS s.ds a.u } else s)
 else s
def Fq (s:Ld) (a:Ak):Rp :=
 if a.kd=1 then rp [s.acs.length] (if s.acs.length<16 then 0 else 6)
 else if a.kd=2 then rp (PL (E8 s.acs a.a a.x) a.a) (FO s.acs a.a a.x)
 else if a.kd=3 then rp (PL (EA s.acs a.a a.x) a.a) (FP s.acs a.a a.x)
 else if a.kd=4 then rp (PL (GL s.acs a.a a.x) a.a) (Md s.acs a.a a.x)
 else if a.kd=5 then (if (inA s.acs a.a && inA s.acs a.b)=false then ⟨10,[]⟩ else if a.u<s.day then ⟨1,[]⟩ else rp [IntKind.i64.wrap s.nx] (J4 s.ds s.nx a.a a.b a.x a.w a.u))
 else if a.kd=6 then rp [] (Mi s.ds a.id true)
 else if a.kd=7 then rp [] (Mi s.ds a.id false)
 else if a.kd=8 then rp [] (PK s.ds a.id)
 else if a.kd=9 then (if a.u<s.day then ⟨3,[]⟩ else ⟨0,[((s.ds.length - (MS s.ds a.u).length:Nat):Int)]⟩)
 else if a.kd=12 then (if inA s.acs a.a=true then ⟨0,PL s.acs a.a⟩ else ⟨10,[]⟩)
 else if a.kd=13 then (if inA s.acs a.a=true then ⟨0,[Ko s.acs s.ds a.a.toNat]⟩ else ⟨10,[]⟩)
 else if a.kd=14 then (match CN s.ds a.id with
  | none=>⟨11,[]⟩
  | some d=>⟨0,[d.fr,d.to,d.am,d.we,d.un,Nv d.held]⟩)
 else if a.kd=15 then (match TW s a.id with
  | none=>⟨4,[]⟩
  | some r=>Lr r a.b)
 else ⟨1,[]⟩
def C6 (s:Ld) (a:Ak) (s':Ld) (p:Rp):Prop :=
 if a.kd=10∨a.kd=11 then
  (4611686018427387904≤s.no∧s'=s∧p=⟨6,[]⟩) ∨
  (s.no<4611686018427387904∧∃ r,PlanR s.acs s.ds (decide (a.kd=11)) r∧s'=MT s r ∧
   p=⟨0,[IntKind.i64.wrap (s.no+1),EF (opn s.ds) r.fl (opn s.ds).length,IZ (r.fl.take (opn s.ds).length) (opn s.ds).length]⟩)
 else s'=EN s a∧p=Fq s a
theorem J5 {s:Ld} (h:s.Ok) (a:Ak) (hu:a.u≤9223372036854775807):(EN s a).Ok:=by
 unfold EN
 split
 ·split
  ·rename_i hl
   exact ⟨(Aba h.ac hl).1,h.du,fun d hd=>by have:=h.bk d hd; show _<((s.acs++[a00]).length:Int)∧_<((s.acs++[a00]).length:Int); rw [List.length_append,List.length_singleton]; omega,h.day,h.kept,h.nos,h.may⟩
  ·exact h
 split
 ·obtain ⟨h1,h2,-⟩:=W4 h.ac a.a a.x;exact ⟨h1,h.du,fun d hd=>by show _<((E8 s.acs a.a a.x).length:Int)∧_<((E8 s.acs a.a a.x).length:Int); rw [h2]; exact h.bk d hd,h.day,h.kept,h.nos,h.may⟩
 split
 ·obtain ⟨h1,h2,-⟩:=W5 h.ac a.a a.x;exact ⟨h1,h.du,fun d hd=>by show _<((EA s.acs a.a a.x).length:Int)∧_<((EA s.acs a.a a.x).length:Int); rw [h2]; exact h.bk d hd,h.day,h.kept,h.nos,h.may⟩
 split
 ·obtain ⟨h1,h2,-⟩:=Aa9 h.ac a.a a.x;exact ⟨h1,h.du,fun d hd=>by show _<((GL s.acs a.a a.x).length:Int)∧_<((GL s.acs a.a a.x).length:Int); rw [h2]; exact h.bk d hd,h.day,h.kept,h.nos,h.may⟩
 split
 ·split
  ·rename_i hb
   refine ⟨h.ac,Aj6 h.du ..,fun d hd=>?_,h.day,h.kept,h.nos,h.may⟩
   change d∈MR s.ds s.nx a.a a.b a.x a.w a.u at hd
   unfold MR at hd
   split at hd
   ·rcases List.mem_append.1 hd with h1 | h1
    ·exact h.bk d h1
    ·rw [List.mem_singleton.1 h1];rw [Bool.and_eq_true] at hb;exact ⟨(Ev.1 hb.1.1).2,(Ev.1 hb.1.2).2⟩
   ·exact h.bk d hd
  ·exact h
 split
 ·exact ⟨h.ac,Abc h.du ..,fun d hd=>Abd h.bk hd,h.day,h.kept,h.nos,h.may⟩
 split
 ·exact ⟨h.ac,Abc h.du ..,fun d hd=>Abd h.bk hd,h.day,h.kept,h.nos,h.may⟩
 split
 ·exact ⟨h.ac,QM h.du _,fun d hd=>h.bk d (List.mem_filter.1 hd).1,h.day,h.kept,h.nos,h.may⟩
 split
 ·split
  ·rename_i hd
   exact ⟨h.ac,QM h.du _,fun d hd=>h.bk d (List.mem_filter.1 hd).1,⟨Int.le_trans h.day.1 hd,hu⟩,h.kept,h.nos,h.may⟩
  ·exact h
 ·exact h
def fundI (s:Ld) (a:Ak):Int:=(if a.kd=2∧FO s.acs a.a a.x=0 then a.x else 0) - (if a.kd=3∧FP s.acs a.a a.x=0 then a.x else 0)
end Go.Proofs.YtdagmpmdcgedcaaGreat
namespace Go.Proofs.YtdagmpmdcgedcaaGreat
open Go.GV
theorem CP {ds:List Du} {nx fr to x w u:Int} (h:J4 ds nx fr to x w u≠0):MR ds nx fr to x w u=ds∧Pt ds nx fr to x w u=nx:=by
 unfold MR Pt;rw [if_neg h,if_neg h];exact ⟨rfl,rfl⟩
theorem TX {ds:List Du} {k:Int} {b:Bool} (h:Mi ds k b≠0):I6 ds k b=ds:=by
 unfold I6;rw [if_neg h]
theorem Abf {ds:List Du} {k:Int} (h:PK ds k≠0):Sq ds k=ds:=by
 unfold PK at h;unfold Sq;rw [List.filter_eq_self];intro d hd
 cases hf:CN ds k with
 | some e=>rw [hf] at h; exact absurd rfl h
 | none =>
  have h1:=List.find?_eq_none.1 hf d hd
  simpa using h1
end Go.Proofs.YtdagmpmdcgedcaaGreat
namespace Go.Proofs.YtdagmpmdcgedcaaGreat
open Go.GV
attribute [local irreducible] AB W Wq Wt
abbrev AL (bd:Nat) (x1 x2:Nat × Obj) (a:Option Addr) (n c:Nat) (full:List Value):List (Nat × Obj):=(bd,Bl 162 [.slice a n c])::x1::x2::ent a 43 full
theorem XT {bd c:Nat} {x1 x2:Nat × Obj} {a:Option Addr} {full:List Value} {acs:List Ac} {S:List Nat} {w0 w:World} (H0:Ctx w0 S w (AL bd x1 x2 a acs.length c full)) (O:OS a acs.length c 2 full (acs.flatMap CM))  (hn:acs.length≤1000000:=by omega):
  Ret Tryz.prog 102 #[ptr bd] w fun v w'=>(16≤acs.length→v = .tuple #[.int .i64 0,.int .i64 6]∧Ctx w0 S w' (AL bd x1 x2 a acs.length c full)) ∧
   (acs.length<16→v = .tuple #[.int .i64 (acs.length:Int),.int .i64 0]∧∃ a' c' full',OS a' (acs++[a00]).length c' 2 full' ((acs++[a00]).flatMap CM)∧Ctx w0 S w' (AL bd x1 x2 a' (acs++[a00]).length c' full')):=by
 have H:=H0;refine Aw (fn:=Tryz.f102) Tryz.func102 U [.pointer (some ⟨bd,0,none⟩)] U (by kernel_rfl) ?_;refine Af (Ad U (Ad U (Ab (Aa (Aq (A0 (Af (Ay U (Co Nh U ?_)))))))));refine Ai U (Ab (Aa (Ap _ U ?_ ?_)))
 ·intro h0;cases h0
 ·intro h0;refine Af (Ay U (A9 U (Ag Ez U (AM Ek U H at0 U (Bi Dg U (C4 U U (Ai U (Ab (Aa (Ap _ U ?_ ?_))))))))))
  ·intro h1;replace h1:=AJ h1;refine Af (Ad U (Ad U (Ab (Aa (A4 (AA (Ao (BL (v1:=(.int _ _)) (v2:=(.int _ _)) U U U U ?_))))))));exact ⟨fun _=>⟨rfl,H⟩,fun h=>by omega⟩
  ·intro h1;replace h1:=AK h1;refine Au (A5 (Aa (Af (Ay U (Ay U (A9 U (Ag Ez U (AM Ek U H at0 U (B1 [.int .i64 0,.int .i64 0] Afy II (by kernel_rfl) ?_)))))))));refine Ct _ (.agg _) Dg Dx II U (by decide) (by decide) U U U H ?_;rintro b20 w - H;refine CA (L:=[_,_,_]) Dg Dg Dx Afp II U (by decide) U U H O U (fun v hv=>by simp [] at hv; rcases hv with rfl | rfl <;> rfl) ?_;rintro a' c' full' w H O;refine A9 U (Ag Ez U (Cp (.slice _ _ _) sz_26 U U U H at0 (by (simp; done)) ?_));rintro w H;refine Ab (Aa (Af (Ay U (A9 U (Ag Ez U (AM Ek U H at0 U (Bi Dg U (Br U U ?_))))))));refine Ad U (Ad U (Ab (Aa (A4 (BL (v1:=(.int _ _)) (v2:=(.int _ _)) U U U U ?_)))));refine ⟨fun h=>by omega,fun _=>⟨?_,a',c',full',?_,?_⟩⟩
   ·rw [show (((acs.length+1:Nat):Int) - 1)=(acs.length:Int) by omega]
   ·rw [List.flatMap_append,List.length_append]; exact O
   ·rw [List.length_append]; exact H
structure Qk where
 e:Int
 fid:FuncId
 cl:List Value
 b:Bool
abbrev MU (q:Qk):List Value:=[.int .i64 q.e,.func (.func q.fid) #[] q.cl.toArray]
theorem Abg (q:Qk):∀ v∈MU q,AO v=true:=by
 intro v hv
 rcases List.mem_cons.1 hv with rfl | hv
 ·rfl
 ·rw [List.mem_singleton.1 hv]; rfl
def Nw:List Qk→Int
 | []=>0
 | q::qs=>if q.b=false then q.e else Nw qs
theorem W6:∀ {qs:List Qk} {i:Nat} {q:Qk},qs[i]? = some q→q.b=false→(∀ (j:Nat) (p:Qk),j<i→qs[j]? = some p→p.b=true)→Nw qs=q.e
 | [],_,_,h,_,_=>by cases h
 | p::qs,0,q,h,hb,_=>by
  cases h;exact if_pos hb
 | p::qs,i+1,q,h,hb,ha=>by
  unfold Nw;rw [if_neg (by rw [ha 0 p (by omega) rfl]; decide)];exact W6 (show qs[i]? = some q from h) hb fun j r hj hr=>ha (j+1) r (by omega) hr
theorem TY:∀ {qs:List Qk},(∀ q∈qs,q.b=true)→Nw qs=0
 | [],_=>rfl
 | q::qs,h=>by
  unfold Nw;rw [if_neg (by rw [h q (List.mem_cons_self ..)]; decide)];exact TY fun p hp=>h p (List.mem_cons_of_mem _ hp)
def I8 (acs:List Ac) (k:Int) (qs:List Qk):Int:=if inA acs k=false then 10 else Nw qs
def AcsAt (w w':World) (a:Option Addr) (n c:Nat) (full:List Value) (acs:List Ac):Prop :=
 ∃ full',OS a n c 2 full' (acs.flatMap CM)∧(∀ x∈ent a 43 full',w'.heap[x.1]? = some x.2)∧Ext ((ent a 43 full).map (·.1)) w w'
set_option maxRecDepth 20000 in
set_option maxHeartbeats 1000000 in
theorem Pv {bd c cq:Nat} {a aq:Option Addr} {full:List Value} {acs:List Ac} {qs:List Qk} {k:Int} {fid:FuncId} {cl:List Value} {e:Ac} (w:World) (hd:w.heap[bd]? = some (Bl 162 [.slice a acs.length c])) (O:OS a acs.length c 2 full (acs.flatMap CM)) (hb:∀ x∈ent a 43 full,w.heap[x.1]? = some x.2)
  (Rq:Rd w aq 2 MU qs) (hql:qs.length≤1000) (hq:∀ q∈qs,Av Tryz.prog q.fid=true∧q.e≠0∧∀ w',Ext [] w w'→Ret Tryz.prog q.fid q.cl.toArray w' fun v w''=>v = .bool q.b∧Ext [] w' w'')
  (hfc:Av Tryz.prog fid=true) (hdo:∀ q w',a=some ⟨q,0,none⟩→inA acs k=true→Nw qs=0→Ext [] w w'→Ret Tryz.prog fid (Value.pointer (some ⟨q,0+k.toNat*2,none⟩)::cl).toArray w' fun _ w''=>∃ full',OS a acs.length c 2 full' ((Kr acs k e).flatMap CM)∧Ctx w' [q] w'' [(q,Bl 43 full')])  (hn:acs.length≤1000000:=by omega):
  Ret Tryz.prog 167 #[ptr bd,.int .i64 k,.func (.func fid) #[] cl.toArray,.slice aq qs.length cq] w fun v w'=>v = .int .i64 (I8 acs k qs) ∧
   AcsAt w w' a acs.length c full (if I8 acs k qs=0 then Kr acs k e else acs):=by
 obtain ⟨w1,rfl⟩:∃ w1,w1=w:=⟨_,rfl⟩;have H:=Ctx.start w1 [];have hsame:∀ w',Ext [] w1 w'→AcsAt w1 w' a acs.length c full acs:=fun w' hx=>⟨full,O,fun x hxm=>hx.to (hb x hxm) (by simp),hx.mono (by simp)⟩;unfold I8;refine Aw (fn:=Tryz.f167) Tryz.func167 U [.pointer (some ⟨bd,0,none⟩),.int .i64 k,.func (.func fid) #[] cl.toArray,.slice aq qs.length cq] U (by kernel_rfl) ?_;refine Af (Ad U (Ab (Aa (Aq (A0 (Af (Ay U (Co Nh U ?_))))))));refine Ai U (Ab (Aa (Ap _ U ?_ ?_)))
 ·intro h0;cases h0
 ·intro h0;refine Aq (Af (Ae U (Bj U U (Ai U (Ab (Aa (CX 14 U ?_ ?_)))))))
  ·intro h1;replace h1:=AJ h1
   have hi:inA acs k=false:=by cases h:inA acs k with | false=>rfl | true=>have:=Ev.1 h; omega
   refine Au (Aa (Dz U (Af (Ad U (Ab (Aa (A4 (AA (Ao (AD (v:=(.int _ _)) U U U ?_))))))))));rw [if_pos hi,if_neg (by decide)];exact ⟨rfl,hsame _ H.ext⟩
  ·intro h1;replace h1:=AK h1;refine Az (Ae U (Ay U (A9 U (Ag Ez U (AZ Ek U ((H.old (Aj hd _) (by simp))) ?_)))));refine Bi Dg U (C4 U U (Ai U (Ab (Aa (CX 14 U ?_ ?_)))))
   ·intro h2;replace h2:=AJ h2
    have hi:inA acs k=false:=by cases h:inA acs k with | false=>rfl | true=>have:=Ev.1 h; omega
    refine Af (Ad U (Ab (Aa (A4 (AA (Ao (AD (v:=(.int _ _)) U U U ?_)))))));rw [if_pos hi,if_neg (by decide)];exact ⟨rfl,hsame _ H.ext⟩
   ·intro h2;replace h2:=AK h2;have hi:inA acs k=true:=Ev.2 (by omega);rw [if_neg (by rw [hi]; decide)];refine Au (A5 (Aa (Aq (Af (A3 U (Bi OB U (Ae U (Ab (Aa (A0 (Bt 137371845888 (α:=Nat) (fun i=>[(26,.int .i64 (i:Int))]) (fun i w'=>i≤qs.length∧Ctx w1 [] w' []∧∀ (j:Nat) (p:Qk),j<i→qs[j]? = some p→p.b=true) (fun i=>qs.length - i) 0 U ?_ ?_ ?_)))))))))))
    ·exact ⟨rfl,trivial⟩
    ·exact ⟨Nat.zero_le _,H,fun j p h=>absurd h (Nat.not_lt_zero _)⟩
    ·clear H;rintro i ji w ⟨hii,H,hbb⟩;refine Af (Bj U U (Ab (Aa (Aq (Ap _ U ?_ ?_)))))
     ·intro h3;replace h3:=AJ h3;obtain ⟨q,hqi⟩:=A8 (l:=qs) (i:=i);obtain ⟨hqc,hqe,hqr⟩:=hq q (List.mem_of_getElem? hqi);refine Au (Aa (Aq (A0 (Af (AS Rq OB MD U U (by rfl) ?_)))));refine Cj _ Agn MD U U ((Rq.ext0 H.ext).row hqi U) ?_;refine AX Jp H ?_;rintro b10 w - H;refine Bm MD U U U (by exact Abg _) H at0 U ?_;rintro w H;refine Ab (Aa (Af (Ag Zi U (AM Afn U H at0 U (Fz U hqc (hqr _ H.ext) U ?_)))));rintro v w ⟨rfl,hx32⟩;replace H:=H.call hx32;refine BA U (Ab (Aa (Ap _ U ?_ ?_)))
      ·intro h4;replace h4:=BE h4
       have hqb:q.b=false:=by cases hh:q.b with | false=>rfl | true=>rw [hh] at h4; cases h4
       refine Af (Ag Zh U (AM Qq U H at0 U (Ad U (Ab (Aa (A4 (AA (Ao (Ao (AA (Ao (AD (v:=(.int _ _)) U U U ?_))))))))))));rw [W6 hqi hqb hbb,if_neg hqe];exact ⟨rfl,hsame _ H.ext⟩
      ·intro h4;replace h4:=BF h4
       have hqb:q.b=true:=by cases hh:q.b with | true=>rfl | false=>rw [hh] at h4; cases h4
       refine Au (A5 (Aa (Az (Ax U U ?_))));refine Ae U (Ab (Aa ?_))
       exact ⟨i+1,rfl,⟨rfl,trivial⟩,⟨by omega,H.tail,fun j p hj hp=>by
        rcases Nat.lt_or_ge j i with h5 | h5
        ·exact hbb j p h5 hp
        ·obtain rfl:j=i:=by omega
         rw [hqi] at hp;cases hp
         exact hqb⟩,by omega⟩
     ·intro h3;replace h3:=AK h3;obtain rfl:i=qs.length:=by omega
      have hC:Nw qs=0:=TY fun p hp=>by
       obtain ⟨j,hj⟩:=List.getElem?_of_mem hp;exact hbb j p (Ck hj) hj
      have hin:=Ev.1 hi;obtain ⟨q,hqa⟩:=O.form (by omega);subst hqa;refine Bq (Am (Am (AG (Aa (Af (Da U (.func _ _ _) U ?_))))));refine Ay U (A9 U (Ag Ez U (AZ Ek U ((H.old (Aj hd _) (by simp))) ?_)));refine Ae U (Bn Dg Dx U U ?_);refine Fz U hfc (hdo q _ U hi hC H.ext) U ?_;rintro v w ⟨full',O',H2⟩;refine Ab (Aa (Af (Ad U (Ab (Aa (A4 (AD (v:=(.int _ _)) U U U ?_)))))));rw [hC,if_pos rfl];exact ⟨rfl,full',O',fun x hx=>by rw [List.mem_singleton.1 hx]; exact H2.get at0,(H.ext.mono (by simp)).trans H2.ext⟩
set_option maxRecDepth 20000 in
theorem Abh {bd c:Nat} {a:Option Addr} {acs:List Ac} {k:Int} {f q:Value} (w:World) (hd:w.heap[bd]? = some (Bl 162 [.slice a acs.length c])) (hi:inA acs k=false) :
  Ret Tryz.prog 167 #[ptr bd,.int .i64 k,f,q] w fun v w'=>v = .int .i64 10∧Ext [] w w':=by
 obtain ⟨w1,rfl⟩:∃ w1,w1=w:=⟨_,rfl⟩;have H:=Ctx.start w1 [];have hi2:¬ (0≤k∧k<acs.length):=fun h=>by rw [Ev.2 h] at hi; cases hi
 refine Aw (fn:=Tryz.f167) Tryz.func167 U [.pointer (some ⟨bd,0,none⟩),.int .i64 k,f,q] U (by kernel_rfl) ?_;refine Af (Ad U (Ab (Aa (Aq (A0 (Af (Ay U (Co Nh U ?_))))))));refine Ai U (Ab (Aa (Ap _ U ?_ ?_)))
 ·intro h0;cases h0
 ·intro h0;refine Aq (Af (Ae U (Bj U U (Ai U (Ab (Aa (CX 14 U ?_ ?_)))))))
  ·intro h1;replace h1:=AJ h1;refine Au (Aa (Dz U (Af (Ad U (Ab (Aa (A4 (AA (Ao (AD (v:=(.int _ _)) U U U ?_))))))))));exact ⟨rfl,H.ext⟩
  ·intro h1;replace h1:=AK h1;refine Az (Ae U (Ay U (A9 U (Ag Ez U (AZ Ek U ((H.old (Aj hd _) (by simp))) ?_)))));refine Bi Dg U (C4 U U (Ai U (Ab (Aa (CX 14 U ?_ ?_)))))
   ·intro h2;replace h2:=AJ h2;refine Af (Ad U (Ab (Aa (A4 (AA (Ao (AD (v:=(.int _ _)) U U U ?_)))))));exact ⟨rfl,H.ext⟩
   ·intro h2;replace h2:=AK h2;exact absurd ⟨by omega,by omega⟩ hi2
end Go.Proofs.YtdagmpmdcgedcaaGreat
namespace Go.Proofs.YtdagmpmdcgedcaaGreat
open Go.GV
attribute [local irreducible] AB W Wq Wt
theorem Abi {bx:Nat} {x:Int} (w:World) (h7:w.heap[bx]? = some (Bl 2 [.int .i64 x])) :
  Ret Tryz.prog 169 #[ptr bx] w fun v w'=>v = .bool (decide (0<x) && CY x)∧Ext [] w w':=by
 obtain ⟨w0,rfl⟩:∃ w0,w0=w:=⟨_,rfl⟩;have H:=Ctx.start w0 [];refine Aw (fn:=Tryz.f169) Tryz.func169 U [.pointer (some ⟨bx,0,none⟩)] U (by kernel_rfl) ?_;refine Af (Ai U (Ab (Aa (Af (AZ Bw U ((H.old (Aj h7 _) (by simp))) ?_)))));refine Cs U U (AE U (AY 4 U ?_ ?_))
 ·intro h1;replace h1:=AJ h1;refine AZ Bw U ((H.old (Aj h7 _) (by simp))) ?_;refine Al Jn (Jz x _) U ?_;rintro v w ⟨rfl,rfl⟩;refine AN U (.bool _) U (Ai U (Ab (Aa (A4 (AD (v:=(.bool _)) U U U ?_)))));exact ⟨congrArg Value.bool (by rw [Bool.eq_iff_iff]; simp_all; try omega),H.ext⟩
 ·intro h2;replace h2:=AK h2;refine Ah U (Ah U (AU U (.bool _) U (Ai U (Ab (Aa (A4 (AD (v:=(.bool _)) U U U ?_)))))));exact ⟨congrArg Value.bool (by rw [Bool.eq_iff_iff]; simp_all; try omega),H.ext⟩
theorem Abj {bx:Nat} {x:Int} (w:World) (h7:w.heap[bx]? = some (Bl 2 [.int .i64 x])) :
  Ret Tryz.prog 172 #[ptr bx] w fun v w'=>v = .bool (decide (0<x) && CY x)∧Ext [] w w':=by
 obtain ⟨w0,rfl⟩:∃ w0,w0=w:=⟨_,rfl⟩;have H:=Ctx.start w0 [];refine Aw (fn:=Tryz.f172) Tryz.func172 U [.pointer (some ⟨bx,0,none⟩)] U (by kernel_rfl) ?_;refine Af (Ai U (Ab (Aa (Af (AZ Bw U ((H.old (Aj h7 _) (by simp))) ?_)))));refine Cs U U (AE U (AY 4 U ?_ ?_))
 ·intro h1;replace h1:=AJ h1;refine AZ Bw U ((H.old (Aj h7 _) (by simp))) ?_;refine Al Jn (Jz x _) U ?_;rintro v w ⟨rfl,rfl⟩;refine AN U (.bool _) U (Ai U (Ab (Aa (A4 (AD (v:=(.bool _)) U U U ?_)))));exact ⟨congrArg Value.bool (by rw [Bool.eq_iff_iff]; simp_all; try omega),H.ext⟩
 ·intro h2;replace h2:=AK h2;refine Ah U (Ah U (AU U (.bool _) U (Ai U (Ab (Aa (A4 (AD (v:=(.bool _)) U U U ?_)))))));exact ⟨congrArg Value.bool (by rw [Bool.eq_iff_iff]; simp_all; try omega),H.ext⟩
theorem Aev {bx:Nat} {x:Int} (w:World) (h7:w.heap[bx]? = some (Bl 2 [.int .i64 x])) :
  Ret Tryz.prog 175 #[ptr bx] w fun v w'=>v = .bool (CY x)∧Ext [] w w':=by
 obtain ⟨w0,rfl⟩:∃ w0,w0=w:=⟨_,rfl⟩;have H:=Ctx.start w0 [];refine Aw (fn:=Tryz.f175) Tryz.func175 U [.pointer (some ⟨bx,0,none⟩)] U (by kernel_rfl) ?_;refine Af (Ai U (Ab (Aa (Af (AZ Bw U ((H.old (Aj h7 _) (by simp))) ?_)))));refine Al Jn (Jz x _) U ?_;rintro v w ⟨rfl,rfl⟩;refine Ai U (Ab (Aa (A4 (AD (v:=(.bool _)) U U U ?_))));exact ⟨rfl,H.ext⟩
set_option maxRecDepth 20000 in
theorem Abk {q j bx:Nat} {ba x:Int} {full:List Value} (w:World) (h9:w.heap[q]? = some (Bl 43 full)) (hf:full[j]? = some (.int .i64 ba)) (h7:w.heap[bx]? = some (Bl 2 [.int .i64 x])) (hne:bx≠q) (hb:0≤ba∧ba≤4503599627370496) (hx:0≤x∧x≤4503599627370496) :
  Ret Tryz.prog 168 #[.pointer (some ⟨q,j,none⟩),ptr bx] w fun _ w'=>Ctx w [q] w' [(q,Bl 43 (full.set (j+0) (.int .i64 (ba+x))))]:=by
 obtain ⟨w0,rfl⟩:∃ w0,w0=w:=⟨_,rfl⟩;have H:=Ctx.start1 h9;have hn:bx∉[q]:=by rw [List.mem_singleton]; exact hne
 have hj:=Ck hf;refine Aw (fn:=Tryz.f168) Tryz.func168 U [.pointer (some ⟨q,j,none⟩),.pointer (some ⟨bx,0,none⟩)] U (by kernel_rfl) ?_;refine ER [([0,1,2,3,4,5],6),([7],8)] (fun z=>z.heap[q]? = some (Bl 43 full)∧z.heap[bx]? = some (Bl 2 [.int .i64 x])) [8] Bs (by kernel_rfl) (⟨H.drew.get at0,H.drew.ext.to h7 hn⟩) ?_;refine AF U U ?_;refine BD U (Bd U (An U DW U (B0 Bw U (fun _ hx=>(by rw [Aj hx.1]; exact hf)) ?_)));refine B0 Bw U (fun _ hx=>(by rw [Aj hx.2]; rfl)) ?_;refine Eg U U ?_;refine AP ?_;replace H:=H.drew;refine A9 U (Ab (BR (⟨H.get at0,H.ext.to h7 hn⟩) (AF U U ?_)));refine An U DW U (AP (Cp (.int _ _) B6 U U U H at0 (by omega) ?_));rintro w H;refine Ab (Bz U (BH (CF U U ?_)));exact H
set_option maxRecDepth 20000 in
theorem Abl {q j bx:Nat} {ba x:Int} {full:List Value} (w:World) (h9:w.heap[q]? = some (Bl 43 full)) (hf:full[j]? = some (.int .i64 ba)) (h7:w.heap[bx]? = some (Bl 2 [.int .i64 x])) (hne:bx≠q) (hb:0≤ba∧ba≤4503599627370496) (hx:0≤x∧x≤4503599627370496) :
  Ret Tryz.prog 171 #[.pointer (some ⟨q,j,none⟩),ptr bx] w fun _ w'=>Ctx w [q] w' [(q,Bl 43 (full.set (j+0) (.int .i64 (ba - x))))]:=by
 obtain ⟨w0,rfl⟩:∃ w0,w0=w:=⟨_,rfl⟩;have H:=Ctx.start1 h9;have hn:bx∉[q]:=by rw [List.mem_singleton]; exact hne
 have hj:=Ck hf;refine Aw (fn:=Tryz.f171) Tryz.func171 U [.pointer (some ⟨q,j,none⟩),.pointer (some ⟨bx,0,none⟩)] U (by kernel_rfl) ?_;refine ER [([0,1,2,3,4,5],6),([7],8)] (fun z=>z.heap[q]? = some (Bl 43 full)∧z.heap[bx]? = some (Bl 2 [.int .i64 x])) [8] Bs (by kernel_rfl) (⟨H.drew.get at0,H.drew.ext.to h7 hn⟩) ?_;refine AF U U ?_;refine BD U (Bd U (An U DW U (B0 Bw U (fun _ hx=>(by rw [Aj hx.1]; exact hf)) ?_)));refine B0 Bw U (fun _ hx=>(by rw [Aj hx.2]; rfl)) ?_;refine EP U U ?_;refine AP ?_;replace H:=H.drew;refine A9 U (Ab (BR (⟨H.get at0,H.ext.to h7 hn⟩) (AF U U ?_)));refine An U DW U (AP (Cp (.int _ _) B6 U U U H at0 (by omega) ?_));rintro w H;refine Ab (Bz U (BH (CF U U ?_)));exact H
set_option maxRecDepth 20000 in
theorem Aew {q j bx:Nat} {x:Int} {full:List Value} (w:World) (h9:w.heap[q]? = some (Bl 43 full)) (hj:j+1<full.length) (h7:w.heap[bx]? = some (Bl 2 [.int .i64 x])) (hne:bx≠q) :
  Ret Tryz.prog 174 #[.pointer (some ⟨q,j,none⟩),ptr bx] w fun _ w'=>Ctx w [q] w' [(q,Bl 43 (full.set (j+1) (.int .i64 x)))]:=by
 obtain ⟨w0,rfl⟩:∃ w0,w0=w:=⟨_,rfl⟩;have H:=Ctx.start1 h9;have hn:bx∉[q]:=by rw [List.mem_singleton]; exact hne
 refine Aw (fn:=Tryz.f174) Tryz.func174 U [.pointer (some ⟨q,j,none⟩),.pointer (some ⟨bx,0,none⟩)] U (by kernel_rfl) ?_;refine Az (Ay U (AZ Bw U ((H.old (Aj h7 _) hn)) ?_));refine A9 U (Ag GW U (Cp (.int _ _) B6 U U U H at0 (by omega) ?_));rintro w H;refine Ab (CF U U ?_);exact H
set_option maxRecDepth 20000 in
theorem Abm {bx b3 b4 bd c:Nat} {a:Option Addr} {acs:List Ac} {k x:Int} (w:World) (h7:w.heap[bx]? = some (Bl 2 [.int .i64 x])) (h3:w.heap[b3]? = some (Bl 99 [ptr bd])) (h4:w.heap[b4]? = some (Bl 3 [.int .i64 k])) (hd:w.heap[bd]? = some (Bl 162 [.slice a acs.length c])) (R:Rd w a 2 CM acs) (hi:inA acs k=true) :
  Ret Tryz.prog 173 #[ptr bx,ptr b3,ptr b4] w fun v w'=>v = .bool (decide (x≤(Dd acs k).ba))∧Ext [] w w':=by
 obtain ⟨w0,rfl⟩:∃ w0,w0=w:=⟨_,rfl⟩;have H:=Ctx.start w0 [];have hin:=Ev.1 hi;have hg:=Fo hi;refine Aw (fn:=Tryz.f173) Tryz.func173 U [.pointer (some ⟨bx,0,none⟩),.pointer (some ⟨b3,0,none⟩),.pointer (some ⟨b4,0,none⟩)] U (by kernel_rfl) ?_;refine Af (Ai U (Ab (Aa (Er (fun x=>x=_) Bs (by kernel_rfl) U ?_))));refine BX Bw U (by rintro _ rfl; exact ((H.drew.old (Aj h7 _) (by simp)))) ?_;refine BX Ig U (by rintro _ rfl; exact ((H.drew.old (Aj h3 _) (by simp)))) ?_;refine Bb U (A7 Ez U (BX Ek U (by rintro _ rfl; exact ((H.drew.old (Aj hd _) (by simp)))) ?_));refine BX Ca U (by rintro _ rfl; exact ((H.drew.old (Aj h4 _) (by simp)))) ?_;refine C5 R Dg Dx U U (by rfl) ?_;refine A7 DW U (BX Bw U (by rintro _ rfl; exact (((R.ext0 H.drew.ext).fld hg rfl (j:=0) rfl))) ?_);refine Oc U U (Mz U U (BW ?_));rintro _ rfl;replace H:=H.drew
 refine A4 (AD (v:=(.bool _)) U U U ?_);exact ⟨rfl,H.ext⟩
set_option maxRecDepth 20000 in
set_option maxHeartbeats 1000000 in
theorem Abn {bx b3 bd c:Nat} {a:Option Addr} {acs:List Ac} {x:Int} (w:World) (h3:w.heap[b3]? = some (Bl 99 [ptr bd])) (h7:w.heap[bx]? = some (Bl 2 [.int .i64 x])) (hd:w.heap[bd]? = some (Bl 162 [.slice a acs.length c])) (R:Rd w a 2 CM acs)  (hn:acs.length≤1000:=by omega):
  Ret Tryz.prog 170 #[ptr b3,ptr bx] w fun v w'=>v = .bool (decide ((ED (bas acs++[x])).2=0))∧Ext [] w w':=by
 obtain ⟨w0,rfl⟩:∃ w0,w0=w:=⟨_,rfl⟩;have H:=Ctx.start w0 [];obtain ⟨tt,htt⟩:∃ tt,tt=ED (bas acs++[x]):=⟨_,rfl⟩;rw [← htt];refine Aw (fn:=Tryz.f170) Tryz.func170 U [.pointer (some ⟨b3,0,none⟩),.pointer (some ⟨bx,0,none⟩)] U (by kernel_rfl) ?_;refine Af (Ai U (Ab (Aa (Age (.two [0,2] 1 (.one [] 3 (.one [] 4 (.one [] 5 (.one [6,7,8] 9 (.one [] 10 .stop))))) 3 (.one [] 1 (.one [] 4 (.one [] 5 (.one [6,7,8] 9 (.one [] 10 .stop)))))) (fun z=>Ext [] w0 z) Bs (by kernel_rfl) (Ext.drew [] w0) ?_))));refine It U U U ?_;refine B0 Ig U (fun _ hx=>(by rw [Aj (hx.to h3 (by simp))]; rfl)) ?_;refine B0 Bw U (fun _ hx=>(by rw [Aj (hx.to h7 (by simp))]; rfl)) ?_;refine AP ?_;replace H:=H.drew;refine ⟨?_,?_⟩
 ·skip
  refine Al Rx (Il a acs.length c acs _ (H.ext.to hd (by simp)) (R.ext0 H.ext) U) U ?_;rintro v w F;obtain ⟨a3,n3,c3,f3,rfl,O3,hb3⟩:=F.ex;have hl3:=O3.llen;rw [List.length_map,List.length_map] at hl3;replace H:=H.callEnt F.ext hb3 FD;refine Ab (BP (H.ext) (BO U U ?_));refine AP (Ct _ (.int _ _) Bg B6 EK U (by decide) (by decide) U U U H ?_);rintro b9 w - H;refine Ab (BP (H.ext) (BO U U ?_));refine AP (CA (L:=[]) Bg Bg B6 Lg EK U (by decide) U U H O3 U (by simp [AO]) ?_);rintro a' c' full' w H O;refine Ab (BP (H.ext) (BO U U ?_));refine AP (Al MA (K9 a' (n3+1) c' (bas acs++[x]) _ (OS.rd1 (f:=Ee) (t:=2) (xs:=bas acs++[x]) (by rw [List.map_append]; exact O) (fun x hx=>H.blk x (List.mem_append_right [] hx))) (by unfold bas; rw [List.length_append,List.length_map]; show acs.length+1=_; omega)) U ?_);rintro v w ⟨rfl,rfl⟩;rw [← htt]
  refine Ab (BP (H.ext) (BO U U ?_));refine DA U (Bu U U (Bu U U (AP (Ad U (Ab (BP (H.ext) (BO U U ?_)))))));refine AP (Ad U (Ab (BP (H.ext) (DT ?_))));refine Af (Ae U (Cf U U (Ai U (Ab (Aa (A4 (AD (v:=(.bool _)) U U U ?_)))))));exact ⟨rfl,H.ext⟩
 ·skip
  refine Ct _ (.int _ _) Bg B6 EK U (by decide) (by decide) U U U H ?_;rintro b9 w - H;refine Ab (BP (H.ext) (BO U U ?_));refine AP (Al Rx (Il a acs.length c acs _ (H.ext.to hd (by simp)) (R.ext0 H.ext) U) U ?_);rintro v w F;obtain ⟨a3,n3,c3,f3,rfl,O3,hb3⟩:=F.ex;have hl3:=O3.llen;rw [List.length_map,List.length_map] at hl3;replace H:=H.callEnt F.ext hb3 FD;refine Ab (BP (H.ext) (BO U U ?_));refine AP (CA (L:=[]) Bg Bg B6 Lg EK U (by decide) U U H O3 U (by simp [AO]) ?_);rintro a' c' full' w H O;refine Ab (BP (H.ext) (BO U U ?_));refine AP (Al MA (K9 a' (n3+1) c' (bas acs++[x]) _ (OS.rd1 (f:=Ee) (t:=2) (xs:=bas acs++[x]) (by rw [List.map_append]; exact O) (fun x hx=>H.blk x (List.mem_append_right [] hx))) (by unfold bas; rw [List.length_append,List.length_map]; show acs.length+1=_; omega)) U ?_);rintro v w ⟨rfl,rfl⟩;rw [← htt]
  refine Ab (BP (H.ext) (BO U U ?_));refine DA U (Bu U U (Bu U U (AP (Ad U (Ab (BP (H.ext) (BO U U ?_)))))));refine AP (Ad U (Ab (BP (H.ext) (DT ?_))));refine Af (Ae U (Cf U U (Ai U (Ab (Aa (A4 (AD (v:=(.bool _)) U U U ?_)))))));exact ⟨rfl,H.ext⟩
end Go.Proofs.YtdagmpmdcgedcaaGreat
