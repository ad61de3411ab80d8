/- Part 10 of the proof. -/
import Derived.Test.YtdagmpmdcgedcaaGreatPart2
import Derived.Test.YtdagmpmdcgedcaaGreatPart9
import Derived.Test.YtdagmpmdcgedcaaGreatPart4
namespace Go.Proofs.YtdagmpmdcgedcaaGreat
open Go.GV
attribute [local irreducible] AD W Wq Wt
theorem WN {N:Int} {es:List Ed} {pot:List Int} (hr:Cy N es=true) {k:Nat} (hk:k<2*es.length):ZN N es pot (k:Int)=(grE N es).len (EW pot) k:=by
 obtain ⟨e,he,hE,-⟩:=Sn hr hk;unfold ZN Gr.len Gr.c Gr.u Gr.v;rw [hE];unfold Ih
 rcases Nat.mod_two_eq_zero_or_one k with h | h
 ·rw [if_pos h,if_pos h,if_pos h,Uc he,S5 he,S6 he,if_neg (by omega)]; rfl
 ·rw [if_pos h,if_neg (show ¬ k % 2=0 by omega),if_neg (show ¬ k % 2=0 by omega),if_neg (show ¬ k % 2=0 by omega),Uc he,S5 he,S6 he]; rfl
theorem Ug {N:Int} {es:List Ed} {fl:List Int} (hw:Cl N es fl=true) {k:Nat} (hk:k<2*es.length):KS N es fl (k:Int)=CI (Cs es) (flE fl) k:=by
 obtain ⟨e,x,he,hx,hro,-⟩:=So hw hk;rw [hro];unfold Nt CI Cs flE;rw [Bi he,Bi hx]
 rcases Nat.mod_two_eq_zero_or_one k with h | h
 ·rw [if_neg (by omega),if_pos h]
 ·rw [if_pos h,if_neg (by omega)]
theorem Aa8 {N:Int} {es:List Ed} {fl:List Int} (hw:Cl N es fl=true) (h:∀ v,v<N.toNat→B9 (grE N es) (flE fl) v=0):FO N es fl=true:=by
 unfold FO Nu;rw [hw,Bool.true_and,List.all_eq_true];intro x hx;obtain ⟨i,hi⟩:=List.mem_iff_getElem?.1 hx;obtain ⟨h1,rfl⟩:=Pe hi;exact decide_eq_true (h i h1)
theorem Ga {N:Int} {es:List Ed} {fl pot:List Int}:F9 N es fl pot=true↔FO N es fl=true∧Gq N pot=true∧Fine (grE N es) (Cs es) (flE fl) (EW pot):=by
 have hE:(grE N es).E=es.length:=rfl;unfold F9;simp only [Bool.and_eq_true];constructor
 ·rintro ⟨hr,hf,hp,ht⟩;have hw:=(ET hf).1;obtain ⟨hl,-,hin⟩:=Cx hw;refine ⟨hf,hp,fun i hi=>?_,fun a ha hro=>?_⟩
  ·rw [hE] at hi;obtain ⟨e,he⟩:=A8 (h:=hi);obtain ⟨x,hx⟩:=A8 (l:=fl) (i:=i);unfold flE Cs;rw [Bi he,Bi hx];exact hin i e x he hx
  ·rw [hE] at ha;have h1:=List.all_eq_true.1 ht a (List.mem_range.2 ha);unfold Js at h1;rw [WN hr ha,Ug hw ha,decide_eq_true hro,Bool.and_true,Bool.not_eq_true',decide_eq_false_iff_not] at h1;omega
 ·rintro ⟨hf,hp,hF⟩;have hw:=(ET hf).1;obtain ⟨hl,hr,hin⟩:=Cx hw;refine ⟨hr,hf,hp,List.all_eq_true.2 fun a ha=>?_⟩;rw [List.mem_range] at ha;unfold Js;rw [WN hr ha,Ug hw ha,Bool.not_eq_true']
  by_cases h:0<CI (Cs es) (flE fl) a
  ·rw [decide_eq_false (by have:=hF.fit a ha h; omega),Bool.false_and]
  ·rw [decide_eq_false h,Bool.and_false]
theorem VC {N:Nat} {es:List Ed} {x p:Nat→Int} (hr:Cy (N:Int) es=true) (hF:Fine (grE (N:Int) es) (Cs es) x p) (ho:∀ v,v<N→B9 (grE (N:Int) es) x v=0) (hp:∀ v,v<N → -1073741824≤p v∧p v≤1073741824):F9 (N:Int) es (tab x es.length) (tab p N)=true:=by
 have hx:∀ i,i<es.length→flE (tab x es.length) i=x i:=fun i hi=>Ad2 hi;have hq:∀ v,v<N→EW (tab p N) v=p v:=fun v hv=>Bi (BU hv)
 have hw:Cl (N:Int) es (tab x es.length)=true:=by
  unfold Cl;rw [hr,CP,decide_eq_true rfl];refine List.all_eq_true.2 fun b hb=>?_;obtain ⟨i,hi⟩:=List.mem_iff_getElem?.1 hb;have hl:=Cu hi;rw [List.length_zipWith,CP] at hl;obtain ⟨e,he⟩:=A8 (l:=es) (i:=i);rw [Pd he (BU (f:=x) (by omega))] at hi
  injection hi with hi
  have h1:=hF.in' i (by show i<es.length; omega);unfold Cs at h1;rw [Bi he] at h1;rw [← hi];show inB e (x i)=true;unfold inB;rw [decide_eq_true h1.1,decide_eq_true h1.2]; rfl
 refine Ga.2 ⟨Aa8 hw fun v hv=>?_,?_,Pm (Jw hr) (Aa6 hF hx) hq⟩
 ·rw [Ll hx];exact ho v hv
 ·unfold Gq;rw [CP,decide_eq_true rfl,Bool.and_true,List.all_eq_true];intro y hy;obtain ⟨i,hi⟩:=List.mem_iff_getElem?.1 hy;obtain ⟨h1,rfl⟩:=Pe hi;have:=hp i h1;unfold N8;rw [Bool.and_eq_true,decide_eq_true_eq,decide_eq_true_eq];omega
theorem Mj {ds es:List Du} (h:Aam ds es) (hs:(es.map (·.id)).Pairwise (·<·)):ds=es:=by
 obtain ⟨hp,hd⟩:=h
 induction es generalizing ds with
 | nil=>exact hp.eq_nil
 | cons e es ih =>
  cases ds with
  | nil=>exact absurd hp.symm.eq_nil (by simp)
  | cons d ds =>
   rw [List.map_cons,List.pairwise_cons] at hs hd
   have hde:d=e:=by
    rcases List.mem_cons.1 (hp.mem_iff.1 (List.mem_cons_self ..)) with h | h
    ·exact h
    ·rcases List.mem_cons.1 (hp.mem_iff.2 (List.mem_cons_self ..)) with h2 | h2
     ·exact h2.symm
     ·have h3:=hs.1 d.id (List.mem_map_of_mem (f:=fun d:Du=>d.id) h);have h4:=hd.1 e.id (List.mem_map_of_mem (f:=fun d:Du=>d.id) h2);omega
   subst hde;rw [ih hs.2 (List.Perm.cons_inv hp) hd.2]
structure Rnd where
 no:Int
 day:Int
 cmp:Bool
 ids:List Int
 N:Int
 es:List Ed
 fl:List Int
 pot:List Int
structure RSl where
 aI:Option Addr
 cI:Nat
 aE:Option Addr
 cE:Nat
 aF:Option Addr
 cF:Nat
 aP:Option Addr
 cP:Nat
abbrev B0 (r:Rnd) (q:RSl):List Value:=[.int .u64 r.no,.int .i64 r.day,.bool r.cmp,.slice q.aI r.ids.length q.cI,.int .i64 r.N,.slice q.aE r.es.length q.cE,.slice q.aF r.fl.length q.cF,.slice q.aP r.pot.length q.cP]
structure RAt (w:World) (r:Rnd) (q:RSl):Prop where
 I:Rd w q.aI 1 U1 r.ids
 E:Rd w q.aE 4 CG r.es
 F:Rd w q.aF 1 I1 r.fl
 P:Rd w q.aP 1 I1 r.pot
 fc:r.fl.length≤q.cF
structure ROff (q:RSl) (r:Rnd) (S:Nat→Prop):Prop where
 I:r.ids≠[]→¬ S (adr q.aI).block
 E:r.es≠[]→¬ S (adr q.aE).block
 F:r.fl≠[]→¬ S (adr q.aF).block
 P:r.pot≠[]→¬ S (adr q.aP).block
theorem RAt.ext {w w':World} {r:Rnd} {q:RSl} {S:List Nat} (h:RAt w r q) (he:Ext S w w') (hn:ROff q r (·∈S)):RAt w' r q :=
 ⟨h.I.ext' he hn.I,h.E.ext' he hn.E,h.F.ext' he hn.F,h.P.ext' he hn.P,h.fc⟩
theorem RAt.ext0 {w w':World} {r:Rnd} {q:RSl} (h:RAt w r q) (he:Ext [] w w'):RAt w' r q:=h.ext he ⟨fun _=>by simp,fun _=>by simp,fun _=>by simp,fun _=>by simp⟩
theorem ROff.mono {q:RSl} {r:Rnd} {S S':Nat→Prop} (h:ROff q r S) (hs:∀ x,S' x→S x):ROff q r S':=⟨fun g k=>h.I g (hs _ k),fun g k=>h.E g (hs _ k),fun g k=>h.F g (hs _ k),fun g k=>h.P g (hs _ k)⟩
theorem RAt.lt {w:World} {r:Rnd} {q:RSl} (h:RAt w r q):ROff q r (fun x=>w.heap.size≤x) :=
 ⟨fun g=>Nat.not_le.2 (h.I.lt' (fun _ _=>rfl) (by decide) g),fun g=>Nat.not_le.2 (h.E.lt' (fun _ _=>rfl) (by decide) g),fun g=>Nat.not_le.2 (h.F.lt' (fun _ _=>rfl) (by decide) g),fun g=>Nat.not_le.2 (h.P.lt' (fun _ _=>rfl) (by decide) g)⟩
def AcAt (w:World) (t:TypeId) (bx:Nat) (acs:List Ac):Prop:=∃ a c,w.heap[bx]? = some (Bl t [.slice a acs.length c])∧Rd w a 2 CX acs
def DuAt (w:World) (bd:Nat) (ds:List Du):Prop:=∃ b nx o,w.heap[bd]? = some (Bl 165 (DU b nx))∧w.heap[b]? = some o∧Db .u64 (dm ds) o
theorem AcAt.ext0 {w w':World} {t:TypeId} {bx:Nat} {acs:List Ac} (h:AcAt w t bx acs) (he:Ext [] w w'):AcAt w' t bx acs:=by
 obtain ⟨a,c,h1,h2⟩:=h;exact ⟨a,c,he.to h1 (by simp),h2.ext0 he⟩
theorem DuAt.ext0 {w w':World} {bd:Nat} {ds:List Du} (h:DuAt w bd ds) (he:Ext [] w w'):DuAt w' bd ds:=by
 obtain ⟨b,nx,o,h1,h2,h3⟩:=h;exact ⟨b,nx,o,he.to h1 (by simp),he.to h2 (by simp),h3⟩
theorem KF {bx:Nat} {acs:List Ac} (ha:Eu acs=0) (w:World) (A:AcAt w 162 bx acs) :
  Ret Tryz.prog 180 #[ptr bx] w fun v w'=>Ext [] w w'∧∃ a c,v = .slice a (acs.map C5).length c∧Rd w' a 1 I1 (acs.map C5):=by
 obtain ⟨h1,h2,-⟩:=Cd.1 ha;obtain ⟨a,c,g1,g2⟩:=A;refine Ret.mono (Aap a acs.length c acs w g1 g2 U h2) fun v w' F=>⟨F.ext,?_⟩;obtain ⟨a',n',c',f',rfl,O,hb⟩:=F.ex;obtain rfl:=O.num;exact ⟨a',c',rfl,O.rd1 fun x hx=>(hb x hx).1⟩
theorem Jc {bd:Nat} {ds:List Du} {nx:Int} (hd:ofC ds nx=0) (w:World) (D:DuAt w bd ds) :
  Ret Tryz.prog 50 #[ptr bd] w fun v w'=>Ext [] w w'∧∃ a c,v = .slice a ds.length c∧Rd w' a 7 CT ds:=by
 obtain ⟨h1,-,h3,-⟩:=Fy.1 hd;obtain ⟨b,nx',o,g1,g2,g3⟩:=D;refine Ret.mono (Mc w g1 g2 g3 (Kl hd)) ?_;rintro v w' ⟨ds',hS,F⟩;obtain rfl:=Mj hS (J2 h3).2.1;refine ⟨F.ext,?_⟩;obtain ⟨a',n',c',f',rfl,O,hb⟩:=F.ex;obtain rfl:=O.numN (fun _ _=>rfl) (by decide);exact ⟨a',c',rfl,OS.rd O (fun x hx=>(hb x hx).1) (fun _ _=>rfl) (by decide)⟩
end Go.Proofs.YtdagmpmdcgedcaaGreat
namespace Go.Proofs.YtdagmpmdcgedcaaGreat
open Go.GV
attribute [local irreducible] AD W Wq Wt
structure PlanR (acs:List Ac) (ds:List Du) (net:Bool) (r:Rnd):Prop where
 no:r.no=0
 day:r.day=0
 cmp:r.cmp=net
 ids:r.ids=(opn ds).map Du.id
 N:r.N=((acs.length+1:Nat):Int)
 es:r.es=BD (acs.map C5) (opn ds) net
 chk:F9 r.N r.es r.fl r.pot=true
def rnd0:List Value:=[.int .u64 0,.int .i64 0,.bool false,.slice none 0 0,.int .i64 0,.slice none 0 0,.slice none 0 0,.slice none 0 0]
def Aep (w:World) (acs:List Ac) (ds:List Du) (net:Bool) (v:Value) (w':World):Prop :=
 Ext [] w w'∧((D0 (acs.map C5) ds=false∧v = .tuple #[.agg rnd0.toArray,.int .i64 1]) ∨
  (D0 (acs.map C5) ds=true∧∃ r q,v = .tuple #[.agg (B0 r q).toArray,.int .i64 0]∧PlanR acs ds net r∧RAt w' r q∧ROff q r (fun x=>x<w.heap.size)))
set_option maxRecDepth 20000 in
set_option maxHeartbeats 4000000 in
theorem WO {bx bd:Nat} {acs:List Ac} {ds:List Du} {nx:Int} (ha:Eu acs=0) (hd:ofC ds nx=0) (net:Bool) (w:World) (A:AcAt w 162 bx acs) (D:DuAt w bd ds) :
  Ret Tryz.prog 112 #[ptr bx,ptr bd,.bool net] w (Aep w acs ds net):=by
 obtain ⟨w0,rfl⟩:∃ w0,w0=w:=⟨_,rfl⟩;have H:=Ctx.start w0 [];have hn16:=(Cd.1 ha).1;have hm64:=(Fy.1 hd).1;obtain ⟨rs,hrs⟩:∃ rs,rs=acs.map C5:=⟨_,rfl⟩;have hrl:rs.length=acs.length:=by rw [hrs,List.length_map]
 refine Az (fn:=Tryz.f112) Tryz.func112 U [.pointer (some ⟨bx,0,none⟩),.pointer (some ⟨bd,0,none⟩),.bool net] U (by kernel_rfl) ?_;refine Ae (Ba Hf H ?_);rintro b6 w - H;refine Af U (Ab (Aa (Au (Ae (Cb (α:=Unit) 516096 (fun _=>[(18,.bool (false))]) (fun _ w'=>Ctx w0 [] w' [(b6,Bl 55 rnd0)]) U ?_ ?_)))))
 ·refine A2 U (Cw Nm U ?_);refine A7 U (AO 15 U ?_ ?_)
  ·intro h1;refine Ag U (Ag U (AF U (.bool _) U (Ab ?_)));exact ⟨rfl,(),rfl,⟨congrArg Value.bool (by simp_all),trivial⟩,H⟩
  ·intro h2;refine A2 U (Cw I6 U ?_);refine AG U (.bool _) U (Ab ?_);exact ⟨rfl,(),rfl,⟨congrArg Value.bool (by rfl),trivial⟩,H⟩
 rintro - j18 w H;refine EH U (Ap (Aa ?_));cases hbb:D0 rs ds
 ·skip
  refine Ae (A2 U (Al RW (KF ha _ (A.ext0 H.ext)) U ?_));rintro v w ⟨hx22,a2,c2,rfl,R2⟩;rw [← hrs] at R2 ⊢;replace H:=H.call hx22;refine A2 U (Al LK (Jc hd _ (D.ext0 H.ext)) U ?_);rintro v w ⟨hx24,a3,c3,rfl,R3⟩;replace H:=H.call hx24;replace R2:=R2.ext0 hx24;refine A7 U (Al MK (Hy a2 a3 _ c2 _ c3 rs ds net _ R2 U R3 U) U ?_);rintro v w ⟨hx26,⟨-,rfl⟩ | ⟨hb1,-⟩⟩
  rotate_left
  (rw [hbb] at hb1; cases hb1)
  replace H:=H.call hx26;refine CA U (AS U U (AS U U (AS U U (Ba Np H ?_))));rintro b8 w - H;refine Bm CK U U U (by simp [Bg]) H at0 U ?_;rintro w H;refine A4 U (Af U (Ab (Aa (Au (Ae (Ad U (C0 U U (Ab (Aa (Ao _ U ?_ ?_))))))))))
  ·intro h1;replace h1:=C7 h1;refine Ae (B6 [.int .u64 0,.int .i64 0,.bool false,.slice none 0 0,.int .i64 0,.slice none 0 0,.slice none 0 0,.slice none 0 0] Wo Hf (by kernel_rfl) ?_);refine Ad U (Bm D4 U U U (by simp [Bg]) H at1 U ?_);rintro w H;refine Af U (Ab (Aa (A5 (Aq (Im U U U GM D4 H at1 U (show _=(.int _ _) from rfl) ?_)))));exact ⟨H.ext,.inl ⟨by rw [← hrs]; exact hbb,rfl⟩⟩
  ·intro h1;replace h1:=C8 h1;cases h1
 ·skip
  have hB:=(HY).1 hbb;obtain ⟨es,hes⟩:∃ es,es=BD rs (opn ds) net:=⟨_,rfl⟩;refine Ae (A2 U (Al RW (KF ha _ (A.ext0 H.ext)) U ?_));rintro v w ⟨hx22,a2,c2,rfl,R2⟩;rw [← hrs] at R2 ⊢;replace H:=H.call hx22;refine A2 U (Al LK (Jc hd _ (D.ext0 H.ext)) U ?_);rintro v w ⟨hx24,a3,c3,rfl,R3⟩;replace H:=H.call hx24;replace R2:=R2.ext0 hx24;refine A7 U ?_;have hlb:=H.lt at0;refine Al MK (Hy a2 a3 _ c2 _ c3 rs ds net _ R2 U R3 U) U ?_;rintro v w ⟨hx26,⟨hb1,-⟩ | ⟨-,aE,nE,cE,vI,rfl,SE,SI⟩⟩
  (rw [hbb] at hb1; cases hb1)
  replace H:=H.call hx26;rw [← hes] at SE;obtain ⟨aE,cE,hE1,-,RE,hEn⟩:=SE.ex;obtain ⟨aI,cI,rfl,-,RI,hIn⟩:=SI.ex;cases hE1;have hx026:=H.ext;have hb60:w0.heap.size≤b6:=(H.own _ (List.mem_cons_self ..)).elim (fun h=>by cases h) id;obtain ⟨w26,rfl⟩:∃ z,z=w:=⟨_,rfl⟩;replace H:=Ctx.lend (L1:=[_]) (L2:=[]) H;dsimp only [List.map] at H;have hs24:=hx26.size;refine CA U (AS U U (AS U U (AS U U (Ba Np H ?_))));rintro b8 w - H;refine Bm CK U U U (by simp [Bg]) H at0 U ?_;rintro w H;refine A4 U (Af U (Ab (Aa (Au (Ae (Ad U (C0 U U (Ab (Aa (Ao _ U ?_ ?_))))))))))
  ·intro h1;replace h1:=C7 h1;exact absurd U h1
  ·intro h1;replace h1:=C8 h1;have hri:Cy ((rs.length+1:Nat):Int) es=true:=by rw [hes]; exact hB.right net
   have hE6:es≠[]→(adr aE).block∉[b6]:=fun h=>by have:=hEn h; rw [List.mem_singleton]; omega
   have hI6:(opn ds).map Du.id≠[]→(adr aI).block∉[b6]:=fun h=>by have:=hIn h; rw [List.mem_singleton]; omega
   have hE26:=RE.lt' (fun _ _=>rfl) (by decide);have hI26:=RI.lt' (fun _ _=>rfl) (by decide);refine Ap (Aa (Ae (Cr Dh CK U H at0 U ?_)));have hl8:=H.lt at0;have hl6:=H.lt at1;refine Al Ahe (Aeo (rs.length+1) aE cE es _ (RE.ext' H.ext hE6) hri) U ?_;rintro v w ⟨bf,bp,x,p,k,rfl,hF,hov,hpb,HB⟩;replace H:=H.call HB.ext;have RF:Rd w (some ⟨bf,0,none⟩) 1 I1 (tab x es.length):=C1 (HB.get at0);have RP:Rd w (some ⟨bp,0,none⟩) 1 I1 (tab p (rs.length+1)):=C1 (HB.get at1);have hbf:=(HB.own _ (List.mem_of_getElem? at0)).elim (fun h=>by cases h) id;have hbp:=(HB.own _ (List.mem_of_getElem? at1)).elim (fun h=>by cases h) id;dsimp only at hbf hbp;replace RE:=RE.ext' H.ext hE6;replace RI:=RI.ext' H.ext hI6;have hb80:=(H.own _ (List.mem_of_getElem? at0)).elim (fun h => .inl (List.mem_singleton.1 h)) Or.inr;have hx036:=hx026.then H.ext (fun x hx => .inr (by rw [List.mem_singleton.1 hx]; exact hb60))
   have hs36:=HB.ext.size;have hs26:=H.size;obtain ⟨w36,rfl⟩:∃ z,z=w:=⟨_,rfl⟩;replace H:=Ctx.lend (L1:=[_,_]) (L2:=[]) H;dsimp only [List.map] at H;refine CA U (AS U U (AS U U (AS U U (Ba Wp H ?_))));rintro b11 w - H;refine Bm Nl U U U (by simp [Bg]) H at0 U ?_;rintro w H;refine Af U (Af U (Ab (Aa (Au (Ae (Ad U (C0 U U (Ab (Aa (Ao _ U ?_ ?_))))))))))
   ·intro h2;replace h2:=C7 h2;exact absurd U h2
   ·intro h2;replace h2:=C8 h2;obtain ⟨r,hr⟩:∃ r:Rnd,r=⟨0,0,net,(opn ds).map Du.id,((rs.length+1:Nat):Int),es,tab x es.length,tab p (rs.length+1)⟩:=⟨_,rfl⟩;obtain ⟨q,hq⟩:∃ q:RSl,q=⟨aI,cI,aE,cE,some ⟨bf,0,none⟩,es.length,some ⟨bp,0,none⟩,rs.length+1⟩:=⟨_,rfl⟩
    have hcells:B0 r q=[.int .u64 0,.int .i64 0,.bool net,.slice aI ((opn ds).map Du.id).length cI,.int .i64 ((rs.length+1:Nat):Int),.slice aE es.length cE,.slice (some ⟨bf,0,none⟩) es.length es.length,.slice (some ⟨bp,0,none⟩) (rs.length+1) (rs.length+1)]:=by
     rw [hr,hq];unfold B0;dsimp only;rw [CP,CP]
    refine Ap (Aa (Ae (A7 U (Ay U (Cr Dh CK U H at1 U (Cr Ty Nl U H at0 U (B6 [.int .u64 0,.int .i64 0,.bool net,.slice aI ((opn ds).map Du.id).length cI,.int .i64 ((rs.length+1:Nat):Int),.slice aE es.length cE,.slice (some ⟨bf,0,none⟩) es.length es.length,.slice (some ⟨bp,0,none⟩) (rs.length+1) (rs.length+1)] Wo Hf (by kernel_rfl) ?_)))))));refine Bm D4 U U U (by simp [Bg]) H at2 U ?_;rintro w H;refine Af U (Ab (Aa (A5 (Im U U U GM D4 H at2 U (show _=(.int _ _) from rfl) ?_))))
    have h8:w0.heap.size≤b8:=by rcases hb80 with h | h <;> omega
    have hxx:=hx036.then H.ext fun x hx => .inr (by simp only [List.mem_cons,List.not_mem_nil,or_false] at hx; omega);refine ⟨hxx,.inr ⟨by rw [← hrs]; exact hbb,r,q,by rw [hcells],⟨by rw [hr],by rw [hr],by rw [hr],by rw [hr],by rw [hr,hrl],by rw [hr,← hrs]; exact hes,?_⟩,⟨?_,?_,?_,?_,?_⟩,⟨?_,?_,?_,?_⟩⟩⟩
    ·rw [hr]; exact VC hri hF hov hpb
    ·rw [hr,hq]; exact RI.ext' H.ext fun h=>by have h1:=hI26 h; have h2:=hI6 h; rw [List.mem_singleton] at h2; simp only [List.mem_cons,List.not_mem_nil,or_false]; rcases hb80 with h3 | h3 <;> omega
    ·rw [hr,hq]; exact RE.ext' H.ext fun h=>by have h1:=hE26 h; have h2:=hE6 h; rw [List.mem_singleton] at h2; simp only [List.mem_cons,List.not_mem_nil,or_false]; rcases hb80 with h3 | h3 <;> omega
    ·rw [hr,hq]; exact RF.ext' H.ext fun _=>by show bf∉[b8,b6]; simp only [List.mem_cons,List.not_mem_nil,or_false]; omega
    ·rw [hr,hq]; exact RP.ext' H.ext fun _=>by show bp∉[b8,b6]; simp only [List.mem_cons,List.not_mem_nil,or_false]; omega
    ·rw [hr,hq]; dsimp only; rw [CP]; exact Nat.le_refl _
    ·rw [hr,hq]; intro h; have:=hIn h; dsimp only; omega
    ·rw [hr,hq]; intro h; have:=hEn h; dsimp only; omega
    ·rw [hr,hq]; intro _; show ¬ bf<w0.heap.size; omega
    ·rw [hr,hq]; intro _; show ¬ bp<w0.heap.size; omega
end Go.Proofs.YtdagmpmdcgedcaaGreat
namespace Go.Proofs.YtdagmpmdcgedcaaGreat
open Go.GV
attribute [local irreducible] AD W Wq Wt
def Aa9 (w:World) (rs:List Int) (ds:List Du) (net:Bool) (N:Int) (aE:Option Addr) (nE:Nat) (vI:Value) (code:Int):Prop :=
 (D0 rs ds=false∧code=1∧∃ aI nI cI,vI = .slice aI nI cI)∨(D0 rs ds=true∧code=0∧N=((rs.length+1:Nat):Int)∧nE=(BD rs (opn ds) net).length∧Rd w aE 4 CG (BD rs (opn ds) net)∧∃ aI cI,vI = .slice aI ((opn ds).map Du.id).length cI∧Rd w aI 1 U1 ((opn ds).map Du.id))
theorem RoundRes.uni {w w':World} {rs:List Int} {ds:List Du} {net:Bool} {v:Value} (h:RoundRes w rs ds net v w'):Ext [] w w'∧∃ N aE nE cE aI nI cI code,v = .tuple #[DT N aE nE cE,.slice aI nI cI,.int .i64 code]∧∀ (S:List Nat) (w2:World),(∀ x∈S,x<w.heap.size)→Ext S w' w2→Aa9 w2 rs ds net N aE nE (.slice aI nI cI) code:=by
 obtain ⟨hx,⟨h1,rfl⟩ | ⟨h1,aE,nE,cE,vI,rfl,SE,SI⟩⟩:=h
 ·exact ⟨hx,_,_,_,_,_,_,_,_,rfl,fun _ _ _ _ => .inl ⟨h1,rfl,_,_,_,rfl⟩⟩
 ·obtain ⟨aE',cE',hE,-,RE,hEn⟩:=SE.ex;obtain ⟨aI,cI,rfl,-,RI,hIn⟩:=SI.ex;cases hE;exact ⟨hx,_,_,_,_,_,_,_,_,rfl,fun S w2 hS he => .inr ⟨h1,rfl,rfl,rfl,RE.ext' he (fun hn hm=>by have:=hEn hn; have:=hS _ hm; omega),_,_,rfl,RI.ext' he (fun hn hm=>by have:=hIn hn; have:=hS _ hm; omega)⟩⟩
structure NowZ where
 b:Nat
 N:Int
 aE:Option Addr
 nE:Nat
 cE:Nat
 aI:Option Addr
 nI:Nat
 cI:Nat
 code:Int
def NowI (w0:World) (rs:List Int) (ds:List Du) (net:Bool) (b5:Nat) (o5:Obj) (z:NowZ) (w:World):Prop :=
 Ext [] w0 w∧w.heap[b5]? = some o5∧w.heap[z.b]? = some (Bl 51 [.int .i64 z.N,.slice z.aE z.nE z.cE])∧Aa9 w rs ds net z.N z.aE z.nE (.slice z.aI z.nI z.cI) z.code
def NA (acs:List Ac) (ds:List Du) (r:Rnd):Bool :=
 D0 (acs.map C5) ds && (decide (((acs.length+1:Nat):Int)=r.N) && (decide (BD (acs.map C5) (opn ds) r.cmp=r.es) && decide ((opn ds).map Du.id=r.ids)))
set_option maxRecDepth 20000 in
set_option maxHeartbeats 8000000 in
theorem Aj8 {bx bd:Nat} {acs:List Ac} {ds:List Du} {nx:Int} (ha:Eu acs=0) (hd:ofC ds nx=0) {r:Rnd} {q:RSl} (w:World) (A:AcAt w 162 bx acs) (D:DuAt w bd ds) (RA:RAt w r q) (he:r.es.length≤1000000) (hi:r.ids.length≤1000000) :
  Ret Tryz.prog 183 #[ptr bx,ptr bd,.agg (B0 r q).toArray] w fun v w'=>v = .bool (NA acs ds r)∧Ext [] w w':=by
 obtain ⟨w0,rfl⟩:∃ w0,w0=w:=⟨_,rfl⟩;have H:=Ctx.start w0 [];have hn16:=(Cd.1 ha).1;have hm64:=(Fy.1 hd).1;obtain ⟨rs,hrs⟩:∃ rs,rs=acs.map C5:=⟨_,rfl⟩;have hrl:rs.length=acs.length:=by rw [hrs,List.length_map]
 refine Az (fn:=Tryz.f183) Tryz.func183 U [.pointer (some ⟨bx,0,none⟩),.pointer (some ⟨bd,0,none⟩),.agg (B0 r q).toArray] U (by kernel_rfl) ?_;refine Ae (Bx (B0 r q) (.agg _) U U H ?_);rintro b5 w - H;refine Ai U (Ab (Aa ?_));have hx5:=H.ext;have h5:=H.get at0;obtain ⟨w5,rfl⟩:∃ z,z=w:=⟨_,rfl⟩;refine DR 2097024 (α:=NowZ) (fun z=>[(7,ptr z.b),(8,.slice z.aI z.nI z.cI),(9,.int .i64 z.code)]) (NowI w0 rs ds r.cmp b5 (Bl 55 (B0 r q))) U ?_ ?_
 ·skip
  refine Oe (.two [0,2,4,5] 1 (.two [] 3 (.two [] 6 (.one [7,8,9,10] 11 (.one [] 12 (.one [] 13 (.one [] 14 .stop)))) 11 (.one [] 6 (.one [7,8,9,10] 12 (.one [] 13 (.one [] 14 .stop))))) 11 (.one [] 3 (.one [] 6 (.one [7,8,9,10] 12 (.one [] 13 (.one [] 14 .stop)))))) 11 (.one [] 1 (.one [] 3 (.one [] 6 (.one [7,8,9,10] 12 (.one [] 13 (.one [] 14 .stop))))))) (fun z=>Ext [] w5 z) Bq (by kernel_rfl) (Ext.drew [] w5) ?_;refine I3 U U U ?_;refine BL U (BL U (Am NK U (Bw KG U (fun _ hx=>(by rw [Aj (hx.to h5 (by simp))]; rfl)) ?_)));refine AP ?_;have E:=Ext.drew [] w5;refine ⟨?_,?_⟩
  ·skip
   refine Al RW (KF ha _ (A.ext0 (hx5.trans E))) U ?_;rintro v w ⟨hx12,a2,c2,rfl,R2⟩;rw [← hrs] at R2 ⊢;replace E:=E.trans hx12;refine Ab (BS (by exact E) ?_);refine I3 U U U ?_;refine AP ?_;refine ⟨?_,?_⟩
   ·skip
    refine Al LK (Jc hd _ (D.ext0 (hx5.trans E))) U ?_;rintro v w ⟨hx14,a3,c3,rfl,R3⟩;replace E:=E.trans hx14;replace R2:=R2.ext0 hx14;refine Ab (BS (by exact E) ?_);refine I3 U U U ?_;refine AP ?_;refine ⟨?_,?_⟩
    ·skip
     refine Al MK (Hy a2 a3 _ c2 _ c3 rs ds r.cmp _ R2 U R3 U) U ?_;rintro v w hR;obtain ⟨hx17,N,aE,nE,cE,aI,nI,cI,code,rfl,hU⟩:=hR.uni;replace E:=E.trans hx17;refine Ab (BS (by exact E) ?_);refine BP U U ?_;refine DF U (Bu U U (Bu U U (Bu U U (AP ?_))));have H:=Ctx.start w [];refine Ba Np H ?_;rintro b7 w - H;refine Ab (BS (by exact E.trans H.ext) ?_);refine BP U U ?_;refine AP (Bm CK U U U (by simp [Bg]) H at0 U ?_);rintro w H;refine Ab (BS (by exact E.trans H.ext) ?_);refine BP U U ?_;refine AP (A4 U (Ab (BS (by exact E.trans H.ext) ?_)));refine BP U U ?_;refine AP (Af U (Ab (BS (by exact E.trans H.ext) ?_)));refine Eb ?_;refine Aa ?_;exact ⟨⟨b7,N,aE,nE,cE,aI,nI,cI,code⟩,rfl,⟨rfl,rfl,rfl,trivial⟩,hx5.trans (E.trans H.ext),(E.trans H.ext).to h5 (by simp),H.get at0,hU [] _ (by simp) H.ext⟩
    ·skip
     have H:=Ctx.start w [];refine Ba Np H ?_;rintro b7 w - H;have hn7:w5.heap.size≤b7:=Nat.le_trans E.size ((H.own _ (List.mem_cons_self ..)).elim (fun h=>by cases h) id);replace E:=E.trans H.ext;have hb7:=H.get at0;replace R2:=R2.ext0 H.ext;replace R3:=R3.ext0 H.ext;refine Ab (BS (by exact E) ?_);refine BP U U ?_;refine AP ?_;have hl7:=Bb hb7;refine Al MK (Hy a2 a3 _ c2 _ c3 rs ds r.cmp _ R2 U R3 U) U ?_;rintro v w hR;obtain ⟨hx17,N,aE,nE,cE,aI,nI,cI,code,rfl,hU⟩:=hR.uni;replace E:=E.trans hx17;replace hb7:=hx17.to hb7 (by simp);have H:=Ctx.start1 hb7;refine Ab (BS (by exact E) ?_);refine BP U U ?_;refine DF U (Bu U U (Bu U U (Bu U U (AP (Bm CK U U U (by simp [Bg]) H at0 U ?_)))));rintro w H;refine Ab (BS (by exact E.then H.ext (fun x hx => .inr (by rw [List.mem_singleton.1 hx]; exact hn7))) ?_);refine BP U U ?_
     refine AP (A4 U (Ab (BS (by exact E.then H.ext (fun x hx => .inr (by rw [List.mem_singleton.1 hx]; exact hn7))) ?_)));refine BP U U ?_;refine AP (Af U (Ab (BS (by exact E.then H.ext (fun x hx => .inr (by rw [List.mem_singleton.1 hx]; exact hn7))) ?_)));refine Eb ?_;refine Aa ?_;have E2:=E.then H.ext fun x hx => .inr (by rw [List.mem_singleton.1 hx]; exact hn7);exact ⟨⟨b7,N,aE,nE,cE,aI,nI,cI,code⟩,rfl,⟨rfl,rfl,rfl,trivial⟩,hx5.trans E2,E2.to h5 (by simp),H.get at0,hU [b7] _ (by simpa using hl7) H.ext⟩
   ·skip
    have H:=Ctx.start w [];refine Ba Np H ?_;rintro b7 w - H;have hn7:w5.heap.size≤b7:=Nat.le_trans E.size ((H.own _ (List.mem_cons_self ..)).elim (fun h=>by cases h) id);replace E:=E.trans H.ext;have hb7:=H.get at0;replace R2:=R2.ext0 H.ext;refine Ab (BS (by exact E) ?_);refine BP U U ?_;refine AP (Al LK (Jc hd _ (D.ext0 (hx5.trans E))) U ?_);rintro v w ⟨hx14,a3,c3,rfl,R3⟩;replace E:=E.trans hx14;replace R2:=R2.ext0 hx14;replace hb7:=hx14.to hb7 (by simp);refine Ab (BS (by exact E) ?_);refine BP U U ?_;refine AP ?_;have hl7:=Bb hb7;refine Al MK (Hy a2 a3 _ c2 _ c3 rs ds r.cmp _ R2 U R3 U) U ?_;rintro v w hR;obtain ⟨hx17,N,aE,nE,cE,aI,nI,cI,code,rfl,hU⟩:=hR.uni;replace E:=E.trans hx17;replace hb7:=hx17.to hb7 (by simp);have H:=Ctx.start1 hb7;refine Ab (BS (by exact E) ?_);refine BP U U ?_
    refine DF U (Bu U U (Bu U U (Bu U U (AP (Bm CK U U U (by simp [Bg]) H at0 U ?_)))));rintro w H;refine Ab (BS (by exact E.then H.ext (fun x hx => .inr (by rw [List.mem_singleton.1 hx]; exact hn7))) ?_);refine BP U U ?_;refine AP (A4 U (Ab (BS (by exact E.then H.ext (fun x hx => .inr (by rw [List.mem_singleton.1 hx]; exact hn7))) ?_)));refine BP U U ?_;refine AP (Af U (Ab (BS (by exact E.then H.ext (fun x hx => .inr (by rw [List.mem_singleton.1 hx]; exact hn7))) ?_)));refine Eb ?_;refine Aa ?_;have E2:=E.then H.ext fun x hx => .inr (by rw [List.mem_singleton.1 hx]; exact hn7);exact ⟨⟨b7,N,aE,nE,cE,aI,nI,cI,code⟩,rfl,⟨rfl,rfl,rfl,trivial⟩,hx5.trans E2,E2.to h5 (by simp),H.get at0,hU [b7] _ (by simpa using hl7) H.ext⟩
  ·skip
   have H:=Ctx.start (World.drew w5) [];refine Ba Np H ?_;rintro b7 w - H;have hn7:w5.heap.size≤b7:=Nat.le_trans E.size ((H.own _ (List.mem_cons_self ..)).elim (fun h=>by cases h) id);replace E:=E.trans H.ext;have hb7:=H.get at0;refine Ab (BS (by exact E) ?_);refine BP U U ?_;refine AP (Al RW (KF ha _ (A.ext0 (hx5.trans E))) U ?_);rintro v w ⟨hx12,a2,c2,rfl,R2⟩;rw [← hrs] at R2 ⊢;replace E:=E.trans hx12;replace hb7:=hx12.to hb7 (by simp);refine Ab (BS (by exact E) ?_);refine BP U U ?_;refine AP (Al LK (Jc hd _ (D.ext0 (hx5.trans E))) U ?_);rintro v w ⟨hx14,a3,c3,rfl,R3⟩;replace E:=E.trans hx14;replace R2:=R2.ext0 hx14;replace hb7:=hx14.to hb7 (by simp);refine Ab (BS (by exact E) ?_);refine BP U U ?_;refine AP ?_;have hl7:=Bb hb7;refine Al MK (Hy a2 a3 _ c2 _ c3 rs ds r.cmp _ R2 U R3 U) U ?_;rintro v w hR;obtain ⟨hx17,N,aE,nE,cE,aI,nI,cI,code,rfl,hU⟩:=hR.uni
   replace E:=E.trans hx17;replace hb7:=hx17.to hb7 (by simp);have H:=Ctx.start1 hb7;refine Ab (BS (by exact E) ?_);refine BP U U ?_;refine DF U (Bu U U (Bu U U (Bu U U (AP (Bm CK U U U (by simp [Bg]) H at0 U ?_)))));rintro w H;refine Ab (BS (by exact E.then H.ext (fun x hx => .inr (by rw [List.mem_singleton.1 hx]; exact hn7))) ?_);refine BP U U ?_;refine AP (A4 U (Ab (BS (by exact E.then H.ext (fun x hx => .inr (by rw [List.mem_singleton.1 hx]; exact hn7))) ?_)));refine BP U U ?_;refine AP (Af U (Ab (BS (by exact E.then H.ext (fun x hx => .inr (by rw [List.mem_singleton.1 hx]; exact hn7))) ?_)));refine Eb ?_;refine Aa ?_;have E2:=E.then H.ext fun x hx => .inr (by rw [List.mem_singleton.1 hx]; exact hn7);exact ⟨⟨b7,N,aE,nE,cE,aI,nI,cI,code⟩,rfl,⟨rfl,rfl,rfl,trivial⟩,hx5.trans E2,E2.to h5 (by simp),H.get at0,hU [b7] _ (by simpa using hl7) H.ext⟩
 ·rintro ⟨b7,N,aE,nE,cE,aI,nI,cI,code⟩ j1 w ⟨hx0,h5',hb7,hU⟩; dsimp only at hb7 hU; dsimp only;obtain ⟨w1,rfl⟩:∃ z,z=w:=⟨_,rfl⟩;have H:=Ctx.start w1 [];have RA1:=RA.ext0 hx0
  rcases hU with ⟨hb,rfl,-⟩ | ⟨hb,rfl,rfl,rfl,RE,aI',cI',hI,RI⟩
  ·skip
   refine Ae (Ad U (Ct U U (A7 U (AO 23 U ?_ ?_))))
   ·intro g1;replace g1:=AM g1;exact absurd g1 (by decide)
   ·intro g1;replace g1:=AN g1;refine Ag U (Ag U (Ag U (Ag U (Ag U (Ag U (AG U (.bool _) U (A7 U (Ag U (Ag U ?_)))))))));refine Ag U (Ag U (Ag U (Ag U (AG U (.bool _) U (A7 U (Ag U (Ag U (Ag U (Ag U ?_)))))))));refine AG U (.bool _) U (Ai U (Ab (Aa (A5 (A9 (v:=(.bool _)) U U U ?_)))));exact ⟨congrArg Value.bool (by unfold NA; rw [← hrs,hb]; simp_all),hx0⟩
  ·skip
   cases hI;have hel:(BD rs (opn ds) r.cmp).length≤1000000:=by have:=Iz ds; rw [GC]; split <;> omega
   have hil:((opn ds).map Du.id).length≤1000000:=by have:=Iz ds; rw [List.length_map]; omega
   refine Ae (Ad U (Ct U U (A7 U (AO 23 U ?_ ?_))))
   ·intro h1;replace h1:=AM h1;refine Ah EK U (AV BZ U ((by rw [Aj (H.ext.to hb7 (by simp))]; rfl)) ?_);refine Ah Fg U (Ah EK U (AV BZ U ((by rw [Aj (H.ext.to h5' (by simp))]; rfl)) ?_));refine Ct U U (AF U (.bool _) U (A7 U (AO 31 U ?_ ?_)))
    ·intro h2;replace h2:=AM h2;refine Ah Dd U (AV E4 U ((by rw [Aj (H.ext.to hb7 (by simp))]; rfl)) ?_);refine Ah Fg U (Ah Dd U (AV E4 U ((by rw [Aj (H.ext.to h5' (by simp))]; rfl)) ?_));refine Al Ahy (Aj4 aE q.aE _ cE _ q.cE (BD rs (opn ds) r.cmp) r.es _ (RE.ext0 H.ext) U hel (RA1.E.ext0 H.ext) U he) U ?_;rintro v w ⟨rfl,hx37⟩;replace H:=H.call hx37;refine AF U (.bool _) U (A7 U (AO 39 U ?_ ?_))
     ·intro h3;refine Ay U (Ah EL U (AV Hb U ((by rw [Aj (H.ext.to h5' (by simp))]; rfl)) ?_));refine Al Ahz (Aj5 aI q.aI _ cI _ q.cI ((opn ds).map Du.id) r.ids _ (RI.ext0 H.ext) U hil (RA1.I.ext0 H.ext) U hi) U ?_;rintro v w ⟨rfl,hx43⟩;replace H:=H.call hx43;refine AF U (.bool _) U (Ai U (Ab (Aa (A5 (A9 (v:=(.bool _)) U U U ?_)))));exact ⟨congrArg Value.bool (by unfold NA; rw [← hrs,hb,← hrl]; simp_all),hx0.trans H.ext⟩
     ·intro h4;refine Ag U (Ag U (Ag U (Ag U (AG U (.bool _) U (Ai U (Ab (Aa (A5 (A9 (v:=(.bool _)) U U U ?_)))))))));exact ⟨congrArg Value.bool (by unfold NA; rw [← hrs,hb,← hrl]; simp_all),hx0.trans H.ext⟩
    ·intro h5;replace h5:=AN h5;refine Ag U (Ag U (Ag U (Ag U (Ag U (Ag U (AG U (.bool _) U (A7 U (Ag U (Ag U ?_)))))))));refine Ag U (Ag U (AG U (.bool _) U (Ai U (Ab (Aa (A5 (A9 (v:=(.bool _)) U U U ?_)))))));exact ⟨congrArg Value.bool (by unfold NA; rw [← hrs,hb,← hrl]; simp_all),hx0.trans H.ext⟩
   ·intro h6;replace h6:=AN h6;refine Ag U (Ag U (Ag U (Ag U (Ag U (Ag U (AG U (.bool _) U (A7 U (Ag U (Ag U ?_)))))))));refine Ag U (Ag U (Ag U (Ag U (AG U (.bool _) U (A7 U (Ag U (Ag U (Ag U (Ag U ?_)))))))));refine AG U (.bool _) U (Ai U (Ab (Aa (A5 (A9 (v:=(.bool _)) U U U ?_)))));exact ⟨congrArg Value.bool (by unfold NA; rw [← hrs,hb,← hrl]; simp_all),hx0.trans H.ext⟩
end Go.Proofs.YtdagmpmdcgedcaaGreat
namespace Go.Proofs.YtdagmpmdcgedcaaGreat
open Go.GV
attribute [local irreducible] AD W Wq Wt
set_option maxRecDepth 20000 in
set_option maxHeartbeats 4000000 in
theorem Aeq {c4 c7 by' bd b n:Nat} {nx:Int} {o:Obj} {ds:List Du} {d:Du} {x:Int} {f f':Nat→Int} (w:World)
  (h4:w.heap[c4]? = some (Bl 101 [ptr bd])) (h7:w.heap[c7]? = some (Bl 35 [.slice (some ⟨by',0,none⟩) n n])) (hd:w.heap[bd]? = some (Bl 165 (DU b nx))) (H0:Ctx w [by',b] w [(by',Bl 2 (BV f n)),(b,o)]) (hM:Db .u64 (dm ds) o)
  (n4:c4∉[by',b]) (n7:c7∉[by',b]) (nd:bd∉[by',b]) (hf:CQ ds d.id=some d) (hh:d.held=false) (hx:0≤x∧x≤d.am) (ham:VB ds) (hfr:0≤d.fr∧d.fr<n) (hto:0≤d.to∧d.to<n)
  (hfb:∀ k,-1152921504606846976≤f k∧f k≤1152921504606846976) (hf':∀ k,f' k=f k+(one (d.to.toNat=k) - one (d.fr.toNat=k))*x)  (_hn:n≤1000000:=by omega):
  Ret Tryz.prog 184 #[.int .u64 d.id,.int .i64 x,ptr c4,ptr c7] w fun v w'=>v = .int .i64 0∧∃ o',Db .u64 (dm (Hr ds d.id x)) o'∧Ctx w [by',b] w' [(by',Bl 2 (BV f' n)),(b,o')]:=by
 obtain ⟨w0,rfl⟩:∃ w0,w0=w:=⟨_,rfl⟩;have H:=H0;have hamd:=ham d (HX hf).1;obtain ⟨fn,hfn⟩:∃ fn:Nat,d.fr=fn:=⟨d.fr.toNat,by omega⟩;obtain ⟨tn,htn⟩:∃ tn:Nat,d.to=tn:=⟨d.to.toNat,by omega⟩;obtain ⟨f1,hf1⟩:∃ f1,f1=upd f fn (f fn - x):=⟨_,rfl⟩;have hof:f1 fn=f fn - x:=by rw [hf1,Dn]
 have hon:∀ q,q≠fn→f1 q=f q:=fun q hq=>by rw [hf1,Et hq]
 have hst:∀ q,f' q=upd f1 tn (f1 tn+x) q:=fun q=>by
  rw [hf',hfn,htn,Int.toNat_natCast,Int.toNat_natCast]
  by_cases h1:q=tn
  ·subst h1;rw [Dn,Gl rfl]
   by_cases h2:fn=q
   ·subst h2; rw [Gl rfl,hof]; omega
   ·rw [F6 h2,hon q (Ne.symm h2)]; omega
  ·rw [Et h1,F6 (Ne.symm h1)]
   by_cases h2:fn=q
   ·subst h2; rw [Gl rfl,hof]; omega
   ·rw [F6 h2,hon q (Ne.symm h2)]; omega
 have hb1:=hfb fn;have hb2:=hfb tn
 have hot : -1157425104234217472≤f1 tn∧f1 tn≤1157425104234217472:=by
  by_cases h:tn=fn
  ·rw [h,hof]; omega
  ·rw [hon tn h]; omega
 have hbb:=H.ne at0 at1 (by decide);refine Az (fn:=Tryz.f184) Tryz.func184 U [.int .u64 d.id,.int .i64 x,.pointer (some ⟨c4,0,none⟩),.pointer (some ⟨c7,0,none⟩)] U (by kernel_rfl) ?_;refine Ae (Af U (Ab (Aa (Ae (AV F7 U ((H.old (Aj h4 _) n4)) ?_)))));refine Ad U (Al Va (S2 _ (H.ext.to hd nd) (H.get at1) hM) U ?_);rintro v w ⟨rfl,hx12⟩;replace H:=H.call hx12;rw [show Mi ds d.id=d by unfold Mi; rw [hf]; rfl];refine CA U (AS U U (AS U U (Ba Ex H ?_)));rintro b7 w - H;refine Bm Cg U U U (by exact Dg _) H at0 U ?_;rintro w H;refine Ai U (Ab (Aa (Ae (AV BM U ((H.old (Aj h7 _) n7)) ?_))));refine Ah Iq U (AH BZ U H at0 U (Bn AU Bz U U ?_));refine RJ fn _ U Bs U H at1 (by rw [hfn]; simp) U ?_;refine Ad U (Bp U U ?_);refine Bn AU Bz U U ?_
 refine Ce fn (fun q => .int .i64 (f1 q)) (.int _ _) Bz U U U H at1 (by rw [hfn]; simp) (by rw [hof]) (fun q _ hq=>by rw [hon q hq]) ?_;rintro w H;refine Ab (Aa (Ae (AV BM U ((H.old (Aj h7 _) n7)) ?_)));refine Ah Ir U (AH BZ U H at0 U (Bn AU Bz U U ?_));refine RJ tn _ U Bs U H at1 (by rw [htn]; simp) U ?_;refine Ad U (Aw U U ?_);refine Bn AU Bz U U ?_;refine Ce tn (fun q => .int .i64 (f' q)) (.int _ _) Bz U U U H at1 (by rw [htn]; simp) (by rw [hst,Dn]) (fun q _ hq=>by rw [hst,Et hq]) ?_;rintro w H;refine Ab (Aa (Ae (AV F7 U ((H.old (Aj h4 _) n4)) ?_)));refine Ad U (Ad U ?_);obtain ⟨hc0,hS⟩:=Yb (p:=(d,x)) ⟨hf,hh,hx.1,hx.2⟩;dsimp only at hc0 hS;have Hp:=H.perm (show List.Perm _ [_,_,_] from (List.Perm.swap _ _ _).trans ((List.Perm.swap _ _ _).cons _))
 refine Al Ahh (Aeg (k:=d.id) (x:=x) _ (H.ext.to hd nd) (H.get at2) hM (by intro h; exact nd (by rw [h]; simp)) ham) U ?_;rintro v w ⟨rfl,o',hM',H2⟩;rw [hc0];rw [hS] at hM';refine Af U (Ab (Aa (A5 (A9 (v:=(.int _ _)) U U U ?_))));have HB:=Ctx.back (L1:=[_]) (L2:=[_,_]) (Hp.perm (List.Perm.swap _ _ _)) H2;exact ⟨rfl,o',hM',(HB.perm (List.Perm.swap _ _ _)).left (L:=[_,_]) (L':=[_])⟩
end Go.Proofs.YtdagmpmdcgedcaaGreat
namespace Go.Proofs.YtdagmpmdcgedcaaGreat
open Go.GV
attribute [local irreducible] AD W Wq Wt
theorem Af3 {α:Type} (A B C p y q1 q2:α) (E:List α):(A::B::C::(E++[p,y,q1,q2])).Perm (y::C::A::B::p::q1::q2::E):=by
 have h1:(A::B::C::(E++[p,y,q1,q2])).Perm (A::B::C::p::y::q1::q2::E):=((List.perm_append_comm (l₁:=E) (l₂:=[p,y,q1,q2])).cons C |>.cons B).cons A;have h2:(A::B::C::p::y::q1::q2::E).Perm (y::A::B::C::p::q1::q2::E):=List.perm_middle (l₁:=[A,B,C,p]);have h3:(A::B::C::p::q1::q2::E).Perm (C::A::B::p::q1::q2::E):=List.perm_middle (l₁:=[A,B]);exact h1.trans (h2.trans (h3.cons y))
theorem Ctx.turnEnt {w0 w w':World} {S:List Nat} {L:List (Nat × Obj)} {a:Option Addr} {t:TypeId} {full full':List Value} (H:Ctx w0 S w (L++ent a t full)) (he:Ext ((ent a t full).map (·.1)) w w') (hb:∀ x∈ent a t full',w'.heap[x.1]? = some x.2):Ctx w0 S w' (L++ent a t full'):=by
 have H':Ctx w ((ent a t full).map (·.1)) w' (ent a t full'):=⟨he,hb,Ge,fun x hx=>by
  cases a with
  | none=>simp [ent] at hx
  | some p =>
   simp only [ent,List.mem_singleton] at hx;subst hx
   exact .inl (by simp [ent])⟩
 exact (Ctx.back (Ctx.comm H) H').comm
theorem Cm {w:World} {b:Nat} {t:TypeId} {l:List Value} (h:w.heap[b]? = some (Bl t l)) (o:Nat) (l':List Value) (hl:(l.drop o).take l'.length=l'):∀ j v,l'[j]? = some v→w.cell? ⟨b,o+j,none⟩=some v:=fun j v hv=>by
 rw [Aj h];have hj:=Cu hv;rw [← hl,List.getElem?_take,if_pos hj,List.getElem?_drop] at hv;exact hv
theorem ROff.or {q:RSl} {r:Rnd} {S T:Nat→Prop} (h:ROff q r S) (k:ROff q r T):ROff q r (fun x=>S x∨T x) :=
 ⟨fun g x=>x.elim (h.I g) (k.I g),fun g x=>x.elim (h.E g) (k.E g),fun g x=>x.elim (h.F g) (k.F g),fun g x=>x.elim (h.P g) (k.P g)⟩
structure ApF (acs:List Ac) (ds:List Du) (r:Rnd):Prop where
 B:Bright (acs.map C5) ds
 N:r.N=(((acs.map C5).length+1:Nat):Int)
 es:r.es=BD (acs.map C5) (opn ds) r.cmp
 ids:r.ids=(opn ds).map Du.id
 pay:PayIn (opn ds) (r.fl.take (opn ds).length)
 len:r.fl.length=r.es.length
 by':∀ (k:Nat) (a:Ac),acs[k]? = some a→(r.cmp=true→byK (acs.map C5) (opn ds) r.cmp r.fl k=0) ∧ -(C5 a)≤byK (acs.map C5) (opn ds) r.cmp r.fl k∧byK (acs.map C5) (opn ds) r.cmp r.fl k≤4503599627370496
 sum:B7 (byK (acs.map C5) (opn ds) r.cmp r.fl) acs.length=0
 ok:KU ds ((opn ds).zip (r.fl.take (opn ds).length))
 all:Kk ds ((opn ds).zip (r.fl.take (opn ds).length))=DH ds (r.fl.take (opn ds).length)
theorem Aba {acs:List Ac} {ds:List Du} {nx:Int} {r:Rnd} (_ha:Eu acs=0) (hd:ofC ds nx=0) (hck:F9 r.N r.es r.fl r.pot=true) (hnow:NA acs ds r=true):ApF acs ds r:=by
 have hm64:=(Fy.1 hd).1;unfold NA at hnow;simp only [Bool.and_eq_true,decide_eq_true_eq] at hnow;obtain ⟨h1,h2,h3,h4⟩:=hnow;have hB:=(HY).1 h1;have hN:r.N=(((acs.map C5).length+1:Nat):Int):=by rw [List.length_map]; exact h2.symm
 have hf:=(Ga.1 hck).1;rw [hN,← h3] at hf;obtain ⟨f1,f2,f3,f4⟩:=Ud (fun x hx=>(C4.1 (hB.may x hx)).1) hB.open'.due hf;have hp:=Aem f1 [] (by rw [List.nil_append]; exact Kl hd);rw [List.nil_append] at hp;rw [List.length_map] at f4;exact ⟨hB,hN,h3.symm,h4.symm,f1,by rw [f2,h3],fun k a hk=>f3 k _ (by rw [List.getElem?_map,hk]; rfl),f4,hp.1,hp.2⟩
def DW (acs:List Ac) (ds:List Du) (r:Rnd):Int:=if F9 r.N r.es r.fl r.pot=false then 1 else if NA acs ds r=false then 3 else 0
def DK (acs:List Ac) (ds:List Du) (r:Rnd):List Ac:=if DW acs ds r=0 then shA acs (tab (byK (acs.map C5) (opn ds) r.cmp r.fl) acs.length) else acs
def D5 (acs:List Ac) (ds:List Du) (r:Rnd):List Du:=if DW acs ds r=0 then DH ds (r.fl.take (opn ds).length) else ds
theorem DL {acs:List Ac} {ds:List Du} {nx:Int} {r:Rnd} (ha:Eu acs=0) (hd:ofC ds nx=0) (h:DW acs ds r=0):ApF acs ds r:=by
 unfold DW at h
 cases h1:F9 r.N r.es r.fl r.pot with
 | false=>rw [if_pos h1] at h; simp at h
 | true =>
  rw [if_neg (by rw [h1]; decide)] at h
  cases h2:NA acs ds r with
  | false=>rw [if_pos h2] at h; simp at h
  | true=>exact Aba ha hd h1 h2
theorem G2 {acs:List Ac} {ds:List Du} {nx:Int} {r:Rnd} (ha:Eu acs=0) (hd:ofC ds nx=0):Eu (DK acs ds r)=0∧ofC (D5 acs ds r) nx=0∧(DK acs ds r).length=acs.length:=by
 unfold DK D5
 by_cases h:DW acs ds r=0
 ·rw [if_pos h,if_pos h];have F:=DL ha hd h;exact ⟨(Iy ha (fun k a hk=>(F.by' k a hk).2) F.sum).2,Ael F.pay hd,NS⟩
 ·rw [if_neg h,if_neg h];exact ⟨ha,hd,rfl⟩
abbrev LX (bx:Nat) (a:Option Addr) (n c:Nat) (full:List Value) (bd b:Nat) (nx:Int) (o:Obj):List (Nat × Obj):=(bx,Bl 162 [.slice a n c])::(bd,Bl 165 (DU b nx))::(b,o)::ent a 43 full
structure AP7 where
 i:Nat
 o:Obj
set_option maxRecDepth 20000 in
set_option maxHeartbeats 8000000 in
theorem Abb {bx bd b c:Nat} {a:Option Addr} {full:List Value} {o:Obj} {acs:List Ac} {ds:List Du} {nx:Int} {r:Rnd} {q:RSl} (ha:Eu acs=0) (hd:ofC ds nx=0) (w:World)
  (H0:Ctx w ((LX bx a acs.length c full bd b nx o).map (·.1)) w (LX bx a acs.length c full bd b nx o)) (O:OS a acs.length c 2 full (acs.flatMap CX)) (hM:Db .u64 (dm ds) o) (RA:RAt w r q) (hoff:ROff q r (·∈(LX bx a acs.length c full bd b nx o).map (·.1)))
  (hN:I64 r.N) (he:r.es.length≤1000000) (hi:r.ids.length≤1000000) (hf:r.fl.length≤1000000) (hp:r.pot.length≤1000000) :
  Ret Tryz.prog 113 #[ptr bx,ptr bd,.agg (B0 r q).toArray] w fun v w'=>v = .int .i64 (DW acs ds r)∧∃ full' o',OS a acs.length c 2 full' ((DK acs ds r).flatMap CX)∧Db .u64 (dm (D5 acs ds r)) o' ∧
   Ctx w ((LX bx a acs.length c full bd b nx o).map (·.1)) w' (LX bx a acs.length c full' bd b nx o'):=by
 obtain ⟨w0,rfl⟩:∃ w0,w0=w:=⟨_,rfl⟩;have H:=Ctx.start w0 [];have hn16:=(Cd.1 ha).1;have hm64:=(Fy.1 hd).1;have hbx:=H0.get at0;have hbd:=H0.get at1;have hb:=H0.get at2;have RAc:Rd w0 a 2 CX acs:=OS.rd O (fun x hx=>H0.blk x (List.mem_cons_of_mem _ (List.mem_cons_of_mem _ (List.mem_cons_of_mem _ hx)))) (fun _ _=>rfl) (by decide);have A:AcAt w0 162 bx acs:=⟨a,c,hbx,RAc⟩;have D:DuAt w0 bd ds:=⟨b,nx,o,hbd,hb,hM⟩;obtain ⟨ck,hck⟩:∃ ck,ck=F9 r.N r.es r.fl r.pot:=⟨_,rfl⟩;obtain ⟨nw,hnw⟩:∃ nw,nw=NA acs ds r:=⟨_,rfl⟩;refine Az (fn:=Tryz.f113) Tryz.func113 U [.pointer (some ⟨bx,0,none⟩),.pointer (some ⟨bd,0,none⟩),.agg (B0 r q).toArray] U (by kernel_rfl) ?_;refine Ae (Bx [ptr bd] (.pointer _) U U H ?_);rintro b4 w - H;refine Bx (B0 r q) (.agg _) U U H ?_;rintro b5 w - H
 refine Af U (Ab (Aa (Au (A0 (Ae (Cb (α:=Unit) 520192 (fun _=>[(12,.bool (false))]) (fun _ w'=>Ctx w0 [] w' [(b5,Bl 55 (B0 r q)),(b4,Bl 101 [ptr bd])]) U ?_ ?_))))))
 ·refine A2 U (Cw Nm U ?_);refine A7 U (AO 15 U ?_ ?_)
  ·intro h1;refine Ag U (Ag U (AF U (.bool _) U (Ai U (Ab ?_))));exact ⟨rfl,(),rfl,⟨congrArg Value.bool (by simp_all),trivial⟩,H⟩
  ·intro h2;refine AH F7 U H at1 U (Cw I6 U ?_);refine AG U (.bool _) U (Ai U (Ab ?_));exact ⟨rfl,(),rfl,⟨congrArg Value.bool (by rfl),trivial⟩,H⟩
 rintro - j12 w H;refine EH U (Ae (Ah Fg U (BW _ Dh CK U U ((Cm (b:=b5) (t:=55) (l:=B0 r q) (H.get at0) 4 [.int .i64 r.N,.slice q.aE r.es.length q.cE] U)) ?_)));refine Ah DG U (BW _ Ty Nl U U ((Cm (b:=b5) (t:=55) (l:=B0 r q) (H.get at0) 6 [.slice q.aF r.fl.length q.cF,.slice q.aP r.pot.length q.cP] U)) ?_);refine Al Za (TG r.N q.aE q.aF q.aP _ q.cE _ q.cF _ q.cP r.es r.fl r.pot _ (RA.E.ext0 H.ext) U hN (RA.F.ext0 H.ext) U (by omega) (RA.P.ext0 H.ext) U (by omega)) U ?_;rintro v w ⟨rfl,hx24⟩;rw [← hck];replace H:=H.call hx24;refine BF U (Ai U (Ab (Aa (Ao _ U ?_ ?_))))
 ·intro h1;replace h1:=BG h1;refine Ae (Af U (Ab (Aa (A5 (AB (Aq (A9 (v:=(.int _ _)) U U U ?_)))))));have h1':ck=false:=by simpa using h1
  have hC:DW acs ds r=1:=by unfold DW; rw [← hck,if_pos h1']
  unfold DK D5;rw [hC,if_neg (by decide),if_neg (by decide)];exact ⟨rfl,full,o,O,hM,H0.call H.ext⟩
 ·intro h1;replace h1:=BH h1;have h1':ck=true:=by simpa using h1
  refine Ae (A2 U (AH F7 U H at1 U (Cr GM D4 U H at0 U (Al Ahf (Aj8 ha hd _ (A.ext0 H.ext) (D.ext0 H.ext) (RA.ext0 H.ext) he hi) U ?_))));rintro v w ⟨rfl,hx30⟩;rw [← hnw];replace H:=H.call hx30;refine BF U (Ai U (Ab (Aa (Ao _ U ?_ ?_))))
  ·intro h2;replace h2:=BG h2;refine Ae (Af U (Ab (Aa (A5 (AB (Aq (A9 (v:=(.int _ _)) U U U ?_)))))));have h2':nw=false:=by simpa using h2
   have hC:DW acs ds r=3:=by unfold DW; rw [← hck,h1',if_neg (by decide),← hnw,if_pos h2']
   unfold DK D5;rw [hC,if_neg (by decide),if_neg (by decide)];exact ⟨rfl,full,o,O,hM,H0.call H.ext⟩
  ·intro h2;replace h2:=BH h2;have h2':nw=true:=by simpa using h2
   have hC:DW acs ds r=0:=by unfold DW; rw [← hck,h1',if_neg (by decide),← hnw,h2',if_neg (by decide)]
   have F:=DL ha hd hC;unfold DK D5;rw [hC,if_pos rfl,if_pos rfl];have hSh:=(Iy ha (fun k a hk=>(F.by' k a hk).2) F.sum).1;obtain ⟨f,hf0⟩:∃ f:Nat→Nat→Int,f=fun i=>Ea (grE (((acs.map C5).length+1:Nat):Int) (BD (acs.map C5) (opn ds) r.cmp)) (flE r.fl) i:=⟨_,rfl⟩;have hfe:byK (acs.map C5) (opn ds) r.cmp r.fl=f (opn ds).length:=by rw [hf0]; rfl
   rw [hfe] at hSh ⊢;have hf00:f 0=fun _=>0:=by rw [hf0]; rfl
   obtain ⟨m,hm⟩:∃ m,m=(opn ds).length:=⟨_,rfl⟩;have hml:m≤64:=by have:=Iz ds; omega
   have hmf:m≤r.fl.length:=by rw [F.len,F.es,GC]; omega
   have hltm:(r.fl.take m).length=m:=by rw [List.length_take]; omega
   have hidl:r.ids.length=m:=by rw [F.ids,List.length_map,hm]
   have hcut:Sz (r.ids.length:Int) r.fl.length=m:=by unfold Sz; rw [hidl]; omega
   rw [← hm] at hSh ⊢;refine Ap (A6 (Aa (Ae (A2 U (Al Zs (Ps (bd:=bx) a acs.length c acs _ (H.ext.to hbx (by simp)) (RAc.ext0 H.ext) U) U ?_)))));rintro v w F33;obtain ⟨a33,n33,c33,f33,rfl,O33,-⟩:=F33.ex;obtain rfl:=O33.numN (fun _ _=>rfl) (by decide);replace H:=H.call F33.ext;refine Be DA U (Hk AU Bz Lh Ei U U H ?_);rintro b35 w - H;rw [Int.toNat_natCast,Fa] at H;rw [Int.toNat_natCast];refine Ba Afz H ?_;rintro b7 w - H;refine Ci (.slice _ _ _) Afv U U U H at0 (by decide) ?_;rintro w H;refine Ab (Aa (Ae (Ck [.pointer _,.pointer _] U (CY U (.func _ _ _) U ?_))));refine Ab (Aa (Au (Ae (Ah Fg U (BW _ Dh CK U U ((Cm (b:=b5) (t:=55) (l:=B0 r q) (H.get at2) 4 [.int .i64 r.N,.slice q.aE r.es.length q.cE] U)) ?_)))))
   refine Ah DG U (Ah FK U (AH BM U H at2 U (Ah EL U (AH Hb U H at2 U (Be Bt U (Al YV (WJ r.N q.aE q.aF r.es.length q.cE _ q.cF (r.ids.length:Int) r.fl _ (RA.F.ext0 H.ext) U RA.fc hf) U ?_))))));rintro v w F45;rw [hcut] at F45;obtain ⟨a45,n45,c45,f45,rfl,O45,hb45⟩:=F45.ex;have hn45:=O45.num;rw [List.length_take,Nat.min_eq_left hmf] at hn45;rw [hn45] at O45 ⊢;refine Be AU U (Ad U (Ab (Aa (A0 ?_))));have HFp:=(Ctx.callEnt H0 H.ext (fun x hx=>⟨H.blk x hx,(H.own x hx).elim (fun h=>by cases h) id⟩) H.nd).perm (Af3 _ _ _ _ _ _ _ _);have HF:=HFp.call F45.ext;have E9:=H.ext.trans F45.ext
   obtain ⟨S9,hS9⟩:∃ S9,S9=((b35,Bl 2 (List.map (fun _=>Value.int .i64 0) (List.range acs.length)))::(b,o)::(bx,Bl 162 [.slice a acs.length c])::(bd,Bl 165 (DU b nx))::(b7,Bl 35 [.slice (some ⟨b35,0,none⟩) acs.length acs.length])::(b5,Bl 55 (B0 r q))::(b4,Bl 101 [ptr bd])::ent a 43 full).map (·.1):=⟨_,rfl⟩;have RPY:Rd w a45 1 I1 (r.fl.take m):=O45.rd1 fun x hx=>(hb45 x hx).1
   have hPY:r.fl.take m≠[]→(adr a45).block∉S9:=fun hne hm9=>by
    obtain ⟨z,rfl⟩:=O45.form (by have:=List.length_pos_iff.2 hne; rw [List.length_take] at this; omega);have h7:=(hb45 (z,Bl 2 f45) (List.mem_singleton.2 rfl)).2;rw [hS9] at hm9;obtain ⟨y,hy,hy2⟩:=List.mem_map.1 hm9;have h8:=Bb (HFp.blk y hy);dsimp only at h7;have h9:y.1=z:=hy2;omega
   have RA9:=RA.ext0 E9
   have hoff9:ROff q r (·∈S9):=(hoff.or RA.lt).mono fun x hx=>by
    rw [hS9] at hx;obtain ⟨y,hy,rfl⟩:=List.mem_map.1 hx;exact HFp.own y hy
   clear HFp;obtain ⟨w9,rfl⟩:∃ z,z=w:=⟨_,rfl⟩;replace HF:Ctx w0 ((LX bx a acs.length c full bd b nx o).map (·.1)) w9 (((b35,Bl 2 (List.map (fun _=>Value.int .i64 0) (List.range acs.length)))::(b,o)::(bx,Bl 162 [.slice a acs.length c])::(bd,Bl 165 (DU b nx))::(b7,Bl 35 [.slice (some ⟨b35,0,none⟩) acs.length acs.length])::(b5,Bl 55 (B0 r q))::(b4,Bl 101 [ptr bd])::ent a 43 full)++[]):=by rw [List.append_nil]; exact HF
   have H:Ctx w9 S9 w9 ((b35,Bl 2 (List.map (fun _=>Value.int .i64 0) (List.range acs.length)))::(b,o)::(bx,Bl 162 [.slice a acs.length c])::(bd,Bl 165 (DU b nx))::(b7,Bl 35 [.slice (some ⟨b35,0,none⟩) acs.length acs.length])::(b5,Bl 55 (B0 r q))::(b4,Bl 101 [ptr bd])::ent a 43 full):=by rw [hS9]; exact Ctx.lend HF
   refine Bv 18446603336221199936 (α:=AP7) (fun t=>[(47,.int .i64 (t.i:Int))]) (fun t w'=>t.i≤m∧Db .u64 (dm (Kk ds (((opn ds).zip (r.fl.take m)).take t.i))) t.o∧Ctx w9 S9 w' ((b35,Bl 2 (BV (f t.i) acs.length))::(b,t.o)::(bx,Bl 162 [.slice a acs.length c])::(bd,Bl 165 (DU b nx))::(b7,Bl 35 [.slice (some ⟨b35,0,none⟩) acs.length acs.length])::(b5,Bl 55 (B0 r q))::(b4,Bl 101 [ptr bd])::ent a 43 full)) (fun t=>m - t.i) ⟨0,o⟩ U ?_ ?_ ?_
   ·exact ⟨rfl,trivial⟩
   ·refine ⟨Nat.zero_le _,hM,?_⟩;dsimp only;rw [hf00];exact H
   ·clear H;rintro ⟨i,o1⟩ jj w ⟨hi7,hM1,H⟩; dsimp only at hi7 hM1 H; dsimp only;refine Ae (Bj U U (Ab (Aa (Au (Ao _ U ?_ ?_)))))
    ·intro h3;replace h3:=AM h3;obtain ⟨d,hdi⟩:=A8 (l:=opn ds) (i:=i);obtain ⟨x,hxi⟩:=A8 (l:=r.fl) (i:=i);have hxt:(r.fl.take m)[i]? = some x:=by rw [List.getElem?_take,if_pos (by omega)]; exact hxi
     have hid:r.ids[i]? = some d.id:=by rw [F.ids,List.getElem?_map,hdi]; rfl
     have hps:((opn ds).zip (r.fl.take m))[i]? = some (d,x):=by rw [List.getElem?_zip_eq_some]; exact ⟨hdi,hxt⟩
     have hok:=F.ok;rw [← hm] at hok;obtain ⟨⟨hfd,hheld,hx0,hx1⟩,hnext⟩:=Ub hok hps;dsimp only at hfd hheld hx0 hx1 hnext;have ham7:=(WK (of_am hd) hok i).1;have hDI:=F.B.open'.due d (List.mem_of_getElem? hdi);rw [List.length_map] at hDI;have hdm:=CW hDI.1
     have hfb:∀ k,-1152921504606846976≤f i k∧f i k≤1152921504606846976:=fun k=>by
      have:=Kc (g:=grE (((acs.map C5).length+1:Nat):Int) (BD (acs.map C5) (opn ds) r.cmp)) (x:=flE r.fl) (c:=4503599627370496) k (k:=i) fun j hj=>by
       obtain ⟨d',hd'⟩:=A8 (l:=opn ds) (i:=j);obtain ⟨x',hx'⟩:=A8 (l:=r.fl) (i:=j);have h1:=F.pay.2 j d' x' hd' (by rw [List.getElem?_take,if_pos (by omega)]; exact hx');have h2:=(CW (F.B.open'.due d' (List.mem_of_getElem? hd')).1).2.2.2.1;show 0≤r.fl.getD j 0∧r.fl.getD j 0≤_;rw [Bi hx'];omega
      rw [hf0];dsimp only;omega
     have hfs:∀ k,f (i+1) k=f i k+(one (d.to.toNat=k) - one (d.fr.toNat=k))*x:=fun k=>by
      rw [hf0];dsimp only;rw [G0,S5 (Ix hdi),S6 (Ix hdi),show flE r.fl i=x from Bi hxi]; rfl
     refine Ap (Aa (Au (A0 (Ae (Ad U (AX RPY AU Bz U U (by omega) ?_))))));refine AV Bs U (((RPY.ext' H.ext hPY).fld hxt U (j:=0) U)) ?_;refine Af U (Af U (Ab (Aa (Ae (Dq U (.func _ _ _) U ?_)))));refine Ah EL U (AH Hb U H at5 U (Ad U (AX RA9.I Bt Bo U U (by rfl) ?_)));refine AV B1 U (((RA9.I.ext' H.ext hoff9.I).fld hid U (j:=0) U)) ?_
     refine Ad U (Gd U Ahg (Aeq (f:=f i) (f':=f (i+1)) (x:=x) (d:=d) _ (H.get at6) (H.get at4) (H.get at3) (Ctx.lend (L1:=[_,_]) (L2:=_) H) hM1 (fun h=>by simp only [List.mem_cons,List.not_mem_nil,or_false] at h; exact h.elim (H.ne at6 at0 (by decide)) (H.ne at6 at1 (by decide))) (fun h=>by simp only [List.mem_cons,List.not_mem_nil,or_false] at h; exact h.elim (H.ne at4 at0 (by decide)) (H.ne at4 at1 (by decide))) (fun h=>by simp only [List.mem_cons,List.not_mem_nil,or_false] at h; exact h.elim (H.ne at3 at0 (by decide)) (H.ne at3 at1 (by decide))) hfd hheld ⟨hx0,hx1⟩ ham7 ⟨hdm.1.1,hDI.2.1⟩ ⟨hdm.2.1.1,hDI.2.2⟩ hfb hfs) U ?_);rintro v w ⟨rfl,o2,hM2,H2⟩;replace H:=Ctx.back (L1:=[_,_]) (L2:=_) H H2;rw [← hnext] at hM2;refine Af U (Ab (Aa (Ae (Ad U (C0 U U (Ab (Aa (Ao _ U ?_ ?_))))))))
     ·intro h4;replace h4:=C7 h4;exact absurd U h4
     ·intro h4;replace h4:=C8 h4;refine Ap (A6 (Aa (Ax (Aw U U ?_))));refine Ad U (Ab (Aa ?_));exact ⟨⟨i+1,o2⟩,rfl,⟨rfl,trivial⟩,⟨by dsimp only; omega,hM2,H⟩,by dsimp only; omega⟩
    ·intro h3;replace h3:=AN h3;obtain rfl:i=m:=by omega
     have hall:=F.all;rw [← hm] at hall;rw [List.take_of_length_le (by rw [List.length_zip,← hm,List.length_take]; omega),hall] at hM1;refine Br (An (An (AK (Aa (Ae (A2 U (AH BM U H at4 U (Al Ahi (XQ (bd:=bx) a (some ⟨b35,0,none⟩) c acs.length acs.length full acs (tab (f i) acs.length) _ (H.get at2) O (fun x hx=>⟨H.blk x (List.mem_append_right [_,_,_,_,_,_,_] hx),fun h=>(List.pairwise_cons.1 H0.nd).1 x (List.mem_cons_of_mem _ (List.mem_cons_of_mem _ hx)) h.symm⟩) (C1 (H.get at0)) (CP _ _)) U ?_))))))));rintro v w ⟨rfl,full',O',hb',hx66⟩;rw [hSh];refine Af U (Ab (Aa (A5 (A9 (v:=(.int _ _)) U U U ?_))));have HT:=Ctx.turnEnt (L:=[_,_,_,_,_,_,_]) H hx66 hb';rw [hS9] at HT;have HB:=Ctx.back HF HT;rw [List.append_nil] at HB;exact ⟨rfl,full',o1,O',hM1,(HB.perm (Af3 _ _ _ _ _ _ _ _).symm).left (L':=[_,_,_,_])⟩
end Go.Proofs.YtdagmpmdcgedcaaGreat
namespace Go.Proofs.YtdagmpmdcgedcaaGreat
open Go.GV
attribute [local irreducible] AD W Wq Wt
def plc (k:Nat) (d:Du):Int:=one (d.to=(k:Int)) - one (d.fr=(k:Int))
theorem Jd {p q:Prop} [Decidable p] [Decidable q] (h:p↔q):one p=one q:=by
 by_cases hp:p
 ·rw [Gl hp,Gl (h.1 hp)]
 ·rw [F6 hp,F6 (fun hq=>hp (h.2 hq))]
def Ev (acs:List Ac) (ds:List Du) (k:Nat):Int:=(acs.getD k a00).ba+BN (ds.map fun d=>plc k d*d.am)
theorem Mk {rs:List Int} {os:List Du} {net:Bool} {fl:List Int} {k:Nat} (hos:∀ d∈os,0≤d.fr∧0≤d.to) (hl:os.length≤fl.length):byK rs os net fl k=BN (List.zipWith (fun d x=>plc k d*x) os (fl.take os.length)):=by
 unfold byK Ea;rw [← Pp]
 congr 1
 refine List.ext_getElem? fun i=>?_
 rcases Nat.lt_or_ge i os.length with hi | hi
 ·obtain ⟨d,hd⟩:=A8 (h:=hi);obtain ⟨x,hx⟩:=A8 (l:=fl) (i:=i);have he:=Ix (rs:=rs) (net:=net) hd;have h0:=hos d (List.mem_of_getElem? hd);rw [BU hi,List.getElem?_zipWith,hd,List.getElem?_take,if_pos hi,hx,S6 he,S5 he];unfold flE;rw [Bi hx];have h1:one ((Kj d).t.toNat=k)=one (d.to=(k:Int)):=Jd ⟨fun h=>by have:d.to.toNat=k:=h; omega,fun h=>by show d.to.toNat=k; omega⟩;have h2:one ((Kj d).f.toNat=k)=one (d.fr=(k:Int)):=Jd ⟨fun h=>by have:d.fr.toNat=k:=h; omega,fun h=>by show d.fr.toNat=k; omega⟩;rw [h1,h2];rfl
 ·rw [List.getElem?_eq_none (by rw [CP]; omega),List.getElem?_eq_none (by rw [List.length_zipWith]; omega)]
theorem Aer {nx:Int} {ds:List Du} (hd:ofC ds nx=0) {d:Du} (h:d∈ds):(0≤d.fr∧d.fr<16)∧(0≤d.to∧d.to<16)∧d.fr≠d.to∧(1≤d.am∧d.am≤4503599627370496):=by
 have:=CW (VA hd h).2.2;exact ⟨this.1,this.2.1,this.2.2.1,this.2.2.2.1⟩
theorem Hz {acs:List Ac} {ds:List Du} {nx:Int} {r:Rnd} (ha:Eu acs=0) (hd:ofC ds nx=0) (hC:DW acs ds r=0) {k:Nat} {a:Ac} (hk:acs[k]? = some a):(DK acs ds r)[k]? = some ⟨a.ba+byK (acs.map C5) (opn ds) r.cmp r.fl k,a.re⟩:=by
 have F:=DL ha hd hC;unfold DK;rw [if_pos hC];exact S7 (Iy ha (fun k a hk=>(F.by' k a hk).2) F.sum).1 hk
theorem VD {acs:List Ac} {ds:List Du} {nx:Int} {r:Rnd} (ha:Eu acs=0) (hd:ofC ds nx=0) (hC:DW acs ds r=0) {k:Nat} (hk:k<acs.length):Ev (DK acs ds r) (D5 acs ds r) k=Ev acs ds k:=by
 obtain ⟨a,hk⟩:=A8 (h:=hk);have F:=DL ha hd hC;have hmf:(opn ds).length≤r.fl.length:=by rw [F.len,F.es,GC]; omega
 have hb:=Mk (rs:=acs.map C5) (os:=opn ds) (net:=r.cmp) (fl:=r.fl) (k:=k) (fun d h=>by have:=Aer hd (S8 h).1; omega) hmf;have hs:=TZ (plc k) (fun _ _=>rfl) F.pay;unfold Ev;rw [Bi (Hz ha hd hC hk),Bi hk,hb];unfold D5;rw [if_pos hC,hs];dsimp only;omega
theorem QS {acs:List Ac} {ds:List Du} {net:Bool} {r:Rnd} (hb:D0 (acs.map C5) ds=true) (P:PlanR acs ds net r):DW acs ds r=0:=by
 unfold DW NA;rw [P.chk,hb,P.cmp,P.es,P.ids,P.N];simp
theorem Abc {acs:List Ac} {ds:List Du} {nx:Int} {r:Rnd} (ha:Eu acs=0) (hd:ofC ds nx=0) (hC:DW acs ds r=0) {k:Nat} {a b:Ac} (hk:acs[k]? = some a) (hb:(DK acs ds r)[k]? = some b):min a.ba a.re≤b.ba∧b.re=a.re∧(r.cmp=true→b.ba=a.ba):=by
 have F:=DL ha hd hC;rw [Hz ha hd hC hk] at hb
 injection hb with hb
 obtain ⟨h1,h2,-⟩:=F.by' k a hk
 subst hb;refine ⟨?_,rfl,fun h=>by dsimp only; rw [h1 h]; omega⟩;have h3:C5 a=max 0 (a.ba - a.re):=rfl;rw [h3] at h2;dsimp only;omega
theorem Ml:∀ {ds:List Du} {xs:List Int} {e:Du},e∈DH ds xs→∃ d∈ds,e.id=d.id
 | [],_,_,h=>by cases h
 | d::ds,[],e,h=>⟨e,h,rfl⟩
 | d::ds,x::xs,e,h=>by
  unfold DH at h
  split at h
  ·rcases List.mem_cons.1 h with rfl | h
   ·exact ⟨_,List.mem_cons_self ..,rfl⟩
   ·obtain ⟨d',h1,h2⟩:=Ml h;exact ⟨d',List.mem_cons_of_mem _ h1,h2⟩
  ·split at h
   ·obtain ⟨d',h1,h2⟩:=Ml h;exact ⟨d',List.mem_cons_of_mem _ h1,h2⟩
   ·rcases List.mem_cons.1 h with rfl | h
    ·exact ⟨d,List.mem_cons_self ..,rfl⟩
    ·obtain ⟨d',h1,h2⟩:=Ml h;exact ⟨d',List.mem_cons_of_mem _ h1,h2⟩
def MgI (ds left:List Du) (i j:Nat):Prop:=j≤left.length∧∃ xs,PayIn (opn (ds.drop i)) xs∧left.drop j=DH (ds.drop i) xs
theorem MgI.start {ds:List Du} {xs:List Int} (h:PayIn (opn ds) xs):MgI ds (DH ds xs) 0 0:=⟨Nat.zero_le _,xs,h,rfl⟩
theorem J3 {α:Type} {l:List α} {i:Nat} {x:α} (h:l[i]? = some x):l.drop i=x::l.drop (i+1):=by
 obtain ⟨h1,rfl⟩:=List.getElem?_eq_some_iff.1 h;exact List.drop_eq_getElem_cons h1
theorem QT {α:Type} {l m:List α} {j:Nat} {x:α} (h:l.drop j=x::m):l[j]? = some x∧l.drop (j+1)=m:=by
 have h1:(l.drop j)[0]? = some x:=by rw [h]; rfl
 rw [List.getElem?_drop,Nat.add_zero] at h1;refine ⟨h1,?_⟩;rw [J3 h1] at h;injection h
theorem MgI.step {ds left:List Du} {i j:Nat} {d:Du} (hs:(ds.map (·.id)).Pairwise (·<·)) (h:MgI ds left i j) (hd:ds[i]? = some d) (hp:1≤d.am) :
  (∃ e,left[j]? = some e∧e.id=d.id∧e.am≤d.am∧1≤e.am∧(d.held=true→e=d)∧MgI ds left (i+1) (j+1)) ∨
  (d.held=false∧(∀ e,left[j]? = some e→e.id≠d.id)∧MgI ds left (i+1) j):=by
 obtain ⟨hj,xs,hP,hl⟩:=h;rw [J3 hd] at hP hl;rw [EY] at hP
 by_cases hh:d.held=true
 ·rw [if_pos hh] at hP
  have hl':left.drop j=d::DH (ds.drop (i+1)) xs:=by
   rw [hl]; exact FP hh _ _
  obtain ⟨g1,g2⟩:=QT hl';exact .inl ⟨d,g1,rfl,Int.le_refl _,hp,fun _=>rfl,Cu g1,xs,hP,g2⟩
 ·rw [if_neg hh] at hP;obtain ⟨x,xs,rfl⟩:=PayIn.cons hP;obtain ⟨⟨h0,h1⟩,hP⟩:=PayIn.tail hP;rw [FQ hh] at hl
  by_cases hx:d.am=x
  ·rw [if_pos hx,List.nil_append] at hl;refine .inr ⟨by simpa using hh,fun e he hid=>?_,hj,xs,hP,hl⟩;have h3:=J3 he;rw [hl] at h3;obtain ⟨d',hd',hid'⟩:=Ml (e:=e) (by rw [h3]; exact List.mem_cons_self ..);have hs':((ds.drop i).map (·.id)).Pairwise (·<·):=by rw [List.map_drop]; exact hs.drop
   rw [J3 hd,List.map_cons,List.pairwise_cons] at hs';have:=hs'.1 d'.id (List.mem_map_of_mem hd');omega
  ·rw [if_neg hx,List.cons_append,List.nil_append] at hl;obtain ⟨g1,g2⟩:=QT hl;exact .inl ⟨_,g1,rfl,by dsimp only; omega,by dsimp only; omega,fun h=>absurd h hh,Cu g1,xs,hP,g2⟩
theorem MgI.ends {ds left:List Du} {j:Nat} (h:MgI ds left ds.length j):j=left.length:=by
 obtain ⟨hj,xs,-,hl⟩:=h;rw [List.drop_length] at hl;have:=congrArg List.length hl;rw [List.length_drop] at this;have h0:(DH [] xs).length=0:=rfl;omega
end Go.Proofs.YtdagmpmdcgedcaaGreat
namespace Go.Proofs.YtdagmpmdcgedcaaGreat
open Go.GV
attribute [local irreducible] AD W Wq Wt
theorem WP {F:Nat→Int} {E:Nat} {s:Nat→Nat} (h1:∀ i,i<E→s i<E) (h2:∀ i,i<E→s (s i)=i):B7 (fun i=>F (s i)) E=B7 F E:=by
 have e1:B7 (fun i=>F (s i)) E=B7 (fun i=>B7 (fun j=>one (s i=j)*F j) E) E:=Cz fun i hi=>(Ho F (h1 i hi)).symm;have e2:=Pa (fun i j=>one (s i=j)*F j) E E
 have e3:B7 (fun j=>B7 (fun i=>one (s i=j)*F j) E) E=B7 F E:=Cz fun j hj=>by
  have:B7 (fun i=>one (s i=j)*F j) E=B7 (fun i=>one (s j=i)*F j) E:=Cz fun i hi=>by
   rw [Jd (p:=s i=j) (q:=s j=i) ⟨fun h=>by rw [← h,h2 i hi],fun h=>by rw [← h,h2 j hj]⟩]
  rw [this];exact Ho (fun _=>F j) (h1 j hj)
 rw [e1,← e3];exact e2
structure Twin (g g':Gr) (cap cap':Nat→Int) (s p:Nat→Nat):Prop where
 N:g'.N=g.N
 E:g'.E=g.E
 s1:∀ i,i<g.E→s i<g.E
 s2:∀ i,i<g.E→s (s i)=i
 p1:∀ v,v<g.N→p v<g.N
 p2:∀ v,v<g.N→p (p v)=v
 f:∀ i,i<g.E→g'.f (s i)=p (g.f i)
 t:∀ i,i<g.E→g'.t (s i)=p (g.t i)
 co:∀ i,i<g.E→g'.co (s i)=g.co i
 cap:∀ i,i<g.E→cap' (s i)=cap i
theorem Twin.symm {g g':Gr} {cap cap':Nat→Int} {s p:Nat→Nat} (_hg':g'.Ok) (hg:g.Ok) (T:Twin g g' cap cap' s p):Twin g' g cap' cap s p :=
 ⟨T.N.symm,T.E.symm,fun i hi=>by rw [T.E] at hi ⊢; exact T.s1 i hi,fun i hi=>by rw [T.E] at hi; exact T.s2 i hi,
  fun v hv=>by rw [T.N] at hv ⊢; exact T.p1 v hv,fun v hv=>by rw [T.N] at hv; exact T.p2 v hv,
  fun i hi=>by
   rw [T.E] at hi;have h:=T.f (s i) (T.s1 i hi);rw [T.s2 i hi] at h
   rw [h,T.p2 _ (hg.f _ (T.s1 i hi))],
  fun i hi=>by
   rw [T.E] at hi;have h:=T.t (s i) (T.s1 i hi);rw [T.s2 i hi] at h
   rw [h,T.p2 _ (hg.t _ (T.s1 i hi))],
  fun i hi=>by
   rw [T.E] at hi;have h:=T.co (s i) (T.s1 i hi);rw [T.s2 i hi] at h
   exact h.symm,
  fun i hi=>by
   rw [T.E] at hi;have h:=T.cap (s i) (T.s1 i hi);rw [T.s2 i hi] at h
   exact h.symm⟩
theorem Twin.le {g g':Gr} {cap cap' x x' p':Nat→Int} {q:Nat→Int} {s p:Nat→Nat} (T:Twin g g' cap cap' s p) (hg:g.Ok) (h:Fine g cap x q) (h0:∀ v,v<g.N→B9 g x v=0) (h':Fine g' cap' x' p') (h0':∀ v,v<g'.N→B9 g' x' v=0):GR g x≤GR g' x':=by
 have hc:GR g (fun i=>x' (s i))=GR g' x':=by
  unfold GR;rw [T.E,← WP (F:=fun i=>x' i*g'.co i) T.s1 T.s2];exact Cz fun i hi=>by rw [T.co i hi]
 rw [← hc];refine Fine.best hg h h0 (fun i hi=>?_) fun v hv=>?_
 ·have h1:=h'.in' (s i) (by rw [T.E]; exact T.s1 i hi);rw [T.cap i hi] at h1;exact h1
 ·have h1:=h0' (p v) (by rw [T.N]; exact T.p1 v hv);rw [← h1];unfold B9 Ea;rw [T.E,← WP (F:=fun i=>(one (g'.t i=p v) - one (g'.f i=p v))*x' i) T.s1 T.s2];refine Cz fun i hi=>?_;have hp:∀ u,u<g.N→(u=v↔p u=p v):=fun u hu=>⟨fun h=>by rw [h],fun h=>by rw [← T.p2 u hu,h,T.p2 v hv]⟩;rw [T.t i hi,T.f i hi,Jd (hp _ (hg.t i hi)),Jd (hp _ (hg.f i hi))]
theorem Twin.eq {g g':Gr} {cap cap' x x' p':Nat→Int} {q:Nat→Int} {s p:Nat→Nat} (T:Twin g g' cap cap' s p) (hg:g.Ok) (hg':g'.Ok) (h:Fine g cap x q) (h0:∀ v,v<g.N→B9 g x v=0) (h':Fine g' cap' x' p') (h0':∀ v,v<g'.N→B9 g' x' v=0):GR g x=GR g' x' :=
 Int.le_antisymm (T.le hg h h0 h' h0') ((T.symm hg' hg).le hg' h' h0' h h0)
def flip (n:Nat) (a b:Du):Du:={ b with id:=a.id,fr:=(n:Int) - 1 - b.fr,to:=(n:Int) - 1 - b.to }
def turnD (n:Nat) (ds:List Du):List Du:=List.zipWith (flip n) ds ds.reverse
def mirE (n:Nat) (e:Ed):Ed:={ e with f:=(n:Int) - 1 - e.f,t:=(n:Int) - 1 - e.t }
def sigN (n m i:Nat):Nat:=if i<m then m - 1 - i else m+(2*(n - 1 - (i - m) / 2)+(i - m) % 2)
def piN (n v:Nat):Nat:=if v<n then n - 1 - v else v
end Go.Proofs.YtdagmpmdcgedcaaGreat
namespace Go.Proofs.YtdagmpmdcgedcaaGreat
open Go.GV
attribute [local irreducible] AD W Wq Wt
def costR (r:Rnd):Int:=GR (grE r.N r.es) (flE r.fl)
theorem Yf {acs:List Ac} {ds:List Du} {net:Bool} {r:Rnd} (P:PlanR acs ds net r):Cy r.N r.es=true∧Cl r.N r.es r.fl=true∧(∀ v,v<r.N.toNat→B9 (grE r.N r.es) (flE r.fl) v=0)∧Fine (grE r.N r.es) (Cs r.es) (flE r.fl) (EW r.pot):=by
 obtain ⟨h1,-,h3⟩:=Ga.1 P.chk;obtain ⟨h4,h5⟩:=ET h1;exact ⟨(Cx h4).2.1,h4,h5,h3⟩
theorem Uh {f g:Nat→Int} {m:Nat}:∀ n,m≤n→(∀ i,i<m→f i=g i)→(∀ i,m≤i→i<n→f i=0)→B7 f n=B7 g m
 | 0,h,_,_=>by
  obtain rfl:m=0:=by omega
  rfl
 | n+1,h,h1,h2=>by
  rcases Nat.lt_or_ge n m with h3 | h3
  ·obtain rfl:m=n+1:=by omega
   exact Cz h1
  ·show B7 f n+f n=_;rw [Uh n h3 h1 fun i hi hn=>h2 i hi (by omega),h2 n h3 (by omega),Int.add_zero]
end Go.Proofs.YtdagmpmdcgedcaaGreat
namespace Go.Proofs.YtdagmpmdcgedcaaGreat
open Go.GV
theorem Ui {rs:List Int} {os:List Du} {net:Bool} {xs:List Int} (hl:os.length≤xs.length) (v:Nat):∀ k,k≤os.length→(∀ (i:Nat) (d:Du) (x:Int),i<k→os[i]? = some d→xs[i]? = some x→0≤x∧x≤d.am) →
  -BN ((os.map Du.am).take k)≤Ea (grE ((rs.length+1:Nat):Int) (BD rs os net)) (flE xs) k v∧Ea (grE ((rs.length+1:Nat):Int) (BD rs os net)) (flE xs) k v≤BN ((os.map Du.am).take k)
 | 0,_,_=>⟨Int.le_refl _,Int.le_refl _⟩
 | k+1,h,hp=>by
  have ih:=Ui (rs:=rs) (net:=net) hl v k (by omega) fun i d x hi=>hp i d x (by omega);obtain ⟨d,hd⟩:=A8 (l:=os) (i:=k);obtain ⟨x,hx⟩:=A8 (l:=xs) (i:=k);have h1:=hp k d x (by omega) hd hx;have hm:(os.map Du.am)[k]? = some d.am:=by rw [List.getElem?_map,hd]; rfl
  have h2:∀ (p q:Prop) [Decidable p] [Decidable q],-x≤(one p - one q)*x∧(one p - one q)*x≤x:=fun p q _ _=>by
   by_cases hp:p <;> by_cases hq:q <;> simp only [one,if_pos,if_neg,hp,hq,not_false_eq_true] <;> omega
  rw [G0,IY hm,show flE xs k=x from Bi hx];have h3:=h2 ((grE ((rs.length+1:Nat):Int) (BD rs os net)).t k=v) ((grE ((rs.length+1:Nat):Int) (BD rs os net)).f k=v);omega
theorem Aes {rs:List Int} {os:List Du} {net:Bool} {xs:List Int} (hp:PayIn os xs) (v:Nat) (k:Nat) (h:k≤os.length) :
  -BN ((os.map Du.am).take k)≤Ea (grE ((rs.length+1:Nat):Int) (BD rs os net)) (flE xs) k v∧Ea (grE ((rs.length+1:Nat):Int) (BD rs os net)) (flE xs) k v≤BN ((os.map Du.am).take k) :=
 Ui (Nat.le_of_eq hp.1) v k h fun i d x _=>hp.2 i d x
theorem QU {xs:List Int} (h:∀ x∈xs,0≤x) (k:Nat):BN (xs.take k)≤BN xs:=by
 have h1:BN (xs.take k++xs.drop k)=BN (xs.take k)+BN (xs.drop k):=EF _ _;rw [List.take_append_drop] at h1;have h2:=Ft (xs:=xs.drop k) fun x hx=>h x (List.mem_of_mem_drop hx);omega
def Uj (rs:List Int) (net:Bool) (k:Nat):Int:=if net=true then 0 else rs.getD k 0
def QV (rs:List Int) (os:List Du) (net:Bool) (xs:List Int) (k:Nat):Int:=Uj rs net k+byK rs os net xs k
structure PermP (rs:List Int) (ds:List Du) (net:Bool) (xs:List Int):Prop where
 B:Bright rs ds
 pay:PayIn (opn ds) xs
 left:∀ k,k<rs.length→0≤QV rs (opn ds) net xs k∧(net=true→QV rs (opn ds) net xs k=0)
def DM (os:List Du) (xs:List Int) (k:Nat):Int:=B7 (fun i=>(os.getD i d00).we*xs.getD i 0) k
theorem Km {os:List Du} {xs:List Int} {k:Nat} {d:Du} {x:Int} (hd:os[k]? = some d) (hx:xs[k]? = some x):DM os xs (k+1)=DM os xs k+d.we*x:=by
 show DM os xs k+(os.getD k d00).we*xs.getD k 0=_;rw [Bi hd,Bi hx]
theorem Lt {os:List Du} {xs:List Int} (hp:PayIn os xs) (hos:∀ d∈os,0≤d.we∧d.we≤1000):∀ k,k≤os.length→0≤DM os xs k∧DM os xs k≤1000*BN ((os.map Du.am).take k)
 | 0,_=>⟨Int.le_refl _,Int.le_refl _⟩
 | k+1,h=>by
  have ih:=Lt hp hos k (by omega);have hl:=hp.1;obtain ⟨d,hd⟩:=A8 (l:=os) (i:=k);obtain ⟨x,hx⟩:=A8 (l:=xs) (i:=k);have h1:=hp.2 k d x hd hx;have hw:=hos d (List.mem_of_getElem? hd);have hm:(os.map Du.am)[k]? = some d.am:=by rw [List.getElem?_map,hd]; rfl
  have h2:0≤d.we*x:=Int.mul_nonneg hw.1 h1.1;have h3:d.we*x≤1000*d.am:=Int.le_trans (Int.mul_le_mul_of_nonneg_right hw.2 h1.1) (Int.mul_le_mul_of_nonneg_left h1.2 (by decide));rw [Km hd hx,IY hm];omega
def HZ (rs:List Int) (os:List Du) (net:Bool) (xs:List Int) (i:Nat):Int :=
 if i<os.length then flE xs i else if (i - os.length) % 2=0 then max 0 (-byK rs os net xs ((i - os.length) / 2)) else max 0 (byK rs os net xs ((i - os.length) / 2))
theorem MX {rs:List Int} {os:List Du} {net:Bool} {xs:List Int} {i:Nat} (h:i<os.length):HZ rs os net xs i=flE xs i:=if_pos h
theorem Uk (rs:List Int) (os:List Du) (net:Bool) (xs:List Int) (k:Nat):HZ rs os net xs (os.length+2*k)=max 0 (-byK rs os net xs k):=by
 unfold HZ;rw [if_neg (by omega),if_pos (by omega),show (os.length+2*k - os.length) / 2=k by omega]
theorem QW (rs:List Int) (os:List Du) (net:Bool) (xs:List Int) (k:Nat):HZ rs os net xs (os.length+2*k+1)=max 0 (byK rs os net xs k):=by
 unfold HZ;rw [if_neg (by omega),if_neg (by omega),show (os.length+2*k+1 - os.length) / 2=k by omega]
theorem Kn {g:Gr} {x y:Nat→Int} (v:Nat):∀ k,(∀ i,i<k→x i=y i)→Ea g x k v=Ea g y k v
 | 0,_=>rfl
 | k+1,h=>by rw [G0,G0,Kn v k fun i hi=>h i (by omega),h k (by omega)]
theorem Ul {rs:List Int} {os:List Du} {j:Nat} (hj:j<rs.length):∃ x,rs[j]? = some x∧(BD rs os false)[os.length+2*j]? = some ⟨rs.length,j,x,0⟩∧(BD rs os false)[os.length+2*j+1]? = some ⟨j,rs.length,4503599627370496,0⟩:=by
 obtain ⟨x,hx⟩:=A8 (h:=hj);exact ⟨x,hx,KE (Mg hx),by rw [Nat.add_assoc]; exact KE (NQ hj)⟩
theorem VE {rs:List Int} {ds:List Du} {net:Bool} {xs:List Int} (P:PermP rs ds net xs):∀ v,v<rs.length+1→B9 (grE ((rs.length+1:Nat):Int) (BD rs (opn ds) net)) (HZ rs (opn ds) net xs) v=0:=by
 have hB:=P.B.right net;have hok:=Jw hB;have hN:(grE ((rs.length+1:Nat):Int) (BD rs (opn ds) net)).N=rs.length+1:=by show ((rs.length+1:Nat):Int).toNat=_; omega
 have hE:(grE ((rs.length+1:Nat):Int) (BD rs (opn ds) net)).E=(BD rs (opn ds) net).length:=rfl;have hlen:=GC rs (opn ds) net
 have hb:∀ v,v<rs.length→B9 (grE ((rs.length+1:Nat):Int) (BD rs (opn ds) net)) (HZ rs (opn ds) net xs) v=0:=fun v hv=>by
  have h0:Ea (grE ((rs.length+1:Nat):Int) (BD rs (opn ds) net)) (HZ rs (opn ds) net xs) (opn ds).length v=byK rs (opn ds) net xs v:=Kn v _ fun i hi=>MX hi;unfold B9;rw [hE,hlen]
  cases net with
  | true =>
   rw [if_pos rfl,show (opn ds).length+0=(opn ds).length from rfl,h0];have:=(P.left v hv).2 rfl;unfold QV Uj at this;rw [if_pos rfl] at this;omega
  | false =>
   rw [if_neg (by decide),Pw (n:=rs.length) (fun j hj=>?_) hv rs.length (Nat.le_refl _),if_pos hv,h0,Uk,QW]
   ·omega
   ·obtain ⟨x,-,e1,e2⟩:=Ul (os:=opn ds) hj;rw [S5 e1,S6 e1,S5 e2,S6 e2];dsimp only;omega
 intro v hv
 rcases Nat.lt_or_ge v rs.length with h | h
 ·exact hb v h
 ·obtain rfl:v=rs.length:=by omega
  have ha:=over_all _ hok (HZ rs (opn ds) net xs);rw [hN] at ha;have h2:B7 (B9 (grE ((rs.length+1:Nat):Int) (BD rs (opn ds) net)) (HZ rs (opn ds) net xs)) rs.length=B7 (fun _=>0) rs.length:=Cz hb;have h3:B7 (B9 (grE ((rs.length+1:Nat):Int) (BD rs (opn ds) net)) (HZ rs (opn ds) net xs)) rs.length+B9 (grE ((rs.length+1:Nat):Int) (BD rs (opn ds) net)) (HZ rs (opn ds) net xs) rs.length=0:=ha;rw [h2,GQ] at h3;omega
theorem QX {rs:List Int} {os:List Du} {net:Bool} {i:Nat} (hi:i<(BD rs os net).length):(∃ d,os[i]? = some d∧(BD rs os net)[i]? = some (Kj d)) ∨
  (net=false∧∃ k x,k<rs.length∧rs[k]? = some x∧((i=os.length+2*k∧(BD rs os net)[i]? = some ⟨rs.length,k,x,0⟩)∨(i=os.length+2*k+1∧(BD rs os net)[i]? = some ⟨k,rs.length,4503599627370496,0⟩))):=by
 have hlen:=GC rs os net
 rcases Nat.lt_or_ge i os.length with h | h
 ·obtain ⟨d,hd⟩:=A8 (h:=h);exact .inl ⟨d,hd,Ix hd⟩
 ·cases net with
  | true=>rw [hlen,if_pos rfl] at hi; omega
  | false =>
   rw [hlen,if_neg (by decide)] at hi;obtain ⟨x,hx,e1,e2⟩:=Ul (os:=os) (j:=(i - os.length) / 2) (rs:=rs) (by omega);refine .inr ⟨rfl,(i - os.length) / 2,x,by omega,hx,?_⟩
   by_cases hp:(i - os.length) % 2=0
   ·exact .inl ⟨by omega,by rw [show os.length+2*((i - os.length) / 2)=i by omega] at e1; exact e1⟩
   ·exact .inr ⟨by omega,by rw [show os.length+2*((i - os.length) / 2)+1=i by omega] at e2; exact e2⟩
theorem Yg {rs:List Int} {ds:List Du} {net:Bool} {xs:List Int} (P:PermP rs ds net xs) {i:Nat} (hi:i<(BD rs (opn ds) net).length):0≤HZ rs (opn ds) net xs i∧HZ rs (opn ds) net xs i≤Cs (BD rs (opn ds) net) i:=by
 have htot:=P.B.open'.tot;unfold Cs
 rcases QX hi with ⟨d,hd,he⟩ | ⟨rfl,k,x,hk,hx,⟨rfl,he⟩ | ⟨rfl,he⟩⟩
 ·have hl:=P.pay.1;have hlt:=Cu hd;obtain ⟨y,hy⟩:=A8 (l:=xs) (i:=i);have:=P.pay.2 i d y hd hy;rw [MX hlt,show flE xs i=y from Bi hy,Bi he];exact this
 ·rw [Uk,Bi he];have h1:=(P.left k hk).1;have h2:=C4.1 (P.B.may x (List.mem_of_getElem? hx));unfold QV Uj at h1;rw [if_neg (by decide),Bi hx] at h1;show 0≤max 0 _∧max 0 _≤x;omega
 ·rw [QW,Bi he];have h1:=(Aes (rs:=rs) (net:=false) P.pay k _ (Nat.le_refl _)).2;rw [List.take_of_length_le (by rw [List.length_map]; exact Nat.le_refl _)] at h1;have h2:byK rs (opn ds) false xs k≤4503599627370496:=Int.le_trans h1 htot;show 0≤max 0 _∧max 0 _≤(4503599627370496:Int);omega
theorem Ny {rs:List Int} {os:List Du} {net:Bool} {y:Nat→Int} {xs:List Int} (hy:∀ i,i<os.length→y i=flE xs i):GR (grE ((rs.length+1:Nat):Int) (BD rs os net)) y = -DM os xs os.length:=by
 have hlen:=GC rs os net
 have h1:GR (grE ((rs.length+1:Nat):Int) (BD rs os net)) y=B7 (fun i => -((os.getD i d00).we*xs.getD i 0)) os.length:=by
  unfold GR;refine Uh (f:=fun i=>y i*(grE ((rs.length+1:Nat):Int) (BD rs os net)).co i) _ (by show os.length≤(BD rs os net).length; omega) (fun i hi=>?_) fun i hi h2=>?_
  ·obtain ⟨d,hd⟩:=A8 (h:=hi)
   (try dsimp only)
   rw [Uc (Ix hd),Bi hd,hy i hi];unfold Kj flE;dsimp only;rw [Int.mul_neg,Int.mul_comm]
  ·rcases QX (rs:=rs) (os:=os) (net:=net) (i:=i) h2 with ⟨d,hd,he⟩ | ⟨hn,k,x,hk,hx,⟨hi2,he⟩ | ⟨hi2,he⟩⟩
   ·have:=Cu hd;omega
   ·(try dsimp only)
    rw [Uc he];exact Int.mul_zero _
   ·(try dsimp only)
    rw [Uc he];exact Int.mul_zero _
 rw [h1,NN];rfl
structure RndF (rs:List Int) (ds:List Du) (net:Bool) (r:Rnd):Prop where
 N:r.N=((rs.length+1:Nat):Int)
 es:r.es=BD rs (opn ds) net
 chk:F9 r.N r.es r.fl r.pot=true
theorem RndF.fine {rs:List Int} {ds:List Du} {net:Bool} {r:Rnd} (P:RndF rs ds net r):Cy r.N r.es=true∧Cl r.N r.es r.fl=true∧(∀ v,v<r.N.toNat→B9 (grE r.N r.es) (flE r.fl) v=0)∧Fine (grE r.N r.es) (Cs r.es) (flE r.fl) (EW r.pot):=by
 obtain ⟨h1,-,h3⟩:=Ga.1 P.chk;obtain ⟨h4,h5⟩:=ET h1;exact ⟨(Cx h4).2.1,h4,h5,h3⟩
theorem RndF.best {rs:List Int} {ds:List Du} {net:Bool} {r:Rnd} (P:RndF rs ds net r) {xs:List Int} (Q:PermP rs ds net xs):DM (opn ds) xs (opn ds).length≤DM (opn ds) (r.fl) (opn ds).length:=by
 obtain ⟨p1,p2,p3,p4⟩:=P.fine;rw [P.N,P.es] at p1 p3 p4;have hN:(grE ((rs.length+1:Nat):Int) (BD rs (opn ds) net)).N=rs.length+1:=by show ((rs.length+1:Nat):Int).toNat=_; omega
 have hN2:((rs.length+1:Nat):Int).toNat=rs.length+1:=by omega
 have h:=Fine.best (Jw p1) p4 (fun v hv=>p3 v (by rw [hN] at hv; omega)) (y:=HZ rs (opn ds) net xs) (fun i hi=>Yg Q hi) fun v hv=>VE Q v (by rw [hN] at hv; exact hv);rw [Ny (xs:=r.fl) fun i _=>rfl,Ny fun i hi=>MX hi] at h;omega
theorem RndF.perm {rs:List Int} {ds:List Du} {net:Bool} {r:Rnd} (P:RndF rs ds net r) (hB:Bright rs ds):PermP rs ds net (r.fl.take (opn ds).length)∧B7 (byK rs (opn ds) net r.fl) rs.length=0∧(∀ (k:Nat) (x:Int),rs[k]? = some x→(net=true→byK rs (opn ds) net r.fl k=0) ∧ -x≤byK rs (opn ds) net r.fl k∧byK rs (opn ds) net r.fl k≤4503599627370496):=by
 have hc:=(Ga.1 P.chk).1;rw [P.N,P.es] at hc;obtain ⟨h1,h2,h3,h4⟩:=Ud (fun x hx=>(C4.1 (hB.may x hx)).1) hB.open'.due hc;refine ⟨⟨hB,h1,fun k hk=>?_⟩,h4,h3⟩
 have hby:byK rs (opn ds) net (r.fl.take (opn ds).length) k=byK rs (opn ds) net r.fl k:=Kn k _ fun i hi=>by
  unfold flE;rw [List.getD_eq_getElem?_getD,List.getD_eq_getElem?_getD,List.getElem?_take,if_pos hi]
 obtain ⟨x,hx⟩:=A8 (h:=hk);obtain ⟨g1,g2,-⟩:=h3 k x hx;unfold QV Uj;rw [hby]
 cases net with
 | true=>rw [if_pos rfl,g1 rfl]; exact ⟨by omega,fun _=>by omega⟩
 | false=>rw [if_neg (by decide),Bi hx]; exact ⟨by omega,fun h=>by cases h⟩
theorem Py {os:List Du} {fl:List Int}:∀ k,k≤os.length→DM os (fl.take os.length) k=DM os fl k:=fun k hk=>Cz fun i hi=>by
 rw [List.getD_eq_getElem?_getD (l:=fl.take os.length),List.getD_eq_getElem?_getD (l:=fl),List.getElem?_take,if_pos (by omega)]
def JC:List Du→List Int→List Int→List Int
 | [],_,_=>[]
 | _::_,[],ys=>ys
 | d::os,x::xs,ys=>if d.am=x then x::JC os xs ys else match ys with
  | []=>x::JC os xs []
  | y::ys=>(x+y)::JC os xs ys
def Hh:List Du→List Int→List Du
 | [],_=>[]
 | d::ds,[]=>d::ds
 | d::ds,x::xs=>if d.am=x then Hh ds xs else { d with am:=d.am - x }::Hh ds xs
theorem Mm:∀ (ds:List Du) (xs:List Int),opn (DH ds xs)=Hh (opn ds) xs
 | [],xs=>by cases xs <;> rfl
 | d::ds,xs=>by
  by_cases hh:d.held=true
  ·rw [FP hh,EY,EY,if_pos hh,List.nil_append,List.nil_append,Mm ds xs]
  ·cases xs with
   | nil =>
    rw [MW,EY,if_neg hh];rfl
   | cons x xs =>
    rw [FQ hh,EY,if_neg hh]
    by_cases ha:d.am=x
    ·rw [if_pos ha,List.nil_append,Mm ds xs];show _=(if d.am=x then _ else _);rw [if_pos ha];rfl
    ·rw [if_neg ha];show opn ({ d with am:=d.am - x }::DH ds xs)=(if d.am=x then _ else _);rw [if_neg ha,EY,if_neg (show ¬ ({ d with am:=d.am - x }:Du).held=true from hh),Mm ds xs];rfl
theorem Pz:∀ {os:List Du} {xs ys:List Int},PayIn os xs→PayIn (Hh os xs) ys→PayIn os (JC os xs ys)
 | [],_,_,_,_=>⟨rfl,fun i d x h=>by cases h⟩
 | _::_,[],_,h,_=>by cases h.1
 | d::os,x::xs,ys,h,h2=>by
  obtain ⟨hx,ht⟩:=h.tail;unfold Hh at h2;unfold JC
  split
  ·rename_i ha
   rw [if_pos ha] at h2;have ih:=Pz ht h2;refine ⟨by rw [List.length_cons,List.length_cons,ih.1],fun i e z he hz=>?_⟩
   cases i with
   | zero =>
    simp only [List.getElem?_cons_zero,Option.some.injEq] at he hz;subst he hz;exact hx
   | succ i=>exact ih.2 i e z he hz
  ·rename_i ha
   rw [if_neg ha] at h2
   cases ys with
   | nil=>cases h2.1
   | cons y ys =>
    obtain ⟨hy,ht2⟩:=h2.tail;have ih:=Pz ht ht2;show PayIn (d::os) ((x+y)::JC os xs ys);refine ⟨by rw [List.length_cons,List.length_cons,ih.1],fun i e z he hz=>?_⟩
    cases i with
    | zero =>
     simp only [List.getElem?_cons_zero,Option.some.injEq] at he hz;subst he hz;dsimp only at hy;omega
    | succ i=>exact ih.2 i e z he hz
theorem Mn {f:Du→Int} (hf:∀ (d:Du) (x:Int),f { d with am:=x }=f d):∀ {os:List Du} {xs ys:List Int},os.length=xs.length→(Hh os xs).length=ys.length →
  BN (List.zipWith (fun d x=>f d*x) os (JC os xs ys))=BN (List.zipWith (fun d x=>f d*x) os xs)+BN (List.zipWith (fun d x=>f d*x) (Hh os xs) ys)
 | [],[],ys,_,_=>by cases ys <;> rfl
 | [],_::_,_,h,_=>by cases h
 | _::_,[],_,h,_=>by cases h
 | d::os,x::xs,ys,h,h2=>by
  have h3:os.length=xs.length:=by simpa using h
  unfold Hh at h2 ⊢;unfold JC
  by_cases ha:d.am=x
  ·rw [if_pos ha] at h2;rw [if_pos ha,if_pos ha,List.zipWith_cons_cons,List.zipWith_cons_cons,BO,BO,Mn hf h3 h2];omega
  ·rw [if_neg ha] at h2
   cases ys with
   | nil=>cases h2
   | cons y ys =>
    have h4:(Hh os xs).length=ys.length:=by simpa using h2
    rw [if_neg ha,if_neg ha];show BN (List.zipWith (fun d x=>f d*x) (d::os) ((x+y)::JC os xs ys))=_;rw [List.zipWith_cons_cons,List.zipWith_cons_cons,List.zipWith_cons_cons,BO,BO,BO,Mn hf h3 h4,show f ({ d with am:=d.am - x }:Du)=f d from hf d _,Int.mul_add];omega
end Go.Proofs.YtdagmpmdcgedcaaGreat
namespace Go.Proofs.YtdagmpmdcgedcaaGreat
open Go.GV
theorem QY {os:List Du} {xs:List Int}:∀ k,k≤os.length→os.length≤xs.length→DM os xs k=BN ((List.zipWith (fun d x=>d.we*x) os xs).take k)
 | 0,_,_=>rfl
 | k+1,h,hl=>by
  obtain ⟨d,hd⟩:=A8 (l:=os) (i:=k);obtain ⟨x,hx⟩:=A8 (l:=xs) (i:=k);rw [Km hd hx,QY k (by omega) hl,IY (x:=d.we*x) (by rw [List.getElem?_zipWith,hd,hx])]
theorem Ko {os:List Du} {xs:List Int} (hl:os.length≤xs.length):DM os xs os.length=BN (List.zipWith (fun d x=>d.we*x) os xs):=by
 rw [QY _ (Nat.le_refl _) hl,List.take_of_length_le (by rw [List.length_zipWith]; omega)]
theorem P0 {f:Du→Int→Int}:∀ {os:List Du} {xs:List Int},List.zipWith f os (xs.take os.length)=List.zipWith f os xs
 | [],xs=>by cases xs <;> rfl
 | d::os,[]=>rfl
 | d::os,x::xs=>by
  show f d x::List.zipWith f os (xs.take os.length)=_;rw [P0];rfl
theorem Mo:∀ {ds:List Du} {xs:List Int} {e:Du},e∈DH ds xs→∃ d∈ds,e.fr=d.fr∧e.to=d.to∧e.we=d.we
 | [],_,_,h=>by cases h
 | d::ds,[],e,h=>⟨e,h,rfl,rfl,rfl⟩
 | d::ds,x::xs,e,h=>by
  unfold DH at h
  split at h
  ·rcases List.mem_cons.1 h with rfl | h
   ·exact ⟨_,List.mem_cons_self ..,rfl,rfl,rfl⟩
   ·obtain ⟨d',h1,h2⟩:=Mo h;exact ⟨d',List.mem_cons_of_mem _ h1,h2⟩
  ·split at h
   ·obtain ⟨d',h1,h2⟩:=Mo h;exact ⟨d',List.mem_cons_of_mem _ h1,h2⟩
   ·rcases List.mem_cons.1 h with rfl | h
    ·exact ⟨_,List.mem_cons_self ..,rfl,rfl,rfl⟩
    ·obtain ⟨d',h1,h2⟩:=Mo h;exact ⟨d',List.mem_cons_of_mem _ h1,h2⟩
theorem Af4 {acs:List Ac} {ds:List Du} {net:Bool} {r:Rnd} (P:PlanR acs ds net r):RndF (acs.map C5) ds net r :=
 ⟨by rw [P.N,List.length_map],P.es,P.chk⟩
theorem Nz {acs:List Ac} {ds:List Du} {nx:Int} {r:Rnd} (ha:Eu acs=0) (hd:ofC ds nx=0) (hC:DW acs ds r=0):Bright ((DK acs ds r).map C5) (D5 acs ds r):=by
 have F:=DL ha hd hC;obtain ⟨h1,h2,h3⟩:=G2 (r:=r) ha hd;refine Ls h1 h2 fun d hdm=>?_;unfold D5 at hdm;rw [if_pos hC] at hdm;obtain ⟨d',h4,h5,h6,-⟩:=Mo hdm;have h7:=(F.B.due d' h4).2;rw [List.length_map] at h7;rw [h3];omega
theorem VF {acs:List Ac} {ds:List Du} {nx:Int} {net net2:Bool} {r1 r2:Rnd} (ha:Eu acs=0) (hd:ofC ds nx=0) (hC:DW acs ds r1=0) (P1:PlanR acs ds net r1) (P2:PlanR (DK acs ds r1) (D5 acs ds r1) net2 r2) (hn:net=true→net2=true) :
  ∀ x∈r2.fl.take (opn (D5 acs ds r1)).length,x=0:=by
 have F:=DL ha hd hC;have F1:=Af4 P1;have F2:=Af4 P2;have B2:=Nz ha hd hC;obtain ⟨Q1,-,b1⟩:=F1.perm F.B;obtain ⟨Q2,-,b2⟩:=F2.perm B2;obtain ⟨-,-,hlen⟩:=G2 (r:=r1) ha hd;have hD:D5 acs ds r1=DH ds (r1.fl.take (opn ds).length):=by unfold D5; rw [if_pos hC]
 obtain ⟨xs,hxs⟩:∃ xs,xs=r1.fl.take (opn ds).length:=⟨_,rfl⟩;obtain ⟨ys,hys⟩:∃ ys,ys=r2.fl.take (opn (D5 acs ds r1)).length:=⟨_,rfl⟩;have hO:opn (D5 acs ds r1)=Hh (opn ds) xs:=by rw [hD,Mm,hxs]
 have p1:PayIn (opn ds) xs:=by rw [hxs]; exact Q1.pay
 have p2:PayIn (Hh (opn ds) xs) ys:=by rw [← hO,hys]; exact Q2.pay
 have hz:=Pz p1 p2;have hos:∀ d∈opn ds,0≤d.fr∧0≤d.to:=fun d hdm=>by have:=CW (F.B.open'.due d hdm).1; omega
 have hos2:∀ d∈opn (D5 acs ds r1),0≤d.fr∧0≤d.to:=fun d hdm=>by have:=CW (B2.open'.due d hdm).1; omega
 have hcmp:r1.cmp=net:=P1.cmp
 have hby:∀ k,byK (acs.map C5) (opn ds) net (JC (opn ds) xs ys) k=byK (acs.map C5) (opn ds) net r1.fl k+byK ((DK acs ds r1).map C5) (opn (D5 acs ds r1)) net2 r2.fl k:=fun k=>by
  have l1:(opn ds).length≤r1.fl.length:=by have:=Q1.pay.1; rw [List.length_take] at this; omega
  have l2:(opn (D5 acs ds r1)).length≤r2.fl.length:=by have:=Q2.pay.1; rw [List.length_take] at this; omega
  rw [Mk hos (by rw [← hz.1]; exact Nat.le_refl _),Mk hos l1,Mk hos2 l2,P0,← hxs,← hys,hO];exact Mn (f:=plc k) (fun _ _=>rfl) p1.1 p2.1
 have hP:PermP (acs.map C5) ds net (JC (opn ds) xs ys):=by
  refine ⟨F.B,hz,fun k hk=>?_⟩;rw [List.length_map] at hk;obtain ⟨a,hak⟩:=A8 (l:=acs) (i:=k) (h:=hk);have hr:(acs.map C5)[k]? = some (C5 a):=by rw [List.getElem?_map,hak]; rfl
  have hg:=Hz ha hd hC hak;rw [hcmp] at hg;have hr2:((DK acs ds r1).map C5)[k]? = some (C5 ⟨a.ba+byK (acs.map C5) (opn ds) net r1.fl k,a.re⟩):=by rw [List.getElem?_map,hg]; rfl
  obtain ⟨c1,c2,-⟩:=b1 k _ hr;obtain ⟨d1,d2,-⟩:=b2 k _ hr2;unfold QV Uj;rw [hby,Bi hr];clear hg hr2;generalize byK ((DK acs ds r1).map C5) (opn (D5 acs ds r1)) net2 r2.fl k=x2 at d1 d2 ⊢;generalize byK (acs.map C5) (opn ds) net r1.fl k=x1 at c1 c2 d2 ⊢;unfold C5 at c2 d2 ⊢;dsimp only at d2
  cases net with
  | true =>
   have e1:=c1 rfl;have e2:=d1 (hn rfl);rw [if_pos rfl];exact ⟨by omega,fun _=>by omega⟩
  | false =>
   rw [if_neg (by decide)];exact ⟨by omega,fun h=>by cases h⟩
 have hbest:=F1.best hP
 have hwz:DM (opn ds) (JC (opn ds) xs ys) (opn ds).length=DM (opn ds) r1.fl (opn ds).length+BN (List.zipWith (fun d x=>d.we*x) (Hh (opn ds) xs) ys):=by
  have l1:(opn ds).length≤r1.fl.length:=by have:=Q1.pay.1; rw [List.length_take] at this; omega
  rw [Ko (by rw [hz.1]; exact Nat.le_refl _),Ko l1,← P0 (xs:=r1.fl),← hxs];exact Mn (f:=Du.we) (fun _ _=>rfl) p1.1 p2.1
 rw [hwz] at hbest
 have hnn:∀ z∈List.zipWith (fun d x=>d.we*x) (Hh (opn ds) xs) ys,0≤z:=fun z hzm=>by
  obtain ⟨i,hi⟩:=List.mem_iff_getElem?.1 hzm;rw [List.getElem?_zipWith] at hi
  cases hdi:(Hh (opn ds) xs)[i]? with
  | none=>rw [hdi] at hi; cases hi
  | some d =>
   cases hyi:ys[i]? with
   | none=>rw [hdi,hyi] at hi; cases hi
   | some y =>
    rw [hdi,hyi] at hi;cases hi;have h1:=p2.2 i d y hdi hyi;have h2:=CW (B2.open'.due d (by rw [hO]; exact List.mem_of_getElem? hdi)).1;exact Int.mul_nonneg (by omega) h1.1
 rw [← hys];intro y hy;obtain ⟨i,hyi⟩:=List.mem_iff_getElem?.1 hy;obtain ⟨d,hdi⟩:=A8 (l:=Hh (opn ds) xs) (i:=i) (h:=by rw [p2.1]; exact Cu hyi);have h1:=p2.2 i d y hdi hyi;have h2:=CW (B2.open'.due d (by rw [hO]; exact List.mem_of_getElem? hdi)).1;have h3:d.we*y∈List.zipWith (fun d x=>d.we*x) (Hh (opn ds) xs) ys:=List.mem_of_getElem? (i:=i) (by rw [List.getElem?_zipWith,hdi,hyi]);have h4:=Px hnn _ h3;have h5:d.we*y≤0:=by omega
 rcases Int.lt_or_le 0 y with h6 | h6
 ·have h7:0<d.we*y:=Int.mul_pos (by omega) h6;omega
 ·omega
end Go.Proofs.YtdagmpmdcgedcaaGreat
namespace Go.Proofs.YtdagmpmdcgedcaaGreat
open Go.GV
structure Ak where
 kd:Int
 a:Int
 b:Int
 x:Int
 w:Int
 u:Int
 id:Int
structure Ld where
 day:Int
 acs:List Ac
 ds:List Du
 nx:Int
 rn:List Rnd
 no:Int
def NB (r:Rnd):Bool:=F9 r.N r.es r.fl r.pot && (decide (r.ids.length≤64) && decide (0≤r.day))
structure Ld.Ok (s:Ld):Prop where
 ac:Eu s.acs=0
 du:ofC s.ds s.nx=0
 bk:∀ d∈s.ds,d.fr<s.acs.length∧d.to<s.acs.length
 day:0≤s.day∧s.day≤9223372036854775807
 kept:s.rn.length≤4∧(s.rn.length:Int)≤s.no∧s.no≤4611686018427387904
 nos:∀ (i:Nat) (r:Rnd),s.rn[i]? = some r→r.no=s.no - s.rn.length+1+i
 may:∀ r∈s.rn,NB r=true
def bas (acs:List Ac):List Int:=acs.map Ac.ba
def KI (acs:List Ac) (k:Int) (a:Ac):List Ac:=acs.set k.toNat a
def Fu (acs:List Ac) (k x:Int):Int:=if inA acs k=false then 10 else if (decide (0<x) && Df x)=false then 1 else if (EX (bas acs++[x])).2≠0 then 13 else 0
def EG (acs:List Ac) (k x:Int):List Ac:=if Fu acs k x=0 then KI acs k ⟨(Ds acs k).ba+x,(Ds acs k).re⟩ else acs
def EZ (acs:List Ac) (k x:Int):Int:=if inA acs k=false then 10 else if (decide (0<x) && Df x)=false then 1 else if (Ds acs k).ba<x then 12 else 0
def EB (acs:List Ac) (k x:Int):List Ac:=if EZ acs k x=0 then KI acs k ⟨(Ds acs k).ba - x,(Ds acs k).re⟩ else acs
def Mp (acs:List Ac) (k x:Int):Int:=if inA acs k=false then 10 else if Df x=false then 1 else 0
def GX (acs:List Ac) (k x:Int):List Ac:=if Mp acs k x=0 then KI acs k ⟨(Ds acs k).ba,x⟩ else acs
theorem GD {acs:List Ac} {k:Int}:inA acs k=true↔0≤k∧k<acs.length:=by
 unfold inA;rw [Bool.and_eq_true,decide_eq_true_eq,decide_eq_true_eq]
theorem F3 {acs:List Ac} {k:Int} (h:inA acs k=true):acs[k.toNat]? = some (Ds acs k):=by
 have h1:=GD.1 h;obtain ⟨a,ha⟩:=A8 (l:=acs) (i:=k.toNat);unfold Ds;rw [if_pos h,ha,Bi ha]
theorem Mq {xs:List Int}:∀ {i:Nat} {x y:Int},xs[i]? = some x→BN (xs.set i y)=BN xs - x+y:=by
 induction xs with
 | nil=>intro i x y h; cases h
 | cons z xs ih =>
  intro i x y h
  cases i with
  | zero =>
   simp only [List.getElem?_cons_zero,Option.some.injEq] at h;subst h;rw [List.set_cons_zero,BO,BO];omega
  | succ i =>
   rw [List.set_cons_succ,BO,BO,ih (show xs[i]? = some x from h)];omega
theorem Mr (acs:List Ac) (k:Int) (a:Ac):bas (KI acs k a)=(bas acs).set k.toNat a.ba:=by
 unfold bas KI;rw [List.map_set]
theorem Ms (acs:List Ac) (k:Int) (a:Ac):(KI acs k a).length=acs.length:=by unfold KI; rw [List.length_set]
theorem SA {acs:List Ac} {k:Int} {a:Ac} (h:Eu acs=0) (hk:inA acs k=true) (hm:Me a=true) (hs:BN (bas acs) - (Ds acs k).ba+a.ba≤4503599627370496):Eu (KI acs k a)=0:=by
 obtain ⟨h1,h2,h3⟩:=Cd.1 h;have h4:=Dp.1 h3;have hg:(bas acs)[k.toNat]? = some (Ds acs k).ba:=by unfold bas; rw [List.getElem?_map,F3 hk]; rfl
 refine Cd.2 ⟨by rw [Ms]; exact h1,fun b hb=>?_,Dp.2 ⟨fun x hx=>?_,?_⟩⟩
 ·unfold KI at hb
  rcases List.mem_or_eq_of_mem_set hb with h5 | rfl
  ·exact h2 b h5
  ·exact hm
 ·change x∈bas (KI acs k a) at hx
  rw [Mr] at hx
  rcases List.mem_or_eq_of_mem_set hx with h5 | rfl
  ·exact h4.1 x h5
  ·exact C4.2 (Fz.1 hm).1
 ·change BN (bas (KI acs k a))≤_
  rw [Mr,Mq hg];exact hs
theorem Je {acs:List Ac} {k:Int} (h:Eu acs=0) (hk:inA acs k=true):(0≤(Ds acs k).ba∧(Ds acs k).ba≤4503599627370496)∧0≤(Ds acs k).re∧(Ds acs k).re≤4503599627370496 :=
 Fz.1 ((Cd.1 h).2.1 _ (List.mem_of_getElem? (F3 hk)))
theorem SB {acs:List Ac} (h:Eu acs=0):(∀ x∈bas acs,Df x=true)∧BN (bas acs)≤4503599627370496:=Dp.1 (Cd.1 h).2.2
theorem Ia (acs:List Ac) (k x:Int):(Fu acs k x≠0∧EG acs k x=acs)∨(Fu acs k x=0∧inA acs k=true∧0<x∧Df x=true∧(EX (bas acs++[x])).2=0∧EG acs k x=KI acs k ⟨(Ds acs k).ba+x,(Ds acs k).re⟩):=by
 by_cases h:Fu acs k x=0
 ·refine .inr ⟨h,?_⟩;have h2:=h;unfold Fu at h2
  cases h3:inA acs k with
  | false=>rw [if_pos h3] at h2; cases h2
  | true =>
   rw [if_neg (by rw [h3]; decide)] at h2
   cases h4:(decide (0<x) && Df x) with
   | false=>rw [if_pos h4] at h2; cases h2
   | true =>
    rw [if_neg (by rw [h4]; decide)] at h2;rw [Bool.and_eq_true,decide_eq_true_eq] at h4
    by_cases h5:(EX (bas acs++[x])).2≠0
    ·rw [if_pos h5] at h2; cases h2
    ·refine ⟨rfl,h4.1,h4.2,by omega,?_⟩;unfold EG;rw [if_pos h]
 ·refine .inl ⟨h,?_⟩;unfold EG;rw [if_neg h]
theorem SD {acs:List Ac} (h:Eu acs=0) (k x:Int):Eu (EG acs k x)=0∧(EG acs k x).length=acs.length∧BN (bas (EG acs k x))=BN (bas acs)+(if Fu acs k x=0 then x else 0):=by
 rcases Ia acs k x with ⟨h1,h2⟩ | ⟨h1,hk,hx,hm,ht,h2⟩
 ·rw [h2,if_neg h1];exact ⟨h,rfl,by omega⟩
 ·have hg:=Je h hk;have h3:=(Dp.1 ht).2;rw [EF,BO] at h3;have h4:BN ([]:List Int)=0:=rfl;have hmem:(Ds acs k).ba∈bas acs:=List.mem_map_of_mem (List.mem_of_getElem? (F3 hk));have h5:=Px (fun y hy=>(C4.1 ((SB h).1 y hy)).1) _ hmem;have hx2:=C4.1 hm;rw [h2,if_pos h1];refine ⟨SA h hk (Fz.2 ⟨⟨by dsimp only; omega,by dsimp only; omega⟩,hg.2⟩) (by dsimp only; omega),Ms ..,?_⟩;rw [Mr,Mq (x:=(Ds acs k).ba) (by unfold bas; rw [List.getElem?_map,F3 hk]; rfl)];dsimp only;omega
theorem Ib (acs:List Ac) (k x:Int):(EZ acs k x≠0∧EB acs k x=acs)∨(EZ acs k x=0∧inA acs k=true∧0<x∧Df x=true∧x≤(Ds acs k).ba∧EB acs k x=KI acs k ⟨(Ds acs k).ba - x,(Ds acs k).re⟩):=by
 by_cases h:EZ acs k x=0
 ·refine .inr ⟨h,?_⟩;have h2:=h;unfold EZ at h2
  cases h3:inA acs k with
  | false=>rw [if_pos h3] at h2; cases h2
  | true =>
   rw [if_neg (by rw [h3]; decide)] at h2
   cases h4:(decide (0<x) && Df x) with
   | false=>rw [if_pos h4] at h2; cases h2
   | true =>
    rw [if_neg (by rw [h4]; decide)] at h2;rw [Bool.and_eq_true,decide_eq_true_eq] at h4
    by_cases h5:(Ds acs k).ba<x
    ·rw [if_pos h5] at h2; cases h2
    ·refine ⟨rfl,h4.1,h4.2,by omega,?_⟩;unfold EB;rw [if_pos h]
 ·refine .inl ⟨h,?_⟩;unfold EB;rw [if_neg h]
theorem SF {acs:List Ac} (h:Eu acs=0) (k x:Int):Eu (EB acs k x)=0∧(EB acs k x).length=acs.length∧BN (bas (EB acs k x))=BN (bas acs) - (if EZ acs k x=0 then x else 0):=by
 rcases Ib acs k x with ⟨h1,h2⟩ | ⟨h1,hk,hx,hm,hle,h2⟩
 ·rw [h2,if_neg h1];exact ⟨h,rfl,by omega⟩
 ·have hg:=Je h hk;have h3:=(SB h).2;rw [h2,if_pos h1];refine ⟨SA h hk (Fz.2 ⟨⟨by dsimp only; omega,by dsimp only; omega⟩,hg.2⟩) (by dsimp only; omega),Ms ..,?_⟩;rw [Mr,Mq (x:=(Ds acs k).ba) (by unfold bas; rw [List.getElem?_map,F3 hk]; rfl)];dsimp only;omega
theorem MY (acs:List Ac) (k x:Int):(Mp acs k x≠0∧GX acs k x=acs)∨(Mp acs k x=0∧inA acs k=true∧Df x=true∧GX acs k x=KI acs k ⟨(Ds acs k).ba,x⟩):=by
 by_cases h:Mp acs k x=0
 ·refine .inr ⟨h,?_⟩;have h2:=h;unfold Mp at h2
  cases h3:inA acs k with
  | false=>rw [if_pos h3] at h2; cases h2
  | true =>
   rw [if_neg (by rw [h3]; decide)] at h2
   cases h4:Df x with
   | false=>rw [if_pos h4] at h2; cases h2
   | true =>
    refine ⟨rfl,rfl,?_⟩;unfold GX;rw [if_pos h]
 ·refine .inl ⟨h,?_⟩;unfold GX;rw [if_neg h]
theorem VG {acs:List Ac} (h:Eu acs=0) (k x:Int):Eu (GX acs k x)=0∧(GX acs k x).length=acs.length∧BN (bas (GX acs k x))=BN (bas acs):=by
 rcases MY acs k x with ⟨h1,h2⟩ | ⟨h1,hk,hm,h2⟩
 ·rw [h2];exact ⟨h,rfl,rfl⟩
 ·have hg:=Je h hk;have h3:=(SB h).2;have hx:=C4.1 hm;rw [h2];refine ⟨SA h hk (Fz.2 ⟨hg.1,hx⟩) (by dsimp only; omega),Ms ..,?_⟩;rw [Mr,Mq (x:=(Ds acs k).ba) (by unfold bas; rw [List.getElem?_map,F3 hk]; rfl)];dsimp only;omega
theorem Um {acs:List Ac} (h:Eu acs=0) (hl:acs.length<16):Eu (acs++[a00])=0∧BN (bas (acs++[a00]))=BN (bas acs):=by
 obtain ⟨h1,h2,h3⟩:=Cd.1 h;have h4:=Dp.1 h3
 have h5:BN ((acs++[a00]).map Ac.ba)=BN (acs.map Ac.ba):=by
  rw [List.map_append,EF];show BN (acs.map Ac.ba)+0=_;omega
 refine ⟨Cd.2 ⟨by rw [List.length_append,List.length_singleton]; omega,fun b hb=>?_,Dp.2 ⟨fun x hx=>?_,by rw [h5]; exact h4.2⟩⟩,h5⟩
 ·rcases List.mem_append.1 hb with h6 | h6
  ·exact h2 b h6
  ·rw [List.mem_singleton.1 h6]; decide
 ·rw [List.map_append] at hx
  rcases List.mem_append.1 hx with h6 | h6
  ·exact h4.1 x h6
  ·rw [List.mem_singleton.1 h6]; decide
def Abd (nx fr to x w u:Int):Du:=⟨nx,fr,to,x,w,u,false⟩
def J4 (ds:List Du) (nx fr to x w u:Int):Int:=if Ej (Abd nx fr to x w u)=false then 1 else if 64≤ds.length∨4611686018427387904≤nx then 6 else if (EX (ds.map Du.am++[x])).2≠0 then 13 else 0
def MZ (ds:List Du) (nx fr to x w u:Int):List Du:=if J4 ds nx fr to x w u=0 then ds++[Abd nx fr to x w u] else ds
def P5 (ds:List Du) (nx fr to x w u:Int):Int:=if J4 ds nx fr to x w u=0 then nx+1 else nx
def Mu (ds:List Du) (k:Int) (b:Bool):Int:=match CQ ds k with
 | none=>11
 | some d=>if d.held=b then 14 else 0
def IB (ds:List Du) (k:Int) (b:Bool):List Du:=if Mu ds k b=0 then ds.map fun d=>if d.id=k then { d with held:=b } else d else ds
def PW (ds:List Du) (k:Int):Int:=match CQ ds k with
 | none=>11
 | some _=>0
def SG (ds:List Du) (k:Int):List Du:=ds.filter fun d => !decide (d.id=k)
def Ew (ds:List Du) (u:Int):List Du:=ds.filter fun d=>decide (u≤d.un)
theorem Er {ds:List Du} {nx:Int} (h:ofC ds nx=0):ds.length≤64∧(1≤nx∧nx≤4611686018427387904)∧FH nx 0 ds=true∧BN (ds.map Du.am)≤4503599627370496:=by
 obtain ⟨h1,h2,h3,h4⟩:=Fy.1 h;exact ⟨h1,h2,h3,(Dp.1 h4).2⟩
theorem SH {nx:Int}:∀ {ah:Int} {ds:List Du},FH nx ah ds=true↔(∀ d∈ds,Ej d=true∧ah<d.id∧d.id<nx)∧(ds.map Du.id).Pairwise (·<·)
 | ah,[]=>⟨fun _=>⟨fun _ h=>(by cases h),List.Pairwise.nil⟩,fun _=>rfl⟩
 | ah,x::ds=>by
  simp only [FH,Bool.and_eq_true,decide_eq_true_eq,List.map_cons,List.pairwise_cons];rw [SH];constructor
  ·rintro ⟨⟨h1,h2,h3⟩,h4,h5⟩;refine ⟨fun d hd=>?_,fun y hy=>?_,h5⟩
   ·rcases List.mem_cons.1 hd with rfl | hd
    ·exact ⟨h1,h2,h3⟩
    ·obtain ⟨g1,g2,g3⟩:=h4 d hd;exact ⟨g1,by omega,g3⟩
   ·obtain ⟨d,hd,rfl⟩:=List.mem_map.1 hy;exact (h4 d hd).2.1
  ·rintro ⟨h1,h2,h3⟩;obtain ⟨g1,g2,g3⟩:=h1 x (List.mem_cons_self ..);refine ⟨⟨g1,g2,g3⟩,fun d hd=>?_,h3⟩;obtain ⟨k1,-,k3⟩:=h1 d (List.mem_cons_of_mem _ hd);exact ⟨k1,h2 _ (List.mem_map_of_mem hd),k3⟩
theorem SJ {ds:List Du} {nx:Int} (h1:ds.length≤64) (h2:1≤nx∧nx≤4611686018427387904) (h3:∀ d∈ds,Ej d=true∧0<d.id∧d.id<nx) (h4:(ds.map Du.id).Pairwise (·<·)) (h5:BN (ds.map Du.am)≤4503599627370496):ofC ds nx=0:=by
 refine Fy.2 ⟨h1,h2,SH.2 ⟨h3,h4⟩,Dp.2 ⟨fun x hx=>?_,h5⟩⟩;obtain ⟨d,hd,rfl⟩:=List.mem_map.1 hx;have:=CW (h3 d hd).1;exact C4.2 (by omega)
theorem GF {ds:List Du} {nx:Int} (h:ofC ds nx=0):(∀ d∈ds,Ej d=true∧0<d.id∧d.id<nx)∧(ds.map Du.id).Pairwise (·<·):=SH.1 (Er h).2.2.1
theorem P6 (p:Du→Bool):∀ {ds:List Du},(∀ d∈ds,0≤d.am)→BN ((ds.filter p).map Du.am)≤BN (ds.map Du.am)
 | [],_=>Int.le_refl _
 | d::ds,h=>by
  have ih:=P6 p (ds:=ds) fun e he=>h e (List.mem_cons_of_mem _ he);have h0:=h d (List.mem_cons_self ..);rw [List.filter_cons]
  split
  ·rw [List.map_cons,List.map_cons,BO,BO]; omega
  ·rw [List.map_cons,BO]; omega
theorem QZ {ds:List Du} {nx:Int} (h:ofC ds nx=0) (p:Du→Bool):ofC (ds.filter p) nx=0:=by
 obtain ⟨h1,h2,-,h4⟩:=Er h;obtain ⟨h5,h6⟩:=GF h;have h7:(ds.filter p).Sublist ds:=List.filter_sublist;refine SJ (Nat.le_trans h7.length_le h1) h2 (fun d hd=>h5 d (h7.subset hd)) ?_ (Int.le_trans (P6 p fun d hd=>by have:=CW (h5 d hd).1; omega) h4);exact h6.sublist (h7.map _)
theorem Aj9 {ds:List Du} {nx:Int} (h:ofC ds nx=0) (fr to x w u:Int):ofC (MZ ds nx fr to x w u) (P5 ds nx fr to x w u)=0:=by
 unfold MZ P5
 by_cases hC:J4 ds nx fr to x w u=0
 ·rw [if_pos hC,if_pos hC];unfold J4 at hC
  cases hm:Ej (Abd nx fr to x w u) with
  | false=>rw [if_pos hm] at hC; cases hC
  | true =>
   rw [if_neg (by rw [hm]; decide)] at hC
   by_cases hl:64≤ds.length∨4611686018427387904≤nx
   ·rw [if_pos hl] at hC; cases hC
   ·rw [if_neg hl] at hC
    by_cases ht:(EX (ds.map Du.am++[x])).2≠0
    ·rw [if_pos ht] at hC; cases hC
    ·obtain ⟨h1,h2,-,h4⟩:=Er h;obtain ⟨h5,h6⟩:=GF h;have h7:=(Dp.1 (show (EX (ds.map Du.am++[x])).2=0 by omega)).2;refine SJ (by rw [List.length_append,List.length_singleton]; omega) (by omega) (fun d hd=>?_) ?_ (by rw [List.map_append]; exact h7)
     ·rcases List.mem_append.1 hd with h8 | h8
      ·obtain ⟨g1,g2,g3⟩:=h5 d h8;exact ⟨g1,g2,by omega⟩
      ·rw [List.mem_singleton.1 h8];exact ⟨hm,by show 0<nx; omega,by show nx<nx+1; omega⟩
     ·rw [List.map_append,List.pairwise_append];refine ⟨h6,List.pairwise_singleton ..,fun y hy z hz=>?_⟩;obtain ⟨d,hd,rfl⟩:=List.mem_map.1 hy;have hz':z=nx:=by simpa [Abd] using hz
      rw [hz'];exact (h5 d hd).2.2
 ·rw [if_neg hC,if_neg hC];exact h
theorem Abe {ds:List Du} {nx:Int} (h:ofC ds nx=0) (k:Int) (b:Bool):ofC (IB ds k b) nx=0:=by
 unfold IB
 split
 ·obtain ⟨h1,h2,-,h4⟩:=Er h;obtain ⟨h5,h6⟩:=GF h
  have hid:(ds.map fun d=>if d.id=k then { d with held:=b } else d).map Du.id=ds.map Du.id:=by
   rw [List.map_map];refine List.map_congr_left fun d _=>?_;show (if d.id=k then ({ d with held:=b }:Du) else d).id=d.id
   split <;> rfl
  have ham:(ds.map fun d=>if d.id=k then { d with held:=b } else d).map Du.am=ds.map Du.am:=by
   rw [List.map_map];refine List.map_congr_left fun d _=>?_;show (if d.id=k then ({ d with held:=b }:Du) else d).am=d.am
   split <;> rfl
  refine SJ (by rw [List.length_map]; exact h1) h2 (fun e he=>?_) (by rw [hid]; exact h6) (by rw [ham]; exact h4);obtain ⟨d,hd,rfl⟩:=List.mem_map.1 he;obtain ⟨g1,g2,g3⟩:=h5 d hd
  split
  ·exact ⟨g1,g2,g3⟩
  ·exact ⟨g1,g2,g3⟩
 ·exact h
theorem Abf {ds:List Du} {k:Int} {b:Bool} {n:Nat} (h:∀ d∈ds,d.fr<(n:Int)∧d.to<(n:Int)) {e:Du} (he:e∈IB ds k b):e.fr<(n:Int)∧e.to<(n:Int):=by
 unfold IB at he
 split at he
 ·obtain ⟨d,hd,rfl⟩:=List.mem_map.1 he
  split
  ·exact h d hd
  ·exact h d hd
 ·exact h e he
end Go.Proofs.YtdagmpmdcgedcaaGreat
namespace Go.Proofs.YtdagmpmdcgedcaaGreat
open Go.GV
theorem Aka {acs:List Ac} {by':Nat→Int} (hs:Dz (bas acs) (tab by' acs.length)=0):bas (shA acs (tab by' acs.length))=CS (bas acs) (tab by' acs.length):=by
 apply List.ext_getElem?;intro k
 rcases Nat.lt_or_ge k acs.length with h | h
 ·obtain ⟨a,ha⟩:=A8 (h:=h);have h1:=S7 hs ha;have h2:(bas acs)[k]? = some a.ba:=by unfold bas; rw [List.getElem?_map,ha]; rfl
  rw [IZ h2 (BU h)];unfold bas;rw [List.getElem?_map,h1];rfl
 ·have h1:(bas (shA acs (tab by' acs.length))).length=acs.length:=by unfold bas; rw [List.length_map,NS]
  have h2:(CS (bas acs) (tab by' acs.length)).length≤acs.length:=by unfold CS; rw [List.length_zipWith,CP]; omega
  rw [List.getElem?_eq_none (by omega),List.getElem?_eq_none (by omega)]
theorem Yh {acs:List Ac} {ds:List Du} {nx:Int} {r:Rnd} (ha:Eu acs=0) (hd:ofC ds nx=0) (hC:DW acs ds r=0):BN (bas (DK acs ds r))=BN (bas acs):=by
 have F:=DL ha hd hC;have hs:Dz (bas acs) (tab (byK (acs.map C5) (opn ds) r.cmp r.fl) acs.length)=0:=(Iy ha (fun k a hk=>(F.by' k a hk).2) F.sum).1;have h1:DK acs ds r=shA acs (tab (byK (acs.map C5) (opn ds) r.cmp r.fl) acs.length):=by unfold DK; rw [if_pos hC]
 rw [h1,Aka hs,Lr (by unfold bas; rw [List.length_map,CP]),Pp,F.sum];omega
theorem Na:∀ {ds:List Du} {ys:List Int},(∀ y∈ys,y=0)→(∀ d∈ds,d.am≠0)→DH ds ys=ds
 | [],_,_,_=>rfl
 | d::ds,[],_,_=>rfl
 | d::ds,y::ys,h,hd=>by
  have h1:=hd d (List.mem_cons_self ..);have h2:∀ e∈ds,e.am≠0:=fun e he=>hd e (List.mem_cons_of_mem _ he)
  by_cases hh:d.held=true
  ·rw [FP hh,Na h h2]
  ·obtain rfl:y=0:=h y (List.mem_cons_self ..);rw [FQ hh,if_neg h1,Na (fun z hz=>h z (List.mem_cons_of_mem _ hz)) h2];show { d with am:=d.am - 0 }::ds=d::ds;rw [Int.sub_zero]
theorem P7 {f:Du→Int}:∀ {os:List Du} {ys:List Int},(∀ y∈ys,y=0)→BN (List.zipWith (fun d x=>f d*x) os ys)=0
 | [],ys,_=>by cases ys <;> rfl
 | _::_,[],_=>rfl
 | d::os,y::ys,h=>by
  obtain rfl:y=0:=h y (List.mem_cons_self ..);rw [List.zipWith_cons_cons,BO,P7 fun z hz=>h z (List.mem_cons_of_mem _ hz),Int.mul_zero];rfl
theorem VH {acs:List Ac} {ds:List Du} {nx:Int} {r:Rnd} (ha:Eu acs=0) (hd:ofC ds nx=0) (hC:DW acs ds r=0) (hz:∀ x∈r.fl.take (opn ds).length,x=0):DK acs ds r=acs∧D5 acs ds r=ds:=by
 have F:=DL ha hd hC;have hos:∀ d∈opn ds,0≤d.fr∧0≤d.to:=fun d hdm=>by have:=CW (F.B.open'.due d hdm).1; omega
 have hl:(opn ds).length≤r.fl.length:=by have:=F.pay.1; rw [List.length_take] at this; omega
 have hby:∀ k,byK (acs.map C5) (opn ds) r.cmp r.fl k=0:=fun k=>by
  rw [Mk hos hl];exact P7 hz
 constructor
 ·apply List.ext_getElem?;intro k
  rcases Nat.lt_or_ge k acs.length with h | h
  ·obtain ⟨a,hak⟩:=A8 (h:=h);rw [Hz ha hd hC hak,hby,Int.add_zero,hak]
  ·have h1:=(G2 (r:=r) ha hd).2.2;rw [List.getElem?_eq_none (by omega),List.getElem?_eq_none (by omega)]
 ·unfold D5;rw [if_pos hC];exact Na hz fun d hdm=>by have:=CW (F.B.due d hdm).1; omega
def Gn (xs:List Int) (k:Nat):Int:=B7 (fun i=>one (0<xs.getD i 0)) k
theorem Ra {xs:List Int} (h:∀ x∈xs,x=0):∀ k,k≤xs.length→Gn xs k=0
 | 0,_=>rfl
 | k+1,hk=>by
  obtain ⟨x,hx⟩:=A8 (l:=xs) (i:=k);have h1:=Ra h k (by omega);have h2:Gn xs (k+1)=Gn xs k+one (0<xs.getD k 0):=rfl;rw [h2,h1,Bi hx,h x (List.mem_of_getElem? hx),F6 (by omega)];rfl
theorem VI {os:List Du} {xs:List Int} (h:∀ x∈xs,x=0) (hl:os.length≤xs.length):DM os xs os.length=0:=by
 rw [Ko hl];exact P7 h
def Jf (rn:List Rnd) (r:Rnd):List Rnd:=(rn++[r]).drop (rn.length - 3)
theorem Un {rn:List Rnd} (h:rn.length≤4) (r:Rnd):(Jf rn r).length=min (rn.length+1) 4:=by
 unfold Jf;rw [List.length_drop,List.length_append,List.length_singleton];omega
theorem Abg {rn:List Rnd} {r x:Rnd} (h:x∈Jf rn r):x∈rn∨x=r:=by
 have h1:=List.mem_of_mem_drop h
 rcases List.mem_append.1 h1 with h2 | h2
 ·exact .inl h2
 ·exact .inr (List.mem_singleton.1 h2)
def CR (s:Ld) (r:Rnd):Ld:=⟨s.day,DK s.acs s.ds r,D5 s.acs s.ds r,s.nx,Jf s.rn { r with no:=s.no+1,day:=s.day },s.no+1⟩
theorem Kp {s:Ld} (h:s.Ok) {net:Bool} {r:Rnd} (P:PlanR s.acs s.ds net r) (hno:s.no<4611686018427387904):DW s.acs s.ds r=0∧(CR s r).Ok:=by
 have hBr:=Ls h.ac h.du h.bk;have hol:=Iz s.ds;have h64:=hBr.m64;have hC:DW s.acs s.ds r=0:=QS ((HY).2 hBr) P;obtain ⟨h1,h2,h3⟩:=G2 (r:=r) h.ac h.du;have hB2:=Nz h.ac h.du hC;obtain ⟨k1,k2,k3⟩:=h.kept;have hkl:=Un k1 { r with no:=s.no+1,day:=s.day };refine ⟨hC,⟨h1,h2,fun d hd=>?_,h.day,⟨by show (Jf _ _).length≤4; omega,by show ((Jf _ _).length:Int)≤s.no+1; omega,by show s.no+1≤_; omega⟩,fun i x hx=>?_,fun x hx=>?_⟩⟩
 ·have:=(hB2.due d hd).2;rw [List.length_map] at this;exact this
 ·change (Jf s.rn { r with no:=s.no+1,day:=s.day })[i]? = some x at hx
  show x.no=s.no+1 - ((Jf s.rn { r with no:=s.no+1,day:=s.day }).length:Nat)+1+i;have hi:=Cu hx;rw [hkl] at hi ⊢;unfold Jf at hx;rw [List.getElem?_drop] at hx
  rcases Nat.lt_or_ge (s.rn.length - 3+i) s.rn.length with h5 | h5
  ·rw [List.getElem?_append_left h5] at hx;have:=h.nos _ x hx;omega
  ·rw [List.getElem?_append_right h5] at hx;have h6:s.rn.length - 3+i - s.rn.length=0:=by omega
   rw [h6] at hx;cases hx;show s.no+1=_;omega
 ·rcases Abg hx with h5 | rfl
  ·exact h.may x h5
  ·unfold NB;dsimp only;have hids:r.ids.length=(opn s.ds).length:=by rw [P.ids,List.length_map]
   rw [P.chk,decide_eq_true (show r.ids.length≤64 by omega),decide_eq_true h.day.1];rfl
end Go.Proofs.YtdagmpmdcgedcaaGreat
namespace Go.Proofs.YtdagmpmdcgedcaaGreat
open Go.GV
structure Rp where
 e:Int
 n:List Int
def rp (l:List Int) (e:Int):Rp:=if e=0 then ⟨0,l⟩ else ⟨e,[]⟩
theorem Rb {l:List Int} {e:Int} (h:e≠0):rp l e=⟨e,[]⟩:=if_neg h
theorem rp_e (l:List Int) (e:Int):(rp l e).e=e:=by
 unfold rp
 split
 ·rename_i h; exact h.symm
 ·rfl
def PX (acs:List Ac) (k:Int):List Int:=[(Ds acs k).ba,(Ds acs k).re]
def N0 (b:Bool):Int:=if b=true then 1 else 0
def Uo (s:Ld) (k:Int):Option Rnd:=if k≤s.no∧s.no - k<s.rn.length then s.rn[(k - (s.no - s.rn.length+1)).toNat]? else none
def J5 (r:Rnd) (b:Int):Rp :=
 if b < -1∨(r.es.length:Int)+r.N≤b then ⟨1,[]⟩
 else if b = -1 then ⟨0,[r.day,N0 r.cmp,r.N,r.es.length,r.ids.length]⟩
 else if (r.es.length:Int)≤b then ⟨0,[r.pot.getD (b - r.es.length).toNat 0]⟩
 else ⟨0,[(r.es.getD b.toNat e0).f,(r.es.getD b.toNat e0).t,(r.es.getD b.toNat e0).cap,(r.es.getD b.toNat e0).cost,r.fl.getD b.toNat 0,if b<r.ids.length then IntKind.i64.wrap (r.ids.getD b.toNat 0) else 0]⟩
def Es (s:Ld) (a:Ak):Ld :=
 if a.kd=1 then (if s.acs.length<16 then { s with acs:=s.acs++[a00] } else s)
 else if a.kd=2 then { s with acs:=EG s.acs a.a a.x }
 else if a.kd=3 then { s with acs:=EB s.acs a.a a.x }
 else if a.kd=4 then { s with acs:=GX s.acs a.a a.x }
 else if a.kd=5 then (if (inA s.acs a.a && inA s.acs a.b)=true∧s.day≤a.u then { s with ds:=MZ s.ds s.nx a.a a.b a.x a.w a.u,nx:=P5 s.ds s.nx a.a a.b a.x a.w a.u } else s)
 else if a.kd=6 then { s with ds:=IB s.ds a.id true }
 else if a.kd=7 then { s with ds:=IB s.ds a.id false }
 else if a.kd=8 then { s with ds:=SG s.ds a.id }
 else if a.kd=9 then (if s.day≤a.u then { s with day:=a.u,ds:=Ew s.ds a.u } else s)
 else s
def EC (s:Ld) (a:Ak):Rp :=
 if a.kd=1 then rp [s.acs.length] (if s.acs.length<16 then 0 else 6)
 else if a.kd=2 then rp (PX (EG s.acs a.a a.x) a.a) (Fu s.acs a.a a.x)
 else if a.kd=3 then rp (PX (EB s.acs a.a a.x) a.a) (EZ s.acs a.a a.x)
 else if a.kd=4 then rp (PX (GX s.acs a.a a.x) a.a) (Mp s.acs a.a a.x)
 else if a.kd=5 then (if (inA s.acs a.a && inA s.acs a.b)=false then ⟨10,[]⟩ else if a.u<s.day then ⟨1,[]⟩ else rp [IntKind.i64.wrap s.nx] (J4 s.ds s.nx a.a a.b a.x a.w a.u))
 else if a.kd=6 then rp [] (Mu s.ds a.id true)
 else if a.kd=7 then rp [] (Mu s.ds a.id false)
 else if a.kd=8 then rp [] (PW s.ds a.id)
 else if a.kd=9 then (if a.u<s.day then ⟨3,[]⟩ else ⟨0,[((s.ds.length - (Ew s.ds a.u).length:Nat):Int)]⟩)
 else if a.kd=12 then (if inA s.acs a.a=true then ⟨0,PX s.acs a.a⟩ else ⟨10,[]⟩)
 else if a.kd=13 then (if inA s.acs a.a=true then ⟨0,[Ev s.acs s.ds a.a.toNat]⟩ else ⟨10,[]⟩)
 else if a.kd=14 then (match CQ s.ds a.id with
  | none=>⟨11,[]⟩
  | some d=>⟨0,[d.fr,d.to,d.am,d.we,d.un,N0 d.held]⟩)
 else if a.kd=15 then (match Uo s a.id with
  | none=>⟨4,[]⟩
  | some r=>J5 r a.b)
 else ⟨1,[]⟩
def Cq (s:Ld) (a:Ak) (s':Ld) (p:Rp):Prop :=
 if a.kd=10∨a.kd=11 then
  (4611686018427387904≤s.no∧s'=s∧p=⟨6,[]⟩) ∨
  (s.no<4611686018427387904∧∃ r,PlanR s.acs s.ds (decide (a.kd=11)) r∧s'=CR s r ∧
   p=⟨0,[IntKind.i64.wrap (s.no+1),DM (opn s.ds) r.fl (opn s.ds).length,Gn (r.fl.take (opn s.ds).length) (opn s.ds).length]⟩)
 else s'=Es s a∧p=EC s a
theorem J6 {s:Ld} (h:s.Ok) (a:Ak) (hu:a.u≤9223372036854775807):(Es s a).Ok:=by
 unfold Es
 split
 ·split
  ·rename_i hl
   exact ⟨(Um h.ac hl).1,h.du,fun d hd=>by have:=h.bk d hd; show _<((s.acs++[a00]).length:Int)∧_<((s.acs++[a00]).length:Int); rw [List.length_append,List.length_singleton]; omega,h.day,h.kept,h.nos,h.may⟩
  ·exact h
 split
 ·obtain ⟨h1,h2,-⟩:=SD h.ac a.a a.x;exact ⟨h1,h.du,fun d hd=>by show _<((EG s.acs a.a a.x).length:Int)∧_<((EG s.acs a.a a.x).length:Int); rw [h2]; exact h.bk d hd,h.day,h.kept,h.nos,h.may⟩
 split
 ·obtain ⟨h1,h2,-⟩:=SF h.ac a.a a.x;exact ⟨h1,h.du,fun d hd=>by show _<((EB s.acs a.a a.x).length:Int)∧_<((EB s.acs a.a a.x).length:Int); rw [h2]; exact h.bk d hd,h.day,h.kept,h.nos,h.may⟩
 split
 ·obtain ⟨h1,h2,-⟩:=VG h.ac a.a a.x;exact ⟨h1,h.du,fun d hd=>by show _<((GX s.acs a.a a.x).length:Int)∧_<((GX s.acs a.a a.x).length:Int); rw [h2]; exact h.bk d hd,h.day,h.kept,h.nos,h.may⟩
 split
 ·split
  ·rename_i hb
   refine ⟨h.ac,Aj9 h.du ..,fun d hd=>?_,h.day,h.kept,h.nos,h.may⟩
   change d∈MZ s.ds s.nx a.a a.b a.x a.w a.u at hd
   unfold MZ at hd
   split at hd
   ·rcases List.mem_append.1 hd with h1 | h1
    ·exact h.bk d h1
    ·rw [List.mem_singleton.1 h1];rw [Bool.and_eq_true] at hb;exact ⟨(GD.1 hb.1.1).2,(GD.1 hb.1.2).2⟩
   ·exact h.bk d hd
  ·exact h
 split
 ·exact ⟨h.ac,Abe h.du ..,fun d hd=>Abf h.bk hd,h.day,h.kept,h.nos,h.may⟩
 split
 ·exact ⟨h.ac,Abe h.du ..,fun d hd=>Abf h.bk hd,h.day,h.kept,h.nos,h.may⟩
 split
 ·exact ⟨h.ac,QZ h.du _,fun d hd=>h.bk d (List.mem_filter.1 hd).1,h.day,h.kept,h.nos,h.may⟩
 split
 ·split
  ·rename_i hd
   exact ⟨h.ac,QZ h.du _,fun d hd=>h.bk d (List.mem_filter.1 hd).1,⟨Int.le_trans h.day.1 hd,hu⟩,h.kept,h.nos,h.may⟩
  ·exact h
 ·exact h
def Up (s:Ld) (a:Ak):Int:=(if a.kd=2∧Fu s.acs a.a a.x=0 then a.x else 0) - (if a.kd=3∧EZ s.acs a.a a.x=0 then a.x else 0)
theorem Abh {s s':Ld} {a:Ak} {p:Rp} (h:s.Ok) (hs:Cq s a s' p):BN (bas s'.acs)=BN (bas s.acs)+Up s a:=by
 unfold Cq at hs
 split at hs
 ·rename_i hk
  have h0:Up s a=0:=by
   unfold Up;rw [if_neg (by omega),if_neg (by omega)];rfl
  rw [h0,Int.add_zero]
  rcases hs with ⟨-,rfl,-⟩ | ⟨hno,r,P,rfl,-⟩
  ·rfl
  ·exact Yh h.ac h.du (Kp h P hno).1
 ·rw [hs.1];unfold Es Up
  split
  ·rename_i h1
   rw [if_neg (show ¬ (a.kd=2∧Fu s.acs a.a a.x=0) by omega),if_neg (show ¬ (a.kd=3∧EZ s.acs a.a a.x=0) by omega)]
   split
   ·rename_i hl
    rw [show BN (bas ({ s with acs:=s.acs++[a00] }:Ld).acs)=BN (bas s.acs) from (Um h.ac hl).2];omega
   ·omega
  split
  ·rename_i h1 h2
   have h3:=(SD h.ac a.a a.x).2.2;show BN (bas (EG s.acs a.a a.x))=_;rw [h3,if_neg (show ¬ (a.kd=3∧_) by omega)]
   by_cases h4:Fu s.acs a.a a.x=0
   ·rw [if_pos h4,if_pos ⟨h2,h4⟩]; omega
   ·rw [if_neg h4,if_neg (fun h=>h4 h.2)]; omega
  split
  ·rename_i h1 h2 h3
   have h5:=(SF h.ac a.a a.x).2.2;show BN (bas (EB s.acs a.a a.x))=_;rw [h5,if_neg (show ¬ (a.kd=2∧_) by omega)]
   by_cases h4:EZ s.acs a.a a.x=0
   ·rw [if_pos h4,if_pos ⟨h3,h4⟩]; omega
   ·rw [if_neg h4,if_neg (fun h=>h4 h.2)]; omega
  rename_i h1 h2 h3
  rw [if_neg (show ¬ (a.kd=2∧_) by omega),if_neg (show ¬ (a.kd=3∧_) by omega)]
  split
  ·show BN (bas (GX s.acs a.a a.x))=_;rw [(VG h.ac a.a a.x).2.2];omega
  split
  ·split <;> (show BN (bas s.acs)=_; omega)
  split
  ·show BN (bas s.acs)=_; omega
  split
  ·show BN (bas s.acs)=_; omega
  split
  ·show BN (bas s.acs)=_; omega
  split
  ·split <;> (show BN (bas s.acs)=_; omega)
  ·show BN (bas s.acs)=_; omega
end Go.Proofs.YtdagmpmdcgedcaaGreat
namespace Go.Proofs.YtdagmpmdcgedcaaGreat
open Go.GV
theorem Kq {l:List Int} {e:Int} (h:(rp l e).e≠0):(rp l e).n=[]∧e≠0:=by
 have h1:e≠0:=by rw [rp_e] at h; exact h
 exact ⟨by rw [Rb h1],h1⟩
theorem CO {ds:List Du} {nx fr to x w u:Int} (h:J4 ds nx fr to x w u≠0):MZ ds nx fr to x w u=ds∧P5 ds nx fr to x w u=nx:=by
 unfold MZ P5;rw [if_neg h,if_neg h];exact ⟨rfl,rfl⟩
theorem Mv {ds:List Du} {k:Int} {b:Bool} (h:Mu ds k b≠0):IB ds k b=ds:=by
 unfold IB;rw [if_neg h]
theorem Uq {ds:List Du} {k:Int} (h:PW ds k≠0):SG ds k=ds:=by
 unfold PW at h;unfold SG;rw [List.filter_eq_self];intro d hd
 cases hf:CQ ds k with
 | some e=>rw [hf] at h; exact absurd rfl h
 | none =>
  have h1:=List.find?_eq_none.1 hf d hd
  simpa using h1
theorem Aet {s:Ld} {a:Ak} (h:(EC s a).e≠0):(EC s a).n=[]∧Es s a=s:=by
 unfold EC at h ⊢;unfold Es
 by_cases hk1:a.kd=1
 ·rw [if_pos hk1] at h;obtain ⟨h1,h2⟩:=Kq h;rw [if_pos hk1,if_pos hk1];refine ⟨h1,if_neg fun hl=>h2 (if_pos hl)⟩
 rw [if_neg hk1] at h;rw [if_neg hk1,if_neg hk1]
 by_cases hk2:a.kd=2
 ·rw [if_pos hk2] at h;obtain ⟨h1,h2⟩:=Kq h;rw [if_pos hk2,if_pos hk2];refine ⟨h1,?_⟩
  rcases Ia s.acs a.a a.x with ⟨-,h3⟩ | ⟨h3,-⟩
  ·rw [h3]
  ·exact absurd h3 h2
 rw [if_neg hk2] at h;rw [if_neg hk2,if_neg hk2]
 by_cases hk3:a.kd=3
 ·rw [if_pos hk3] at h;obtain ⟨h1,h2⟩:=Kq h;rw [if_pos hk3,if_pos hk3];refine ⟨h1,?_⟩
  rcases Ib s.acs a.a a.x with ⟨-,h3⟩ | ⟨h3,-⟩
  ·rw [h3]
  ·exact absurd h3 h2
 rw [if_neg hk3] at h;rw [if_neg hk3,if_neg hk3]
 by_cases hk4:a.kd=4
 ·rw [if_pos hk4] at h;obtain ⟨h1,h2⟩:=Kq h;rw [if_pos hk4,if_pos hk4];refine ⟨h1,?_⟩
  rcases MY s.acs a.a a.x with ⟨-,h3⟩ | ⟨h3,-⟩
  ·rw [h3]
  ·exact absurd h3 h2
 rw [if_neg hk4] at h;rw [if_neg hk4,if_neg hk4]
 by_cases hk5:a.kd=5
 ·rw [if_pos hk5] at h;rw [if_pos hk5,if_pos hk5]
  split at h
  ·rename_i hb
   rw [if_pos hb,if_neg (by rw [hb]; simp)];exact ⟨rfl,rfl⟩
  ·rename_i hb
   rw [if_neg hb]
   split at h
   ·rename_i hu
    rw [if_pos hu,if_neg (by omega)];exact ⟨rfl,rfl⟩
   ·rename_i hu
    rw [if_neg hu];obtain ⟨h1,h2⟩:=Kq h;obtain ⟨h3,h4⟩:=CO h2;refine ⟨h1,?_⟩;rw [h3,h4]
    split <;> rfl
 rw [if_neg hk5] at h;rw [if_neg hk5,if_neg hk5]
 by_cases hk6:a.kd=6
 ·rw [if_pos hk6] at h;obtain ⟨h1,h2⟩:=Kq h;rw [if_pos hk6,if_pos hk6,Mv h2];exact ⟨h1,rfl⟩
 rw [if_neg hk6] at h;rw [if_neg hk6,if_neg hk6]
 by_cases hk7:a.kd=7
 ·rw [if_pos hk7] at h;obtain ⟨h1,h2⟩:=Kq h;rw [if_pos hk7,if_pos hk7,Mv h2];exact ⟨h1,rfl⟩
 rw [if_neg hk7] at h;rw [if_neg hk7,if_neg hk7]
 by_cases hk8:a.kd=8
 ·rw [if_pos hk8] at h;obtain ⟨h1,h2⟩:=Kq h;rw [if_pos hk8,if_pos hk8,Uq h2];exact ⟨h1,rfl⟩
 rw [if_neg hk8] at h;rw [if_neg hk8,if_neg hk8]
 by_cases hk9:a.kd=9
 ·rw [if_pos hk9] at h;rw [if_pos hk9,if_pos hk9]
  split at h
  ·rename_i hu
   rw [if_pos hu,if_neg (by omega)];exact ⟨rfl,rfl⟩
  ·exact absurd U h
 rw [if_neg hk9] at h;rw [if_neg hk9,if_neg hk9];refine ⟨?_,rfl⟩
 by_cases hk12:a.kd=12
 ·rw [if_pos hk12] at h;rw [if_pos hk12]
  split at h
  ·exact absurd U h
  ·rename_i hi; rw [if_neg hi]
 rw [if_neg hk12] at h;rw [if_neg hk12]
 by_cases hk13:a.kd=13
 ·rw [if_pos hk13] at h;rw [if_pos hk13]
  split at h
  ·exact absurd U h
  ·rename_i hi; rw [if_neg hi]
 rw [if_neg hk13] at h;rw [if_neg hk13]
 by_cases hk14:a.kd=14
 ·rw [if_pos hk14] at h;rw [if_pos hk14]
  split at h
  ·rfl
  ·exact absurd U h
 rw [if_neg hk14] at h;rw [if_neg hk14]
 by_cases hk15:a.kd=15
 ·rw [if_pos hk15] at h;rw [if_pos hk15]
  split at h
  ·rfl
  ·rename_i r hf
   show (J5 r a.b).n=[];unfold J5 at h ⊢
   split at h
   ·rename_i h1; rw [if_pos h1]
   ·split at h
    ·exact absurd U h
    ·split at h
     ·exact absurd U h
     ·exact absurd U h
 ·rw [if_neg hk15]
theorem Ur {s s':Ld} {a:Ak} {p:Rp} (hs:Cq s a s' p) (h:p.e≠0):p.n=[]∧s'=s:=by
 unfold Cq at hs
 split at hs
 ·rcases hs with ⟨-,rfl,rfl⟩ | ⟨-,r,-,-,rfl⟩
  ·exact ⟨rfl,rfl⟩
  ·exact absurd U h
 ·obtain ⟨rfl,rfl⟩:=hs;exact Aet h
theorem Rc {s s':Ld} {a:Ak} {p:Rp} (hs:Cq s a s' p) (h:12≤a.kd):s'=s:=by
 unfold Cq at hs;rw [if_neg (by omega)] at hs;rw [hs.1];unfold Es;rw [if_neg (by omega),if_neg (by omega),if_neg (by omega),if_neg (by omega),if_neg (by omega),if_neg (by omega),if_neg (by omega),if_neg (by omega),if_neg (by omega)]
end Go.Proofs.YtdagmpmdcgedcaaGreat
