/- Part 11 of the proof. -/
import Derived.Test.YtdagmpmdcgedcaaGreatPart2
import Derived.Test.YtdagmpmdcgedcaaGreatPart10
import Derived.Test.YtdagmpmdcgedcaaGreatPart4
import Derived.Test.YtdagmpmdcgedcaaGreatPart9
namespace Go.Proofs.YtdagmpmdcgedcaaGreat
open Go.GV
attribute [local irreducible] AB W Wq Wt
abbrev AcB (bd:Nat) (a:Option Addr) (n c:Nat) (w:World):Prop:=w.heap[bd]? = some (Bl 162 [.slice a n c])
theorem AcsAt.back {w0 w w':World} {a:Option Addr} {n c:Nat} {full:List Value} {acs:List Ac} (h:AcsAt w w' a n c full acs) (hx:Ext [] w0 w):AcsAt w0 w' a n c full acs:=by
 obtain ⟨f,O,hb,he⟩:=h;exact ⟨f,O,hb,(hx.mono (by simp)).trans he⟩
theorem AcsAt.of {w w':World} {a:Option Addr} {n c:Nat} {full:List Value} {acs acs':List Ac} (h:AcsAt w w' a n c full acs) (he:acs=acs'):AcsAt w w' a n c full acs':=he ▸ h
abbrev W7 (b3 b5:Nat) (acs:List Ac) (x:Int):List Qk:=[⟨1,169,[ptr b5],decide (0<x) && CY x⟩,⟨13,170,[ptr b3,ptr b5],decide ((ED (bas acs++[x])).2=0)⟩]
abbrev W8 (b3 b4 b5:Nat) (acs:List Ac) (k x:Int):List Qk:=[⟨1,172,[ptr b5],decide (0<x) && CY x⟩,⟨12,173,[ptr b5,ptr b3,ptr b4],decide (x≤(Dd acs k).ba)⟩]
abbrev rsvQ (b5:Nat) (x:Int):List Qk:=[⟨1,175,[ptr b5],CY x⟩]
theorem QN {b3 b5:Nat} {acs:List Ac} {k x:Int}:I8 acs k (W7 b3 b5 acs x)=FO acs k x:=by
 unfold I8 FO
 cases inA acs k with
 | false=>rfl
 | true =>
  rw [if_neg (by decide),if_neg (by decide)];show (if (decide (0<x) && CY x)=false then (1:Int) else if decide ((ED (bas acs++[x])).2=0)=false then 13 else 0)=_
  by_cases h:(ED (bas acs++[x])).2=0
  ·rw [if_neg (show ¬ (decide ((ED (bas acs++[x])).2=0)=false) by simpa using h),if_neg (show ¬ (ED (bas acs++[x])).2≠0 from fun h2=>h2 h)]
  ·rw [if_pos (show decide ((ED (bas acs++[x])).2=0)=false by simpa using h),if_pos h]
theorem QO {b3 b4 b5:Nat} {acs:List Ac} {k x:Int}:I8 acs k (W8 b3 b4 b5 acs k x)=FP acs k x:=by
 unfold I8 FP
 cases inA acs k with
 | false=>rfl
 | true =>
  rw [if_neg (by decide),if_neg (by decide)];show (if (decide (0<x) && CY x)=false then (1:Int) else if decide (x≤(Dd acs k).ba)=false then 12 else 0)=_
  by_cases h:x≤(Dd acs k).ba
  ·rw [if_neg (show ¬ (decide (x≤(Dd acs k).ba)=false) by simpa using h),if_neg (show ¬ (Dd acs k).ba<x by omega)]
  ·rw [if_pos (show decide (x≤(Dd acs k).ba)=false by simpa using h),if_pos (show (Dd acs k).ba<x by omega)]
theorem Abo {b5:Nat} {acs:List Ac} {k x:Int}:I8 acs k (rsvQ b5 x)=Md acs k x:=rfl
section
variable {bd c:Nat} {a:Option Addr} {full:List Value} {acs:List Ac} {w:World}
theorem MV {q:Nat} {k:Int} {w':World} (O:OS (some ⟨q,0,none⟩) acs.length c 2 full (acs.flatMap CM)) (h9:w'.heap[q]? = some (Bl 43 full)) (hi:inA acs k=true) :
  full[0+k.toNat*2]? = some (.int .i64 (Dd acs k).ba)∧0+k.toNat*2+1<full.length:=by
 have R:Rd w' (some ⟨q,0,none⟩) 2 CM acs:=OS.rd (t:=43) O (fun y hy=>by rw [List.mem_singleton.1 hy]; exact h9) (fun _ _=>rfl) (by omega);have h1:w'.cell? ⟨q,0+k.toNat*2+0,none⟩=some (.int .i64 (Dd acs k).ba):=R.fld (Fo hi) rfl (j:=0) rfl;have h2:w'.cell? ⟨q,0+k.toNat*2+1,none⟩=some (.int .i64 (Dd acs k).re):=R.fld (Fo hi) rfl (j:=1) rfl;rw [Aj h9] at h1 h2;exact ⟨h1,Ck h2⟩
theorem XU {b3 b5 b14:Nat} {k x:Int} (hd:AcB bd a acs.length c w) (O:OS a acs.length c 2 full (acs.flatMap CM)) (hb:∀ x∈ent a 43 full,w.heap[x.1]? = some x.2∧x.1≠b5) (hac:Ef acs=0)
  (h3:w.heap[b3]? = some (Bl 99 [ptr bd])) (h5:w.heap[b5]? = some (Bl 2 [.int .i64 x])) (h14:w.heap[b14]? = some (Bl 223 ((W7 b3 b5 acs x).flatMap MU))) :
  Ret Tryz.prog 167 #[ptr bd,.int .i64 k,.func (.func 168) #[] [ptr b5].toArray,.slice (some ⟨b14,0,none⟩) 2 2] w fun v w'=>v = .int .i64 (FO acs k x)∧AcsAt w w' a acs.length c full (E8 acs k x):=by
 have hn16:=(BZ.1 hac).1;have R:Rd w a 2 CM acs:=OS.rd O (fun y hy=>(hb y hy).1) (fun _ _=>rfl) (by omega);refine Ret.mono (Pv (qs:=W7 b3 b5 acs x) (e:=⟨(Dd acs k).ba+x,(Dd acs k).re⟩) w hd O (fun y hy=>(hb y hy).1) (Rd.of_bl h14 (List.append_nil _).symm fun _ _=>rfl) (show (2:Nat)≤1000 by decide) (fun q hq=>?_) Ag9 fun q w' hqa hi hC hx=>?_) fun v w' h=>?_
 ·rcases List.mem_cons.1 hq with rfl | hq
  ·exact ⟨Aha,(show (1:Int)≠0 by decide),fun w' hx=>Abi w' (hx.to h5 (by simp))⟩
  ·rw [List.mem_singleton.1 hq];exact ⟨Ahb,(show (13:Int)≠0 by decide),fun w' hx=>Abn w' (hx.to h3 (by simp)) (hx.to h5 (by simp)) (hx.to hd (by simp)) (R.ext0 hx)⟩
 ·subst hqa;obtain ⟨h1,h2⟩:=hb (q,Bl 43 full) (List.mem_singleton.2 rfl);have h9:w'.heap[q]? = _:=hx.to h1 (by simp);have hg:=IY hac hi;have hC2:FO acs k x=0:=by rw [← QN (b3:=b3) (b5:=b5)]; unfold I8; rw [if_neg (by rw [hi]; decide)]; exact hC
  rcases J3 acs k x with ⟨hc,-⟩ | ⟨-,-,h0,hm,-⟩
  ·exact absurd hC2 hc
  ·refine Ret.mono (Abk w' h9 (MV O h9 hi).1 (hx.to h5 (by simp)) (fun h=>h2 h.symm) ⟨hg.1.1,hg.1.2⟩ ⟨by omega,(CE.1 hm).2⟩) fun _ w'' H2=>⟨_,?_,H2⟩;rw [show 0+k.toNat*2+0=k.toNat*2+0 by omega];exact OS.setf O (y:=⟨(Dd acs k).ba+x,(Dd acs k).re⟩) (j:=0) (v := .int .i64 ((Dd acs k).ba+x)) (fun _=>rfl) (Fo hi) (by decide) U
 ·rw [QN] at h;exact ⟨h.1,h.2.of (by unfold E8; rfl)⟩
theorem XV {b3 b4 b5 b14:Nat} {k x:Int} (hd:AcB bd a acs.length c w) (O:OS a acs.length c 2 full (acs.flatMap CM)) (hb:∀ x∈ent a 43 full,w.heap[x.1]? = some x.2∧x.1≠b5) (hac:Ef acs=0)
  (h3:w.heap[b3]? = some (Bl 99 [ptr bd])) (h4:w.heap[b4]? = some (Bl 3 [.int .i64 k])) (h5:w.heap[b5]? = some (Bl 2 [.int .i64 x])) (h14:w.heap[b14]? = some (Bl 223 ((W8 b3 b4 b5 acs k x).flatMap MU))) :
  Ret Tryz.prog 167 #[ptr bd,.int .i64 k,.func (.func 171) #[] [ptr b5].toArray,.slice (some ⟨b14,0,none⟩) 2 2] w fun v w'=>v = .int .i64 (FP acs k x)∧AcsAt w w' a acs.length c full (EA acs k x):=by
 have hn16:=(BZ.1 hac).1;have R:Rd w a 2 CM acs:=OS.rd O (fun y hy=>(hb y hy).1) (fun _ _=>rfl) (by omega)
 cases hi0:inA acs k with
 | false =>
  refine Ret.mono (Abh w hd hi0) fun v w' h=>?_;have hc:FP acs k x=10:=by unfold FP; rw [if_pos hi0]
  refine ⟨by rw [hc]; exact h.1,full,?_,fun y hy=>h.2.to (hb y hy).1 (by simp),h.2.mono (by simp)⟩;unfold EA;rw [if_neg (by rw [hc]; decide)];exact O
 | true =>
  refine Ret.mono (Pv (qs:=W8 b3 b4 b5 acs k x) (e:=⟨(Dd acs k).ba - x,(Dd acs k).re⟩) w hd O (fun y hy=>(hb y hy).1) (Rd.of_bl h14 (List.append_nil _).symm fun _ _=>rfl) (show (2:Nat)≤1000 by decide) (fun q hq=>?_) Ahc fun q w' hqa hi hC hx=>?_) fun v w' h=>?_
  ·rcases List.mem_cons.1 hq with rfl | hq
   ·exact ⟨Ahd,(show (1:Int)≠0 by decide),fun w' hx=>Abj w' (hx.to h5 (by simp))⟩
   ·rw [List.mem_singleton.1 hq];exact ⟨Ahe,(show (12:Int)≠0 by decide),fun w' hx=>Abm w' (hx.to h5 (by simp)) (hx.to h3 (by simp)) (hx.to h4 (by simp)) (hx.to hd (by simp)) (R.ext0 hx) hi0⟩
  ·subst hqa;obtain ⟨h1,h2⟩:=hb (q,Bl 43 full) (List.mem_singleton.2 rfl);have h9:w'.heap[q]? = _:=hx.to h1 (by simp);have hg:=IY hac hi;have hC2:FP acs k x=0:=by rw [← QO (b3:=b3) (b4:=b4) (b5:=b5)]; unfold I8; rw [if_neg (by rw [hi]; decide)]; exact hC
   rcases Lq acs k x with ⟨hc,-⟩ | ⟨-,-,h0,hm,-⟩
   ·exact absurd hC2 hc
   ·refine Ret.mono (Abl w' h9 (MV O h9 hi).1 (hx.to h5 (by simp)) (fun h=>h2 h.symm) ⟨hg.1.1,hg.1.2⟩ ⟨by omega,(CE.1 hm).2⟩) fun _ w'' H2=>⟨_,?_,H2⟩;rw [show 0+k.toNat*2+0=k.toNat*2+0 by omega];exact OS.setf O (y:=⟨(Dd acs k).ba - x,(Dd acs k).re⟩) (j:=0) (v := .int .i64 ((Dd acs k).ba - x)) (fun _=>rfl) (Fo hi) (by decide) U
  ·rw [QO] at h;exact ⟨h.1,h.2.of (by unfold EA; rfl)⟩
theorem Abp {b5 b14:Nat} {k x:Int} (hd:AcB bd a acs.length c w) (O:OS a acs.length c 2 full (acs.flatMap CM)) (hb:∀ x∈ent a 43 full,w.heap[x.1]? = some x.2∧x.1≠b5) (hac:Ef acs=0)
  (h5:w.heap[b5]? = some (Bl 2 [.int .i64 x])) (h14:w.heap[b14]? = some (Bl 223 ((rsvQ b5 x).flatMap MU))) :
  Ret Tryz.prog 167 #[ptr bd,.int .i64 k,.func (.func 174) #[] [ptr b5].toArray,.slice (some ⟨b14,0,none⟩) 1 1] w fun v w'=>v = .int .i64 (Md acs k x)∧AcsAt w w' a acs.length c full (GL acs k x):=by
 have hn16:=(BZ.1 hac).1;refine Ret.mono (Pv (qs:=rsvQ b5 x) (e:=⟨(Dd acs k).ba,x⟩) w hd O (fun y hy=>(hb y hy).1) (Rd.of_bl h14 (List.append_nil _).symm fun _ _=>rfl) (show (1:Nat)≤1000 by decide) (fun q hq=>?_) Ahf fun q w' hqa hi hC hx=>?_) fun v w' h=>?_
 ·rw [List.mem_singleton.1 hq];exact ⟨Ahg,(show (1:Int)≠0 by decide),fun w' hx=>Aev w' (hx.to h5 (by simp))⟩
 ·subst hqa;obtain ⟨h1,h2⟩:=hb (q,Bl 43 full) (List.mem_singleton.2 rfl);have h9:w'.heap[q]? = _:=hx.to h1 (by simp);refine Ret.mono (Aew w' h9 (MV O h9 hi).2 (hx.to h5 (by simp)) (fun h=>h2 h.symm)) fun _ w'' H2=>⟨_,?_,H2⟩;rw [show 0+k.toNat*2+1=k.toNat*2+1 by omega];exact OS.setf O (y:=⟨(Dd acs k).ba,x⟩) (j:=1) (v := .int .i64 x) (fun _=>rfl) (Fo hi) (by decide) U
 ·rw [Abo] at h;exact ⟨h.1,h.2.of (by unfold GL; rfl)⟩
end
set_option maxRecDepth 20000 in
set_option maxHeartbeats 1000000 in
theorem Abq {bd c:Nat} {a:Option Addr} {full:List Value} {acs:List Ac} {k x:Int} (w:World) (hd:AcB bd a acs.length c w) (O:OS a acs.length c 2 full (acs.flatMap CM)) (hb:∀ x∈ent a 43 full,w.heap[x.1]? = some x.2) (hac:Ef acs=0) :
  Ret Tryz.prog 104 #[ptr bd,.int .i64 k,.int .i64 x] w fun v w'=>v = .int .i64 (FO acs k x)∧AcsAt w w' a acs.length c full (E8 acs k x):=by
 obtain ⟨w0,rfl⟩:∃ w0,w0=w:=⟨_,rfl⟩;have H:=Ctx.start w0 [];refine Aw (fn:=Tryz.f104) Tryz.func104 U [.pointer (some ⟨bd,0,none⟩),.int .i64 k,.int .i64 x] U (by kernel_rfl) ?_;refine Af (Bv _ (.pointer _) U U H ?_);rintro b3 w - H;refine Bv _ (.int _ _) U U H ?_;rintro b5 w - H;refine Ad U (Ab (Aa (Af (AM Ig U H at1 U (Ae U (BQ [ptr b5] U (BQ [ptr b5] U (B1 (MU ⟨1,169,[ptr b5],true⟩) OI Jp (by kernel_rfl) ?_))))))));refine BQ [ptr b3,ptr b5] U (B1 (MU ⟨13,170,[ptr b3,ptr b5],true⟩) OI Jp (by kernel_rfl) ?_);refine D9 ((W7 b3 b5 acs x).flatMap MU) OB MD Jp (by decide) (by decide) (by kernel_rfl) H ?_;rintro b14 w - H
 refine Al UI (XU (H.ext.to hd (by simp)) O (fun y hy=>⟨H.ext.to (hb y hy) (by simp),fun hne=>by have h1:=Ba (hb y hy); rw [hne] at h1; have h2:=(H.own _ (List.mem_of_getElem? at1)).elim (fun h=>by cases h) id; dsimp only at h2; omega⟩) hac (H.get at2) (H.get at1) (H.get at0)) U ?_;rintro v w2 ⟨rfl,A⟩;replace A:=A.back H.ext;refine Ad U (Ab (Aa (A4 (AD (v:=(.int _ _)) U U U ?_))));exact ⟨rfl,A⟩
set_option maxRecDepth 20000 in
set_option maxHeartbeats 1000000 in
theorem Abr {bd c:Nat} {a:Option Addr} {full:List Value} {acs:List Ac} {k x:Int} (w:World) (hd:AcB bd a acs.length c w) (O:OS a acs.length c 2 full (acs.flatMap CM)) (hb:∀ x∈ent a 43 full,w.heap[x.1]? = some x.2) (hac:Ef acs=0) :
  Ret Tryz.prog 105 #[ptr bd,.int .i64 k,.int .i64 x] w fun v w'=>v = .int .i64 (FP acs k x)∧AcsAt w w' a acs.length c full (EA acs k x):=by
 obtain ⟨w0,rfl⟩:∃ w0,w0=w:=⟨_,rfl⟩;have H:=Ctx.start w0 [];refine Aw (fn:=Tryz.f105) Tryz.func105 U [.pointer (some ⟨bd,0,none⟩),.int .i64 k,.int .i64 x] U (by kernel_rfl) ?_;refine Af (Bv _ (.pointer _) U U H ?_);rintro b3 w - H;refine Bv _ (.int _ _) U U H ?_;rintro b4 w - H;refine Bv _ (.int _ _) U U H ?_;rintro b5 w - H;refine Ad U (Ab (Aa (Af (AM Ig U H at2 U (AM Ca U H at1 U (BQ [ptr b5] U (BQ [ptr b5] U (B1 (MU ⟨1,172,[ptr b5],true⟩) OI Jp (by kernel_rfl) ?_))))))));refine BQ [ptr b5,ptr b3,ptr b4] U (B1 (MU ⟨12,173,[ptr b5,ptr b3,ptr b4],true⟩) OI Jp (by kernel_rfl) ?_);refine D9 ((W8 b3 b4 b5 acs k x).flatMap MU) OB MD Jp (by decide) (by decide) (by kernel_rfl) H ?_;rintro b14 w - H
 refine Al UI (XV (H.ext.to hd (by simp)) O (fun y hy=>⟨H.ext.to (hb y hy) (by simp),fun hne=>by have h1:=Ba (hb y hy); rw [hne] at h1; have h2:=(H.own _ (List.mem_of_getElem? at1)).elim (fun h=>by cases h) id; dsimp only at h2; omega⟩) hac (H.get at3) (H.get at2) (H.get at1) (H.get at0)) U ?_;rintro v w2 ⟨rfl,A⟩;replace A:=A.back H.ext;refine Ad U (Ab (Aa (A4 (AD (v:=(.int _ _)) U U U ?_))));exact ⟨rfl,A⟩
set_option maxRecDepth 20000 in
set_option maxHeartbeats 1000000 in
theorem Aex {bd c:Nat} {a:Option Addr} {full:List Value} {acs:List Ac} {k x:Int} (w:World) (hd:AcB bd a acs.length c w) (O:OS a acs.length c 2 full (acs.flatMap CM)) (hb:∀ x∈ent a 43 full,w.heap[x.1]? = some x.2) (hac:Ef acs=0) :
  Ret Tryz.prog 106 #[ptr bd,.int .i64 k,.int .i64 x] w fun v w'=>v = .int .i64 (Md acs k x)∧AcsAt w w' a acs.length c full (GL acs k x):=by
 obtain ⟨w0,rfl⟩:∃ w0,w0=w:=⟨_,rfl⟩;have H:=Ctx.start w0 [];refine Aw (fn:=Tryz.f106) Tryz.func106 U [.pointer (some ⟨bd,0,none⟩),.int .i64 k,.int .i64 x] U (by kernel_rfl) ?_;refine Af (Bv _ (.int _ _) U U H ?_);rintro b5 w - H;refine Ad U (Ab (Aa (Af (Ay U (Ae U (BQ [ptr b5] U (BQ [ptr b5] U (B1 (MU ⟨1,175,[ptr b5],true⟩) OI Jp (by kernel_rfl) ?_))))))));refine D9 ((rsvQ b5 x).flatMap MU) OB MD Jp (by decide) (by decide) (by kernel_rfl) H ?_;rintro b14 w - H;refine Al UI (Abp (H.ext.to hd (by simp)) O (fun y hy=>⟨H.ext.to (hb y hy) (by simp),fun hne=>by have h1:=Ba (hb y hy); rw [hne] at h1; have h2:=(H.own _ (List.mem_of_getElem? at1)).elim (fun h=>by cases h) id; dsimp only at h2; omega⟩) hac (H.get at1) (H.get at0)) U ?_;rintro v w2 ⟨rfl,A⟩;replace A:=A.back H.ext;refine Ad U (Ab (Aa (A4 (AD (v:=(.int _ _)) U U U ?_))));exact ⟨rfl,A⟩
end Go.Proofs.YtdagmpmdcgedcaaGreat
namespace Go.Proofs.YtdagmpmdcgedcaaGreat
open Go.GV
attribute [local irreducible] AB W Wq Wt
def TZ:List Du→Int→Du→List Du
 | [],_,_=>[]
 | d::ds,k,e=>if d.id=k then e::ds else d::TZ ds k e
def Vu:List Du→Int→List Du
 | [],_=>[]
 | d::ds,k=>if d.id=k then ds else d::Vu ds k
theorem Abs {ds:List Du} {k:Int} {d e:Du} (h:CN ds k=some d) (he:e.id=k):L5 (dm ds) k (FZ e)=dm (TZ ds k e):=by
 induction ds with
 | nil=>cases h
 | cons y ds ih =>
  unfold CN at h;rw [List.find?_cons] at h
  by_cases c:y.id=k
  ·unfold TZ;rw [if_pos c];show (if y.id=k then (k,_)::dm ds else _)=_;rw [if_pos c,← he]; rfl
  ·rw [show (y.id == k)=false by simpa using c] at h;unfold TZ;rw [if_neg c];show (if y.id=k then _ else (y.id,FZ y)::L5 (dm ds) k _)=_;rw [if_neg c,ih h]; rfl
theorem Abt {ds:List Du} {k:Int} {d:Du} (h:CN ds k=some d):Lc (dm ds) k=dm (Vu ds k):=by
 induction ds with
 | nil=>cases h
 | cons y ds ih =>
  unfold CN at h;rw [List.find?_cons] at h
  by_cases c:y.id=k
  ·unfold Vu;rw [if_pos c];show (if y.id=k then dm ds else _)=_;rw [if_pos c]
  ·rw [show (y.id == k)=false by simpa using c] at h;unfold Vu;rw [if_neg c];show (if y.id=k then _ else (y.id,FZ y)::Lc (dm ds) k)=_;rw [if_neg c,ih h]; rfl
theorem Ua {k:Int} {b:Bool}:∀ {ds:List Du} {d:Du},(ds.map Du.id).Nodup→CN ds k=some d→TZ ds k { d with held:=b }=ds.map fun x=>if x.id=k then { x with held:=b } else x
 | y::ds,d,hn,h=>by
  rw [List.map_cons,List.nodup_cons] at hn;unfold CN at h;rw [List.find?_cons] at h
  by_cases c:y.id=k
  ·rw [show (y.id == k)=true by simpa using c] at h
   injection h with h
   subst h;unfold TZ;rw [if_pos c,List.map_cons,if_pos c]
   congr 1
   refine (List.map_id ds).symm.trans (List.map_congr_left fun x hx=>?_);rw [if_neg fun hxk=>hn.1 (by rw [c,← hxk]; exact List.mem_map_of_mem hx)];rfl
  ·rw [show (y.id == k)=false by simpa using c] at h;unfold TZ;rw [if_neg c,List.map_cons,if_neg c,Ua hn.2 h]
theorem Nx {k:Int}:∀ {ds:List Du},(ds.map Du.id).Nodup→Vu ds k=ds.filter fun x => !decide (x.id=k)
 | [],_=>rfl
 | y::ds,hn=>by
  rw [List.map_cons,List.nodup_cons] at hn;unfold Vu
  by_cases c:y.id=k
  ·rw [if_pos c,List.filter_cons,if_neg (by simpa using c)];refine (List.filter_eq_self.2 fun x hx=>?_).symm;have:¬ x.id=k:=fun hxk=>hn.1 (by rw [c,← hxk]; exact List.mem_map_of_mem hx)
   simpa using this
  ·rw [if_neg c,List.filter_cons,if_pos (by simpa using c),Nx hn.2]
def trnD (ds:List Du) (k:Int) (c:Int) (e:Du):List Du:=if c≠0 then ds else if e.am=0 then Vu ds k else TZ ds k e
set_option maxRecDepth 20000 in
theorem Ub {bd b:Nat} {nx k code:Int} {o:Obj} {ds:List Du} {d e:Du} {fid:FuncId} {cl:List Value} (w:World) (hd:w.heap[bd]? = some (Bl 165 (DU b nx))) (hb:w.heap[b]? = some o) (hM:CT .u64 (dm ds) o) (hbd:bd≠b) (hf:CN ds k=some d) (he:e.id=k) (hfc:Av Tryz.prog fid=true)
  (hcl:∀ (b7:Nat) (w':World),w.heap.size≤b7→Ext [b] w w'→w'.heap[b7]? = some (Bl 67 (CO d))→Ret Tryz.prog fid (ptr b7::cl).toArray w' fun v w''=>v = .int .i64 code∧Ctx w' [b7] w'' [(b7,Bl 67 (CO e))]) :
  Ret Tryz.prog 177 #[ptr bd,.int .u64 k,.func (.func fid) #[] cl.toArray] w fun v w'=>v = .int .i64 code∧∃ o',CT .u64 (dm (trnD ds k code e)) o'∧Ctx w [b] w' [(b,o')]:=by
 obtain ⟨w0,rfl⟩:∃ w0,w0=w:=⟨_,rfl⟩;have H:=Ctx.start1 hb;have hmg:Ej (dm ds) k=some (FZ d):=by rw [Hi,hf]; rfl
 unfold trnD;refine Aw (fn:=Tryz.f177) Tryz.func177 U [.pointer (some ⟨bd,0,none⟩),.int .u64 k,.func (.func fid) #[] cl.toArray] U (by kernel_rfl) ?_;refine Af (Ad U (Ab (Aa (Aq (Af (Ay U (Co Ix U ?_)))))));refine Ab (Aa (Ap _ U ?_ ?_))
 ·intro h0;cases h0
 ·intro h0;refine Au (Aa (Af (Ay U (A9 U (Ag DG U (AZ Fa U ((H.old (Aj hd _) (by rw [List.mem_singleton]; exact hbd))) ?_))))));refine Ae U (G4 U Fx EV OQ U U H at0 hM ?_);rw [hmg];rw [Option.getD_some,Option.isSome_some];refine BM U (A6 U U (A6 U U (AX Eu H ?_)));rintro b7 w - H;refine Bm Ci U U U (by exact CQ _) H at0 U ?_;rintro w H;refine Ai U (Ab (Aa (Aq (Af (AE U (BA U (Ab (Aa (Ap _ U ?_ ?_)))))))))
  ·intro h1;replace h1:=BE h1;cases h1
  ·intro h1;replace h1:=BF h1;refine Au (Aa (Af (Da U (.func _ _ _) U ?_)));have hb7:w0.heap.size≤b7:=(H.own _ (List.mem_cons_self ..)).elim (fun h=>by have h8:=H.ne at0 at1 (by decide); exact absurd (List.mem_singleton.1 h) h8) id;refine Fz U hfc (hcl b7 _ hb7 H.ext (H.get at0)) U ?_;rintro v w ⟨rfl,H2⟩;replace H:=Ctx.back (L1:=[_]) (L2:=[_]) H H2;refine Ad U (Ab (Aa (Aq (A0 (Af (Ae U (C9 U U (Ai U (Ab (Aa (Ap _ U ?_ ?_)))))))))))
   ·intro h2;replace h2:=CR h2;refine Au (A5 (Aa (Af (Ae U (Ad U (Ab (Aa (A4 (AD (v:=(.int _ _)) U U U ?_)))))))));rw [if_pos h2];exact ⟨rfl,o,hM,H.tail⟩
   ·intro h2;replace h2:=CS h2;rw [if_neg (by omega)];refine Af (Ag Eo U (AM Bw U H at0 U (Cf U U (Ai U (Ab (Aa (Ap _ U ?_ ?_)))))))
    ·intro h3;replace h3:=AJ h3;refine Az (Ay U (A9 U (Ag DG U (AZ Fa U ((H.old (Aj hd _) (by rw [List.mem_singleton]; exact hbd))) ?_))));refine Ae U (M6 U Fx EV U U H at1 hM ?_);rintro o2 w hM2 H;refine Ab (A5 (Aa (Af (Ae U (Ad U (Ab (Aa (A4 (AD (v:=(.int _ _)) U U U ?_)))))))));rw [if_pos h3];exact ⟨rfl,o2,by rw [← Abt hf]; exact hM2,H.tail⟩
    ·intro h3;replace h3:=AK h3;refine FC 6 Bs (by kernel_rfl) U U ?_;refine B4 U (Bb U (A7 DG U (BX Fa U (by rintro _ rfl; exact ((H.old (Aj hd _) (by rw [List.mem_singleton]; exact hbd)))) ?_)));refine Bh U (Ob U Ft Ci U (by rintro _ rfl; exact H.drew) at0 U ?_);refine BW ?_;replace H:=H.drew;refine Jj (FZ e) U Fx EV U U U H at1 hM ?_;rintro o2 w hM2 H;refine Ab (A5 (Aa (Af (Ae U (Ad U (Ab (Aa (A4 (AD (v:=(.int _ _)) U U U ?_)))))))));rw [if_neg h3];exact ⟨rfl,o2,by rw [← Abs hf he]; exact hM2,H.tail⟩
theorem Pw {bd b:Nat} {nx k:Int} {o:Obj} {ds:List Du} {fid:FuncId} {cl:List Value} (w:World) (hd:w.heap[bd]? = some (Bl 165 (DU b nx))) (hb:w.heap[b]? = some o) (hM:CT .u64 (dm ds) o) (hbd:bd≠b) (hf:CN ds k=none) :
  Ret Tryz.prog 177 #[ptr bd,.int .u64 k,.func (.func fid) #[] cl.toArray] w fun v w'=>v = .int .i64 11∧∃ o',CT .u64 (dm ds) o'∧Ctx w [b] w' [(b,o')]:=by
 obtain ⟨w0,rfl⟩:∃ w0,w0=w:=⟨_,rfl⟩;have H:=Ctx.start1 hb;have hmg:Ej (dm ds) k=none:=by rw [Hi,hf]; rfl
 refine Aw (fn:=Tryz.f177) Tryz.func177 U [.pointer (some ⟨bd,0,none⟩),.int .u64 k,.func (.func fid) #[] cl.toArray] U (by kernel_rfl) ?_;refine Af (Ad U (Ab (Aa (Aq (Af (Ay U (Co Ix U ?_)))))));refine Ab (Aa (Ap _ U ?_ ?_))
 ·intro h0;cases h0
 ·intro h0;refine Au (Aa (Af (Ay U (A9 U (Ag DG U (AZ Fa U ((H.old (Aj hd _) (by rw [List.mem_singleton]; exact hbd))) ?_))))));refine Ae U (G4 U Fx EV OQ U U H at0 hM ?_);rw [hmg];rw [Option.getD_none,Option.isSome_none];refine BM U (A6 U U (A6 U U (AX Eu H ?_)));rintro b7 w - H;refine Bm Ci U U U (by exact CQ d00) H at0 U ?_;rintro w H;refine Ai U (Ab (Aa (Aq (Af (AE U (BA U (Ab (Aa (Ap _ U ?_ ?_)))))))))
  ·intro h1;replace h1:=BE h1;refine Af (Ad U (Ab (Aa (A4 (Ao (AD (v:=(.int _ _)) U U U ?_))))));exact ⟨rfl,o,hM,H.tail⟩
  ·intro h1;replace h1:=BF h1;cases h1
end Go.Proofs.YtdagmpmdcgedcaaGreat
namespace Go.Proofs.YtdagmpmdcgedcaaGreat
open Go.GV
attribute [local irreducible] AB W Wq Wt
theorem Aj7 {P:Program} {ops rest:List Oper} {e:Env} {dst:Option Tmp} {ty:TypeId} {pos:String} {af:Array Edge} {g:Option (Nat × Bool)} {C:World→Prop} {K:Env→Prop} {t t2:TypeId} {x y:Operand} {a b:Bool} (ht:P.underlying t=some .bool) (hg:AV ⟨dst,.binOp .eql t x y t2,ty,pos,af,g⟩ ops e=true) (hx:ev e x = .bool a) (hy:ev e y = .bool b)
  (h:Wq P ops C K rest (put e dst (.bool (a == b)))):Wq P ops C K (⟨dst,.binOp .eql t x y t2,ty,pos,af,g⟩::rest) e :=
 Ei hg (fun w _=>by
  have hq:eqGuard .eql t x y (.bool a) (.bool b)=pure ():=rfl;have he:∀ d w,(Op.equalIn (d+1) t (.bool a) (.bool b)).run P w = .ok (a == b) w:=fun d w=>by simp [Op.equalIn,Bc ht]
  simp only [execOp,hx,hy,hq,Sem.run_bind,Sem.run_pure,Result.andThen_ok,binOp,Op.equal,Op.maxDepth,he 9999]) h
theorem QP {ds:List Du} {nx:Int} (h:ofC ds nx=0):(ds.map Du.id).Nodup:=(Ga h).2.imp fun h=>Int.ne_of_lt h
theorem Abu {b7 bi:Nat} {d:Du} {b:Bool} (w:World) (h7:w.heap[b7]? = some (Bl 67 (CO d))) (hi:w.heap[bi]? = some (Bl 4 [.bool b])) (hne:bi≠b7) :
  Ret Tryz.prog 206 #[ptr b7,ptr bi] w fun v w'=>v = .int .i64 (if d.held=b then 14 else 0)∧Ctx w [b7] w' [(b7,Bl 67 (CO (if d.held=b then d else { d with held:=b })))]:=by
 obtain ⟨w0,rfl⟩:∃ w0,w0=w:=⟨_,rfl⟩;have H:=Ctx.start1 h7;have hn:bi∉[b7]:=by rw [List.mem_singleton]; exact hne
 refine Aw (fn:=Tryz.f206) Tryz.func206 U [.pointer (some ⟨b7,0,none⟩),.pointer (some ⟨bi,0,none⟩)] U (by kernel_rfl) ?_;refine Af (Ad U (Ab (Aa (Aq (Er (fun x=>x=_) Bs (by kernel_rfl) U ?_)))));refine B4 U (Bb U (A7 Ii U (Cn JQ U (by rintro _ rfl; exact H.drew) at0 U ?_)));refine BX JQ U (by rintro _ rfl; exact ((H.old (Aj hi _) hn))) ?_;refine Aj7 un_4 U U U ?_;refine BW ?_;rintro _ rfl;replace H:=H.drew;refine Ap _ U ?_ ?_
 ·intro h1;have h1':d.held=b:=by simpa using h1
  refine Af (Ad U (Ab (Aa (A4 (Ao (AD (v:=(.int _ _)) U U U ?_))))));rw [if_pos h1',if_pos h1'];exact ⟨rfl,H⟩
 ·intro h1;have h1':¬ d.held=b:=by simpa using h1
  refine Au (Aa (Af (Ay U (AZ JQ U ((H.old (Aj hi _) hn)) ?_))));refine A9 U (Ag Ii U (Cp (.bool _) Xg U U U H at0 (by (simp; done)) ?_));rintro w H;refine Ab (Aa (Af (Ad U (Ab (Aa (A4 (AD (v:=(.int _ _)) U U U ?_)))))));rw [if_neg h1',if_neg h1'];exact ⟨rfl,H⟩
theorem Vv {b7:Nat} {d:Du} (w:World) (h7:w.heap[b7]? = some (Bl 67 (CO d))) :
  Ret Tryz.prog 178 #[ptr b7] w fun v w'=>v = .int .i64 0∧Ctx w [b7] w' [(b7,Bl 67 (CO { d with am:=0 }))]:=by
 obtain ⟨w0,rfl⟩:∃ w0,w0=w:=⟨_,rfl⟩;have H:=Ctx.start1 h7;refine Aw (fn:=Tryz.f178) Tryz.func178 U [.pointer (some ⟨b7,0,none⟩)] U (by kernel_rfl) ?_;refine Af (Ad U (Ab (Aa (Af (Ay U (A9 U (Ag Eo U (Cp (.int _ _) B6 U U U H at0 (by (simp; done)) ?_))))))));rintro w H;refine Ab (Aa (Af (Ad U (Ab (Aa (A4 (AD (v:=(.int _ _)) U U U ?_)))))));exact ⟨rfl,H⟩
theorem W9 {bd b:Nat} {nx k:Int} {o:Obj} {ds:List Du} (h:Bool) (w:World) (hd:w.heap[bd]? = some (Bl 165 (DU b nx))) (hb:w.heap[b]? = some o) (hM:CT .u64 (dm ds) o) (hbd:bd≠b) (hof:ofC ds nx=0) :
  Ret Tryz.prog 176 #[ptr bd,.int .u64 k,.bool h] w fun v w'=>v = .int .i64 (Mi ds k h)∧∃ o',CT .u64 (dm (I6 ds k h)) o'∧Ctx w [b] w' [(b,o')]:=by
 obtain ⟨w0,rfl⟩:∃ w0,w0=w:=⟨_,rfl⟩;have H:=Ctx.start w0 [];have hbl:=Ba hb
 have hT:∀ (bi:Nat) (w:World),w0.heap.size≤bi→Ext [] w0 w→w.heap[bi]? = some (Bl 4 [.bool h])→Ret Tryz.prog 177 #[ptr bd,.int .u64 k,.func (.func 206) #[] [ptr bi].toArray] w fun v w'=>v = .int .i64 (Mi ds k h)∧∃ o',CT .u64 (dm (I6 ds k h)) o'∧Ctx w [b] w' [(b,o')]:=fun bi w hbi hx hi=>by
  cases hf:CN ds k with
  | none =>
   have hc:Mi ds k h=11:=by unfold Mi; rw [hf]
   refine Ret.mono (Pw w (hx.to hd (by simp)) (hx.to hb (by simp)) hM hbd hf) fun v w' ⟨h1,o',h2,h3⟩=>⟨by rw [hc]; exact h1,o',?_,h3⟩;rw [TX (by rw [hc]; decide)];exact h2
  | some d =>
   have hid:=(HI hf).2;have hm:=Dc ((Ga hof).1 d (HI hf).1).1;have hc:Mi ds k h=if d.held=h then 14 else 0:=by unfold Mi; rw [hf]
   refine Ret.mono (Ub (e:=if d.held=h then d else { d with held:=h }) w (hx.to hd (by simp)) (hx.to hb (by simp)) hM hbd hf (by split <;> exact hid) Ahp fun b7 w' hb7 hx' h7=>Abu w' h7 (hx'.to hi (by rw [List.mem_singleton]; omega)) (by have:=Ba hi; omega)) fun v w' ⟨h1,o',h2,h3⟩=>⟨by rw [hc]; exact h1,o',?_,h3⟩
   by_cases hh:d.held=h
   ·rw [if_pos hh,if_pos hh] at h2;rw [TX (by rw [hc,if_pos hh]; decide)];exact h2
   ·rw [if_neg hh,if_neg hh] at h2;unfold trnD at h2;rw [if_neg (by decide),if_neg (by show ¬ d.am=0; omega),Ua (QP hof) hf] at h2;unfold I6;rw [hc,if_neg hh,if_pos rfl];exact h2
 refine Aw (fn:=Tryz.f176) Tryz.func176 U [.pointer (some ⟨bd,0,none⟩),.int .u64 k,.bool h] U (by kernel_rfl) ?_;refine Af (Bv _ (.bool _) U U H ?_);rintro b5 w - H;refine Ad U (Ab (Aa (Af (Ay U (Ae U (BQ [.pointer _] U (Al UJ (hT b5 _ ((H.own _ (List.mem_cons_self ..)).elim (fun h=>by cases h) id) H.ext (H.get at0)) U ?_)))))));rintro v w ⟨rfl,o',hM',H2⟩;refine Ad U (Ab (Aa (A4 (AD (v:=(.int _ _)) U U U ?_))));have H3:=H.ext.mono (S':=[b]) (by simp);exact ⟨rfl,o',hM',⟨H3.trans H2.ext,H2.blk,H2.nd,fun y hy=>by rw [List.mem_singleton.1 hy]; exact .inl (List.mem_singleton.2 rfl)⟩⟩
end Go.Proofs.YtdagmpmdcgedcaaGreat
namespace Go.Proofs.YtdagmpmdcgedcaaGreat
open Go.GV
attribute [local irreducible] AB W Wq Wt
section
variable {bd b:Nat} {nx:Int} {o:Obj} {ds:List Du}
theorem Aey {k:Int} (w:World) (hd:w.heap[bd]? = some (Bl 165 (DU b nx))) (hb:w.heap[b]? = some o) (hM:CT .u64 (dm ds) o) (hbd:bd≠b) (hof:ofC ds nx=0) :
  Ret Tryz.prog 108 #[ptr bd,.int .u64 k] w fun v w'=>v = .int .i64 (Mi ds k true)∧∃ o',CT .u64 (dm (I6 ds k true)) o'∧Ctx w [b] w' [(b,o')]:=by
 obtain ⟨w0,rfl⟩:∃ w0,w0=w:=⟨_,rfl⟩;refine Aw (fn:=Tryz.f108) Tryz.func108 U [.pointer (some ⟨bd,0,none⟩),.int .u64 k] U (by kernel_rfl) ?_;refine Af (Ad U (Ab (Aa (Af (Ay U (Ae U (Al YN (W9 true _ hd hb hM hbd hof) U ?_)))))));rintro v w ⟨rfl,E⟩;refine Ad U (Ab (Aa (A4 (AD (v:=(.int _ _)) U U U ?_))));exact ⟨rfl,E⟩
theorem Vw {k:Int} (w:World) (hd:w.heap[bd]? = some (Bl 165 (DU b nx))) (hb:w.heap[b]? = some o) (hM:CT .u64 (dm ds) o) (hbd:bd≠b) (hof:ofC ds nx=0) :
  Ret Tryz.prog 109 #[ptr bd,.int .u64 k] w fun v w'=>v = .int .i64 (Mi ds k false)∧∃ o',CT .u64 (dm (I6 ds k false)) o'∧Ctx w [b] w' [(b,o')]:=by
 obtain ⟨w0,rfl⟩:∃ w0,w0=w:=⟨_,rfl⟩;refine Aw (fn:=Tryz.f109) Tryz.func109 U [.pointer (some ⟨bd,0,none⟩),.int .u64 k] U (by kernel_rfl) ?_;refine Af (Ad U (Ab (Aa (Af (Ay U (Ae U (Al YN (W9 false _ hd hb hM hbd hof) U ?_)))))));rintro v w ⟨rfl,E⟩;refine Ad U (Ab (Aa (A4 (AD (v:=(.int _ _)) U U U ?_))));exact ⟨rfl,E⟩
theorem Uc {k:Int} (w:World) (hd:w.heap[bd]? = some (Bl 165 (DU b nx))) (hb:w.heap[b]? = some o) (hM:CT .u64 (dm ds) o) (hbd:bd≠b) (hof:ofC ds nx=0) :
  Ret Tryz.prog 177 #[ptr bd,.int .u64 k,.func (.func 178) #[] #[]] w fun v w'=>v = .int .i64 (PK ds k)∧∃ o',CT .u64 (dm (Sq ds k)) o'∧Ctx w [b] w' [(b,o')]:=by
 cases hf:CN ds k with
 | none =>
  have hc:PK ds k=11:=by unfold PK; rw [hf]
  refine Ret.mono (Pw (cl:=[]) w hd hb hM hbd hf) fun v w' ⟨h1,o',h2,h3⟩=>⟨by rw [hc]; exact h1,o',?_,h3⟩;rw [Abf (by rw [hc]; decide)];exact h2
 | some d =>
  have hid:=(HI hf).2;have hc:PK ds k=0:=by unfold PK; rw [hf]
  refine Ret.mono (Ub (cl:=[]) (e:={ d with am:=0 }) w hd hb hM hbd hf hid Ahh fun b7 w' hb7 hx' h7=>Vv w' h7) fun v w' ⟨h1,o',h2,h3⟩=>⟨by rw [hc]; exact h1,o',?_,h3⟩;unfold trnD at h2;rw [if_neg (by decide),if_pos rfl,Nx (QP hof)] at h2;exact h2
theorem XW {k:Int} (w:World) (hd:w.heap[bd]? = some (Bl 165 (DU b nx))) (hb:w.heap[b]? = some o) (hM:CT .u64 (dm ds) o) (hbd:bd≠b) (hof:ofC ds nx=0) :
  Ret Tryz.prog 110 #[ptr bd,.int .u64 k] w fun v w'=>v = .int .i64 (PK ds k)∧∃ o',CT .u64 (dm (Sq ds k)) o'∧Ctx w [b] w' [(b,o')]:=by
 obtain ⟨w0,rfl⟩:∃ w0,w0=w:=⟨_,rfl⟩;refine Aw (fn:=Tryz.f110) Tryz.func110 U [.pointer (some ⟨bd,0,none⟩),.int .u64 k] U (by kernel_rfl) ?_;refine Af (Ad U (Ab (Aa (Af (Ay U (Ae U (Al UJ (Uc _ hd hb hM hbd hof) U ?_)))))));rintro v w ⟨rfl,E⟩;refine Ad U (Ab (Aa (A4 (AD (v:=(.int _ _)) U U U ?_))));exact ⟨rfl,E⟩
end
def Su (ds:List Du) (u:Int) (i:Nat):List Du:=(ds.take i).filter (fun d=>decide (u≤d.un))++ds.drop i
def HQ (ds:List Du) (u:Int) (i:Nat):List Value:=((ds.take i).filter fun d => !decide (u≤d.un)).map fun d => .int .u64 d.id
theorem Aez {X Y:List Du} {d:Du} (h:∀ x∈X,x.id≠d.id):Lc (dm (X++d::Y)) d.id=dm (X++Y):=by
 induction X with
 | nil=>show (if d.id=d.id then dm Y else _)=_; rw [if_pos rfl]; rfl
 | cons x X ih =>
  show (if x.id=d.id then _ else (x.id,FZ x)::Lc (dm (X++d::Y)) d.id)=_;rw [if_neg (h x (List.mem_cons_self ..)),ih fun y hy=>h y (List.mem_cons_of_mem _ hy)];rfl
theorem Abv {ds:List Du} {u nx:Int} {i:Nat} {d:Du} (hof:ofC ds nx=0) (hd:ds[i]? = some d) :
  (u≤d.un→Su ds u (i+1)=Su ds u i∧HQ ds u (i+1)=HQ ds u i)∧(¬ u≤d.un→Lc (dm (Su ds u i)) d.id=dm (Su ds u (i+1))∧HQ ds u (i+1)=HQ ds u i++[.int .u64 d.id]):=by
 have hil:=Ck hd;have ht:ds.take (i+1)=ds.take i++[d]:=List.take_add_one.trans (by rw [hd]; rfl)
 have hdr:ds.drop i=d::ds.drop (i+1):=by
  have h1:=List.drop_eq_getElem_cons hil;have h2:=List.getElem?_eq_getElem hil;rw [hd] at h2
  injection h2 with h2
  rw [h1,h2]
 have hn:∀ x∈ds.take i,x.id≠d.id:=fun x hx=>by
  have h1:=(Ga hof).2;rw [← List.take_append_drop i ds,List.map_append,List.pairwise_append,hdr] at h1;exact Int.ne_of_lt (h1.2.2 x.id (List.mem_map_of_mem hx) d.id (List.mem_map_of_mem (List.mem_cons_self ..)))
 constructor
 ·intro h;unfold Su HQ;rw [ht,List.filter_append,List.filter_append,hdr];constructor
  ·rw [List.filter_cons,if_pos (by simpa using h),List.filter_nil,List.append_assoc];rfl
  ·rw [List.filter_cons,if_neg (by simpa using h),List.filter_nil,List.append_nil]
 ·intro h;unfold Su HQ;rw [ht,List.filter_append,List.filter_append,hdr];constructor
  ·rw [List.filter_cons,if_neg (by simpa using h),List.filter_nil,List.append_nil];exact Aez fun x hx=>hn x (List.mem_filter.1 hx).1
  ·rw [List.filter_cons,if_pos (by simpa using h),List.filter_nil,List.map_append];rfl
theorem Abw (ds:List Du) (u:Int):(HQ ds u ds.length).length=ds.length - (MS ds u).length∧Su ds u ds.length=MS ds u:=by
 unfold HQ Su MS;rw [List.take_length,List.drop_length,List.append_nil,List.length_map];refine ⟨?_,rfl⟩
 induction ds with
 | nil=>rfl
 | cons d ds ih =>
  have h1:=List.length_filter_le (fun d=>decide (u≤d.un)) ds;rw [List.filter_cons,List.filter_cons]
  by_cases h:u≤d.un
  ·rw [if_neg (by simpa using h),if_pos (by simpa using h),List.length_cons,List.length_cons,ih]; omega
  ·rw [if_pos (by simpa using h),if_neg (by simpa using h),List.length_cons,List.length_cons,ih]; omega
structure ExS where
 i:Nat
 o:Obj
 a:Option Addr
 c:Nat
 full:List Value
set_option maxRecDepth 20000 in
set_option maxHeartbeats 1000000 in
theorem XX {bd b:Nat} {nx u:Int} {o:Obj} {ds:List Du} (w:World) (hd:w.heap[bd]? = some (Bl 165 (DU b nx))) (hb:w.heap[b]? = some o) (hM:CT .u64 (dm ds) o) (hbd:bd≠b) (hof:ofC ds nx=0) :
  Ret Tryz.prog 111 #[ptr bd,.int .i64 u] w fun v w'=>∃ o',CT .u64 (dm (MS ds u)) o'∧Ctx w [b] w' [(b,o')]∧∃ a c,v = .slice a (ds.length - (MS ds u).length) c:=by
 obtain ⟨w0,rfl⟩:∃ w0,w0=w:=⟨_,rfl⟩;obtain ⟨h64,-,h3,-⟩:=Ep hof;have hbl:=Ba hb;refine Aw (fn:=Tryz.f111) Tryz.func111 U [.pointer (some ⟨bd,0,none⟩),.int .i64 u] U (by kernel_rfl) ?_;refine Af (A1 U (Ab (Aa (Af (A1 U (Ab (Aa (Aq (Af (Ay U (Al LF (LV _ hd hb hM (Kn hof)) U ?_)))))))))));rintro v w ⟨ds',hS,F⟩;have hde:=LZ hS (J0 h3).2.1;rw [hde] at F;obtain ⟨a3,n3,c3,f3,rfl,O3,hb3⟩:=F.ex;obtain rfl:=O3.numN (fun _ _=>rfl) (by decide);have hx9:=F.ext;refine Bi CK U (Ae U (Ab (Aa (A0 ?_))));obtain ⟨w1,rfl⟩:∃ z,z=w:=⟨_,rfl⟩;have R:Rd w1 a3 7 CO ds:=OS.rd O3 (fun x hx=>(hb3 x hx).1) (fun _ _=>rfl) (by decide)
 have hnb:ds≠[]→(adr a3).block∉[b]:=fun hne=>by
  have hpos:=List.length_pos_iff.2 hne;obtain ⟨q,rfl⟩:=O3.form hpos;have h1:=(hb3 (q,Bl 67 f3) (List.mem_singleton.2 rfl)).2;rw [List.mem_singleton];show ¬ q=b;dsimp only at h1;omega
 have H:=Ctx.start1 (hx9.to hb (by simp));have hd1:=hx9.to hd (by simp);have hn:bd∉[b]:=by rw [List.mem_singleton]; exact hbd
 refine Bt 2147481760 (α:=ExS) (fun t=>[(5,.slice t.a (HQ ds u t.i).length t.c),(11,.int .i64 (t.i:Int))]) (fun t w'=>t.i≤ds.length∧CT .u64 (dm (Su ds u t.i)) t.o∧OS t.a (HQ ds u t.i).length t.c 1 t.full (HQ ds u t.i)∧Ctx w1 [b] w' ((b,t.o)::ent t.a 28 t.full)) (fun t=>ds.length - t.i) ⟨0,o,none,0,[]⟩ U ?_ ?_ ?_
 ·exact ⟨rfl,rfl,trivial⟩
 ·exact ⟨Nat.zero_le _,hM,OS.nil,H⟩
 ·rintro ⟨i,o,a,c,full⟩ j w ⟨hi,hM,O,H⟩; dsimp only at hi hM O H; dsimp only;refine Af (Bj U U (Ab (Aa (Aq (Ap _ U ?_ ?_)))))
  ·intro h1;replace h1:=AJ h1;obtain ⟨d,hdi⟩:=A8 (l:=ds) (i:=i);have hne:ds≠[]:=fun h=>by rw [h] at hdi; cases hdi
   have hdl:(HQ ds u i).length≤ds.length:=by unfold HQ; rw [List.length_map]; exact Nat.le_trans (List.length_filter_le ..) (by rw [List.length_take]; omega)
   obtain ⟨hs1,hs2⟩:=Abv (u:=u) hof hdi;refine Au (Aa (Aq (A0 (Af (AS R CK Ci U U (by rfl) ?_)))));refine Cj _ Ft Ci U U (((R.ext' H.ext fun _=>hnb hne).row hdi U)) ?_;refine AX Eu H ?_;rintro b7 w - H;refine Bm Ci U U U (by exact CQ _) H at0 U ?_;rintro w H;refine Ab (Aa (Af (Ag RG U (AM Bw U H at0 U (Ae U (Bj U U (Ab (Aa (Ap _ U ?_ ?_)))))))))
   ·intro h2;replace h2:=AJ h2;obtain ⟨hs3,hs4⟩:=hs2 (by omega);have hl4:(HQ ds u (i+1)).length=(HQ ds u i).length+1:=by rw [hs4,List.length_append,List.length_singleton]
    refine Af (A3 U (Ag Gy U (AM B5 U H at0 U (Ct _ (.int _ _) Bx Bp ON U (by decide) (by decide) U U U H ?_))));rintro b22 w - H;refine CA (L:=[_,_]) Bx Bx Bp VJ ON U (by decide) U U H O U (by simp [AO]) ?_;rintro a' c' full' w H O;refine A1 U (Ab (Aa (FC 6 Bs (by kernel_rfl) U U ?_)));refine B4 U (Bb U (A7 DG U (BX Fa U (by rintro _ rfl; exact ((H.drew.old (Aj hd1 _) hn))) ?_)));refine A7 Gy U (Cn B5 U (by rintro _ rfl; exact H.drew) at0 U ?_);refine BW ?_;replace H:=H.drew;refine M6 U Fx EV U U H at1 hM ?_;rintro o2 w hM2 H;refine Ab (A5 (Aa (Az (Ax U U ?_))));refine Ae U (Ab (Aa ?_));rw [hs3] at hM2;exact ⟨⟨i+1,o2,a',c',full'⟩,rfl,⟨by dsimp only; rw [hl4]; rfl,rfl,trivial⟩,⟨by dsimp only; omega,hM2,by dsimp only; rw [hl4,hs4]; exact O,H.tail⟩,by dsimp only; omega⟩
   ·intro h2;replace h2:=AK h2;obtain ⟨hs3,hs4⟩:=hs1 (by omega);refine Au (A5 (Aa (Az (Ax U U ?_))));refine Ae U (Ab (Aa ?_));exact ⟨⟨i+1,o,a,c,full⟩,rfl,⟨by dsimp only; rw [hs4]; rfl,rfl,trivial⟩,⟨by dsimp only; omega,by dsimp only; rw [hs3]; exact hM,by dsimp only; rw [hs4]; exact O,H.tail⟩,by dsimp only; omega⟩
  ·intro h1;replace h1:=AK h1;obtain rfl:i=ds.length:=by omega
   obtain ⟨g1,g2⟩:=Abw ds u;rw [g2] at hM;refine Bq (Am (Am (AG (Aa (Af (A3 U (A1 U (Ab (Aa (A4 (AD (v:=(.slice _ _ _)) U U U ?_)))))))))));exact ⟨o,hM,⟨(hx9.mono (by simp)).trans H.ext,fun y hy=>H.blk y (List.mem_cons.2 (.inl (List.mem_singleton.1 hy))),by simp,fun y hy=>by rw [List.mem_singleton.1 hy]; exact .inl (List.mem_singleton.2 rfl)⟩,a,c,by rw [g1]⟩
end Go.Proofs.YtdagmpmdcgedcaaGreat
namespace Go.Proofs.YtdagmpmdcgedcaaGreat
open Go.GV
attribute [local irreducible] AB W Wq Wt
set_option maxRecDepth 20000 in
set_option maxHeartbeats 4000000 in
theorem Abx {bd b:Nat} {nx:Int} {o:Obj} {ds:List Du} (fr to x we un:Int) (w:World) (hd:w.heap[bd]? = some (Bl 165 (DU b nx))) (hb:w.heap[b]? = some o) (hM:CT .u64 (dm ds) o) (hbd:bd≠b) (hof:ofC ds nx=0) :
  Ret Tryz.prog 107 #[ptr bd,.int .i64 fr,.int .i64 to,.int .i64 x,.int .i64 we,.int .i64 un] w fun v w'=>v = .tuple #[.int .u64 (if J4 ds nx fr to x we un=0 then nx else 0),.int .i64 (J4 ds nx fr to x we un)] ∧
   ∃ o',CT .u64 (dm (MR ds nx fr to x we un)) o'∧Ctx w [bd,b] w' [(bd,Bl 165 (DU b (Pt ds nx fr to x we un))),(b,o')]:=by
 obtain ⟨w0,rfl⟩:∃ w0,w0=w:=⟨_,rfl⟩
 have H:Ctx w0 [bd,b] w0 [(bd,Bl 165 (DU b nx)),(b,o)]:=⟨Ext.refl _ _,fun y hy=>by
  simp only [List.mem_cons,List.not_mem_nil,or_false] at hy
  rcases hy with rfl | rfl
  ·exact hd
  ·exact hb,by simp only [List.pairwise_cons,List.mem_singleton,forall_eq,List.not_mem_nil,false_implies,implies_true,List.Pairwise.nil,and_true]; exact hbd,fun y hy=>by
  simp only [List.mem_cons,List.not_mem_nil,or_false] at hy
  rcases hy with rfl | rfl
  ·exact .inl (List.mem_cons_self ..)
  ·exact .inl (List.mem_cons_of_mem _ (List.mem_cons_self ..))⟩
 obtain ⟨hlen,hnx,-,-⟩:=Ep hof;have hnew:∀ x∈ds,x.id≠nx:=fun x hx=>Int.ne_of_lt ((Ga hof).1 x hx).2.2;have hdl:(dm ds).length=ds.length:=by unfold dm; rw [List.length_map]
 have hno:Ej (dm ds) nx=none:=Q9 hnew;obtain ⟨d,hdd⟩:∃ d,d=Abb nx fr to x we un:=⟨_,rfl⟩;obtain ⟨tt,htt⟩:∃ tt,tt=ED (ds.map Du.am++[x]):=⟨_,rfl⟩;have henc:[Value.int .u64 nx,.int .i64 fr,.int .i64 to,.int .i64 x,.int .i64 we,.int .i64 un,.bool false]=CO d:=by rw [hdd]; rfl
 have hadd:J4 ds nx fr to x we un=if DY d=false then 1 else if 64≤ds.length∨4611686018427387904≤nx then 6 else if tt.2≠0 then 13 else 0:=by rw [htt,hdd]; rfl
 have herr:∀ c,c≠0→J4 ds nx fr to x we un=c→MR ds nx fr to x we un=ds∧Pt ds nx fr to x we un=nx:=fun c h0 hc=>CP (by rw [hc]; exact h0);refine Aw (fn:=Tryz.f107) Tryz.func107 U [.pointer (some ⟨bd,0,none⟩),.int .i64 fr,.int .i64 to,.int .i64 x,.int .i64 we,.int .i64 un] U (by kernel_rfl) ?_;refine Af (Ad U (Ad U (Ab (Aa (Aq (Af (Ay U (Co Ix U ?_))))))));refine Ab (Aa (Ap _ U ?_ ?_))
 ·intro h0;cases h0
 ·intro h0;refine Au (Aa (Af (Ay U (A9 U (Ag JU U (AM B5 U H at0 U (Ae U (Ae U (Ae U (Ae U ?_))))))))));refine Ae U (B1 (CO d) pl_67 Eu (by rw [← henc]; kernel_rfl) ?_);refine AX Eu H ?_;rintro b14 w - H;refine Bm Ci U U U (by exact CQ d) H at0 U ?_;rintro w H;refine Ab (Aa (Aq (A0 (Af (Cl Ft Ci U H at0 U (Al YJ (Wo d _) U ?_))))));rintro v w ⟨rfl,hx31⟩;replace H:=H.call hx31;refine BA U (Ai U (Ab (Aa (Ap _ U ?_ ?_))))
  ·intro h1;replace h1:=BE h1
   have hm:DY d=false:=by cases hh:DY d with | false=>rfl | true=>rw [hh] at h1; cases h1
   have hc:J4 ds nx fr to x we un=1:=by rw [hadd,if_pos hm]
   obtain ⟨hc1,hc2⟩:=herr 1 (by decide) hc;refine Af (Ad U (Ad U (Ab (Aa (A4 (AA (Ao (BL (v1:=(.int _ _)) (v2:=(.int _ _)) U U U U ?_))))))));rw [hc,hc1,hc2,if_neg (by decide)];exact ⟨rfl,o,hM,H.tail⟩
  ·intro h1;replace h1:=BF h1
   have hm:DY d=true:=by cases hh:DY d with | true=>rfl | false=>rw [hh] at h1; cases h1
   rw [hm] at hadd;rw [if_neg (by decide)] at hadd;refine Aq (Af (Ay U (A9 U (Ag DG U (AM Fa U H at1 U (Aek U Fx U (H.get at2) hM ?_))))));rw [hdl];refine C4 U U (Ai U (Ab (Aa (CX 33 U ?_ ?_))))
   ·intro h2;replace h2:=AJ h2;have hc:J4 ds nx fr to x we un=6:=by rw [hadd,if_pos (.inl (by omega))]
    obtain ⟨hc1,hc2⟩:=herr 6 (by decide) hc;refine Au (Aa (Dz U (Af (Ad U (Ad U (Ab (Aa (A4 (AA (Ao (BL (v1:=(.int _ _)) (v2:=(.int _ _)) U U U U ?_)))))))))));rw [hc,hc1,hc2,if_neg (by decide)];exact ⟨rfl,o,hM,H.tail⟩
   ·intro h2;replace h2:=AK h2;refine Az (Ay U (A9 U (Ag JU U (AM B5 U H at1 U (C4 U U (Ai U (Ab (Aa (CX 33 U ?_ ?_)))))))))
    ·intro h3;replace h3:=AJ h3;have hc:J4 ds nx fr to x we un=6:=by rw [hadd,if_pos (.inr (by omega))]
     obtain ⟨hc1,hc2⟩:=herr 6 (by decide) hc;refine Af (Ad U (Ad U (Ab (Aa (A4 (AA (Ao (BL (v1:=(.int _ _)) (v2:=(.int _ _)) U U U U ?_))))))));rw [hc,hc1,hc2,if_neg (by decide)];exact ⟨rfl,o,hM,H.tail⟩
    ·intro h3;replace h3:=AK h3;rw [if_neg (by omega)] at hadd;refine Au (A5 (Aa (Aq (Af (Ay U (Al YK (Pj _ (H.get at1) (H.get at2) hM) U ?_))))));rintro v w ⟨l,hlp,F⟩;obtain ⟨a3,n3,c3,f3,rfl,O3,hb3⟩:=F.ex;have hl3:=O3.llen;rw [List.length_map] at hl3;have hlq:=hlp.length_eq;rw [List.length_map] at hlq;replace H:Ctx w0 [bd,b] w ([(b14,Bl 67 (CO d)),(bd,Bl 165 (DU b nx)),(b,o)]++ent a3 2 f3):=H.callEnt F.ext hb3 FD;refine Ae U (Ct _ (.int _ _) Bg B6 EK U (by decide) (by decide) U U U H ?_);rintro b49 w - H;refine CA (L:=[_,_,_]) Bg Bg B6 Lg EK U (by decide) U U H O3 U (by simp [AO]) ?_;rintro a' c' full' w H O;refine Al MA (K9 a' (n3+1) c' (l++[x]) _ (OS.rd1 (f:=Ee) (t:=2) (xs:=l++[x]) (by rw [List.map_append]; exact O) (fun y hy=>H.blk y (List.mem_append_right [_,_,_] hy))) (by rw [List.length_append]; show l.length+1=_; omega)) U ?_
     rintro v w ⟨rfl,rfl⟩;rw [Q8 (hlp.append_right [x])];rw [← htt];refine BM U (A6 U U (A6 U U (Ad U (Ad U (Ab (Aa (Af (Ae U (C9 U U (Ab (Aa ?_)))))))))));refine Ap _ U ?_ ?_
     ·intro h4;replace h4:=CR h4
      have ht13:tt.2=13:=by
       rw [htt] at h4 ⊢;have hxm:=CE.2 (show 0≤x∧x≤4503599627370496 by obtain ⟨-,-,-,hxa,-⟩:=Dc hm; rw [hdd] at hxa; change 1≤x∧x≤_ at hxa; exact ⟨by omega,hxa.2⟩)
       have hall:(ds.map Du.am++[x]).all CY=true:=by
        rw [List.all_append,Bool.and_eq_true];refine ⟨List.all_eq_true.2 fun y hy=>?_,by simpa using hxm⟩;exact (Dj.1 (Fm.1 hof).2.2.2).1 y hy
       unfold ED at h4 ⊢;rw [if_neg (by rw [hall]; decide)] at h4 ⊢
       split at h4
       ·exact absurd U h4
       ·rename_i hh; rw [if_neg hh]
      have hc:J4 ds nx fr to x we un=13:=by rw [hadd,if_pos (by rw [ht13]; decide)]
      obtain ⟨hc1,hc2⟩:=herr 13 (by decide) hc;refine Af (Ae U (Ad U (Ad U (Ab (Aa (A4 (Ao (BL (v1:=(.int _ _)) (v2:=(.int _ _)) U U U U ?_))))))));rw [hc,hc1,hc2,if_neg (by decide),ht13];exact ⟨rfl,o,hM,H.left.tail⟩
     ·intro h4;replace h4:=CS h4;have hc:J4 ds nx fr to x we un=0:=by rw [hadd,if_neg (by omega)]
      replace H:=H.left;refine Au (Aa (Eb 7 Bs (by kernel_rfl) U U ?_));refine B4 U (Bb U (A7 DG U (Cn Fa U (by rintro _ rfl; exact H.drew) at1 U ?_)));refine A7 Gy U (Cn B5 U (by rintro _ rfl; exact H.drew) at0 U ?_);refine Ob U Ft Ci U (by rintro _ rfl; exact H.drew) at0 U ?_;refine BW ?_;replace H:=H.drew;refine Jj (FZ d) U Fx EV U U U H at2 hM ?_;rintro o2 w hM2 H;refine Ab (Aa (Af (Ay U (A9 U (Ag JU U (AM B5 U H at1 U (DR U U ?_)))))));refine A9 U (Ag JU U (Cp (.int _ _) Bp U U U H at1 (by (simp; done)) ?_));rintro w H;refine Ab (Aa (Af (Ag Gy U (AM B5 U H at0 U (Ad U (Ad U (Ab (Aa (A4 (BL (v1:=(.int _ _)) (v2:=(.int _ _)) U U U U ?_))))))))));have hid:d.id=nx:=by rw [hdd]; rfl
      rw [← hid] at hno;rw [Aau hno] at hM2;unfold MR Pt;rw [hc,if_pos rfl,if_pos rfl,if_pos rfl];rw [hdd] at hM2 ⊢;exact ⟨rfl,o2,hM2,H.tail⟩
end Go.Proofs.YtdagmpmdcgedcaaGreat
namespace Go.Proofs.YtdagmpmdcgedcaaGreat
open Go.GV
def newA (kd:Int) (a:Ac) (x:Int):Ac:=if kd=2 then ⟨a.ba+x,a.re⟩ else if kd=3 then ⟨a.ba - x,a.re⟩ else ⟨a.ba,x⟩
def bankC (kd:Int) (acs:List Ac) (k x:Int):Int:=if kd=2 then FO acs k x else if kd=3 then FP acs k x else Md acs k x
def bankA (kd:Int) (acs:List Ac) (k x:Int):List Ac:=if kd=2 then E8 acs k x else if kd=3 then EA acs k x else GL acs k x
def liteC (kd:Int) (is:Bool) (a:Ac) (x:Int):Int :=
 if is=false then 10
 else if kd=2 then (if (decide (0<x) && CY x)=false then 1 else 0)
 else if kd=3 then (if (decide (0<x) && CY x)=false then 1 else if a.ba<x then 12 else 0)
 else if CY x=false then 1 else 0
end Go.Proofs.YtdagmpmdcgedcaaGreat
namespace Go.Proofs.YtdagmpmdcgedcaaGreat
open Go.GV
end Go.Proofs.YtdagmpmdcgedcaaGreat
namespace Go.Proofs.YtdagmpmdcgedcaaGreat
open Go.GV
attribute [local irreducible] AB W Wq Wt
def sameB (N M:Int) (xs ys:List Ed):Bool:=decide (N=M) && decide (xs=ys)
def RdAt (w:World) (br:Nat) (ds:List Du):Prop:=∃ a c nx,w.heap[br]? = some (Bl 148 [.slice a ds.length c,.int .u64 nx])∧Rd w a 7 CO ds
theorem RdAt.ext0 {w w':World} {br:Nat} {ds:List Du} (h:RdAt w br ds) (he:Ext [] w w'):RdAt w' br ds:=by
 obtain ⟨a,c,nx,h1,h2⟩:=h;exact ⟨a,c,nx,he.to h1 (by simp),h2.ext0 he⟩
end Go.Proofs.YtdagmpmdcgedcaaGreat
namespace Go.Proofs.YtdagmpmdcgedcaaGreat
open Go.GV
attribute [local irreducible] AB W Wq Wt
abbrev RDU (ad:Option Addr) (m cd:Nat) (nx:Int):Obj:=Bl 148 [.slice ad m cd,.int .u64 nx]
abbrev RX (ba:Nat) (a:Option Addr) (n c:Nat) (full:List Value) (br:Nat) (ad:Option Addr) (m cd:Nat) (nx:Int) (fd:List Value):List (Nat × Obj):=(ba,Bl 125 [.slice a n c])::(br,RDU ad m cd nx)::(ent ad 67 fd++ent a 43 full)
structure RP7 where
 i:Nat
 ad:Option Addr
 cd:Nat
 fd:List Value
end Go.Proofs.YtdagmpmdcgedcaaGreat
namespace Go.Proofs.YtdagmpmdcgedcaaGreat
open Go.GV
attribute [local irreducible] AB W Wq Wt
structure Four where
 bx:Nat
 a:Option Addr
 c:Nat
 full:List Value
 bd:Nat
 b:Nat
 o:Obj
 ba:Nat
 ra:Option Addr
 rc:Nat
 rfull:List Value
 br:Nat
 ad:Option Addr
 cd:Nat
 fd:List Value
def Four.L (z:Four) (acs:List Ac) (ds:List Du) (nx:Int):List (Nat × Obj):=LX z.bx z.a acs.length z.c z.full z.bd z.b nx z.o++RX z.ba z.ra acs.length z.rc z.rfull z.br z.ad ds.length z.cd nx z.fd
structure Four.Ok (z:Four) (acs:List Ac) (ds:List Du):Prop where
 O:OS z.a acs.length z.c 2 z.full (acs.flatMap CM)
 M:CT .u64 (dm ds) z.o
 RO:OS z.ra acs.length z.rc 2 z.rfull (acs.flatMap CM)
 RD:OS z.ad ds.length z.cd 7 z.fd (ds.flatMap CO)
def Aga (acs:List Ac) (ds:List Du) (nx:Int):Bool:=decide (Ef acs=0) && decide (ofC ds nx=0)
def BothRes (w:World) (acs:List Ac) (ds:List Du) (nx:Int) (v:Value) (w':World):Prop :=
 (Aga acs ds nx=false∧v = .tuple #[.pointer none,.pointer none,.pointer none,.pointer none,.bool false]∧Ext [] w w') ∨
  (Aga acs ds nx=true∧∃ z:Four,v = .tuple #[ptr z.bx,ptr z.bd,ptr z.ba,ptr z.br,.bool true]∧z.Ok acs ds∧Ctx w [] w' (z.L acs ds nx))
end Go.Proofs.YtdagmpmdcgedcaaGreat
namespace Go.Proofs.YtdagmpmdcgedcaaGreat
open Go.GV
attribute [local irreducible] AB W Wq Wt
theorem Vx {α:Type} (B L R:List α):(B++(L++R)).Perm (L++(B++R)):=by
 classical exact List.perm_iff_count.2 fun x=>by simp only [List.count_append]; omega
theorem Ctx.mid {w0 w w':World} {S:List Nat} {B L L' R:List (Nat × Obj)} (H:Ctx w0 S w (B++(L++R))) (H':Ctx w (L.map (·.1)) w' L'):Ctx w0 S w' (B++(L'++R)) :=
 (Ctx.back (H.perm (Vx B L R)) H').perm (Vx B L' R).symm
theorem Ctx.in' {w0 w:World} {S:List Nat} {B L R:List (Nat × Obj)} (H:Ctx w0 S w (B++(L++R))):Ctx w (L.map (·.1)) w L:=Ctx.lend (H.perm (Vx B L R))
theorem LX.ac {bx:Nat} {a:Option Addr} {c:Nat} {full:List Value} {bd b:Nat} {nx:Int} {o:Obj} {acs:List Ac} {w0 w:World} {S:List Nat} (H:Ctx w0 S w (LX bx a acs.length c full bd b nx o)) (O:OS a acs.length c 2 full (acs.flatMap CM)):AcAt w 162 bx acs :=
 ⟨a,c,H.get at0,OS.rd O (fun x hx=>H.blk x (List.mem_cons_of_mem _ (List.mem_cons_of_mem _ (List.mem_cons_of_mem _ hx)))) (fun _ _=>rfl) (by decide)⟩
theorem LX.du {bx:Nat} {a:Option Addr} {n c:Nat} {full:List Value} {bd b:Nat} {nx:Int} {o:Obj} {ds:List Du} {w0 w:World} {S:List Nat} (H:Ctx w0 S w (LX bx a n c full bd b nx o)) (hM:CT .u64 (dm ds) o):DuAt w bd ds :=
 ⟨b,nx,o,H.get at1,H.get at2,hM⟩
theorem RX.ac {ba:Nat} {a:Option Addr} {c:Nat} {full:List Value} {br:Nat} {ad:Option Addr} {m cd:Nat} {nx:Int} {fd:List Value} {acs:List Ac} {w0 w:World} {S:List Nat} (H:Ctx w0 S w (RX ba a acs.length c full br ad m cd nx fd)) (O:OS a acs.length c 2 full (acs.flatMap CM)):AcAt w 125 ba acs :=
 ⟨a,c,H.get at0,OS.rd O (fun x hx=>H.blk x (List.mem_cons_of_mem _ (List.mem_cons_of_mem _ (List.mem_append_right _ hx)))) (fun _ _=>rfl) (by decide)⟩
theorem RX.du {ba:Nat} {a:Option Addr} {n c:Nat} {full:List Value} {br:Nat} {ad:Option Addr} {cd:Nat} {nx:Int} {fd:List Value} {ds:List Du} {w0 w:World} {S:List Nat} (H:Ctx w0 S w (RX ba a n c full br ad ds.length cd nx fd)) (O:OS ad ds.length cd 7 fd (ds.flatMap CO)):RdAt w br ds :=
 ⟨ad,cd,nx,H.get at1,OS.rd O (fun x hx=>H.blk x (List.mem_cons_of_mem _ (List.mem_cons_of_mem _ (List.mem_append_left _ hx)))) (fun _ _=>rfl) (by decide)⟩
theorem ROff.old {w0 w:World} {S:List Nat} {L:List (Nat × Obj)} {q:RSl} {r:Rnd} (H:Ctx w0 S w L) (h:ROff q r (fun x=>x<w.heap.size)):ROff q r (·∈L.map (·.1)) :=
 h.mono fun x hx=>by
  obtain ⟨y,hy,rfl⟩:=List.mem_map.1 hx;exact Ba (H.blk y hy)
structure RBnd (r:Rnd):Prop where
 N:I64 r.N
 es:r.es.length≤1000000
 ids:r.ids.length≤1000000
 fl:r.fl.length≤1000000
 pot:r.pot.length≤1000000
theorem Aby {acs:List Ac} {ds:List Du} {net:Bool} {r:Rnd} (P:PlanR acs ds net r):RBnd r:=by
 obtain ⟨h1,h2,-⟩:=Gp.1 P.chk;obtain ⟨g1,g2,g3,-⟩:=CD (Cv (Ff h1).1).2.1;have g4:=(Cv (Ff h1).1).1;have g5:=(Ll h2).1;refine ⟨⟨by omega,by omega⟩,by omega,?_,by omega,by omega⟩;rw [P.ids,List.length_map];have:(opn ds).length≤r.es.length:=by rw [P.es,Ha]; omega
 omega
theorem XY {bx bd b c:Nat} {a:Option Addr} {full:List Value} {o:Obj} {acs:List Ac} {ds:List Du} {nx:Int} {r:Rnd} {q:RSl} {w w0:World} {S:List Nat} {B R:List (Nat × Obj)} (ha:Ef acs=0) (hd:ofC ds nx=0) (H:Ctx w0 S w (B++(LX bx a acs.length c full bd b nx o++R))) (O:OS a acs.length c 2 full (acs.flatMap CM)) (hM:CT .u64 (dm ds) o) (RA:RAt w r q) (hoff:ROff q r (·∈(LX bx a acs.length c full bd b nx o).map (·.1))) (hr:RBnd r) :
  Ret Tryz.prog 113 #[ptr bx,ptr bd,.agg (BK r q).toArray] w fun v w'=>v = .int .i64 (EE acs ds r)∧∃ full' o',OS a acs.length c 2 full' ((GK acs ds r).flatMap CM)∧CT .u64 (dm (Gq acs ds r)) o' ∧
   Ext ((LX bx a acs.length c full bd b nx o).map (·.1)) w w'∧Ctx w0 S w' (B++(LX bx a acs.length c full' bd b nx o'++R)):=by
 refine Ret.mono (Aa7 ha hd w (Ctx.in' H) O hM RA hoff hr.N hr.es hr.ids hr.fl hr.pot) fun v w' h=>?_;obtain ⟨h1,full',o',O',hM',H'⟩:=h;exact ⟨h1,full',o',O',hM',H'.ext,Ctx.mid H H'⟩
theorem WA {a:Option Addr} {t:TypeId} {f g:List Value}:(ent a t f).map (·.1)=(ent a t g).map (·.1):=by cases a <;> rfl
abbrev xA0:List Ac:=[⟨5,0⟩,⟨0,0⟩]
abbrev xA1:List Ac:=[⟨0,0⟩,⟨5,0⟩]
abbrev xD0:List Du:=[⟨1,0,1,9,1,1,false⟩]
abbrev xD1:List Du:=[⟨1,0,1,4,1,1,false⟩]
abbrev xE0:List Ed:=[⟨0,1,9,-1⟩,⟨2,0,5,0⟩,⟨0,2,4503599627370496,0⟩,⟨2,1,0,0⟩,⟨1,2,4503599627370496,0⟩]
end Go.Proofs.YtdagmpmdcgedcaaGreat
namespace Go.Proofs.YtdagmpmdcgedcaaGreat
open Go.GV
attribute [local irreducible] AB W Wq Wt
structure Lm where
 bl:Nat
 ba:Nat
 bd:Nat
 br:Nat
 b:Nat
 a:Option Addr
 c:Nat
 full:List Value
 o:Obj
 arch:List Value
abbrev LL (m:Lm) (s:Ld):List (Nat × Obj):=(m.bl,Bl 106 [ptr m.ba,ptr m.bd,ptr m.br,.int .i64 s.day])::(m.br,Bl 168 m.arch)::LX m.ba m.a s.acs.length m.c m.full m.bd m.b s.nx m.o
abbrev CW (m:Lm) (s:Ld):List Nat:=(LL m s).map fun x=>x.1
def KIn (w:World) (arch:List Value) (r:Rnd) (T:Nat→Prop):Prop :=
 ∃ q,(∀ j v,(BK r q)[j]? = some v→arch[(r.no % 4).toNat*8+j]? = some v)∧RAt w r q∧ROff q r T
structure LdIn (w:World) (m:Lm) (s:Ld) (T:Nat→Prop):Prop where
 O:OS m.a s.acs.length m.c 2 m.full (s.acs.flatMap CM)
 M:CT .u64 (dm s.ds) m.o
 ok:s.Ok
 len:m.arch.length=34
 n:m.arch[32]? = some (.int .u64 s.rn.length)
 no:m.arch[33]? = some (.int .u64 s.no)
 kept:∀ r∈s.rn,KIn w m.arch r T
 own:∀ x∈CW m s,T x
 low:∀ x,T x→x<w.heap.size
abbrev BV (k:Ak):List Value:=[.int .u8 k.kd,.int .i64 k.a,.int .i64 k.b,.int .i64 k.x,.int .i64 k.w,.int .i64 k.u,.int .u64 k.id]
theorem Ctx.acs7 {w0 w w':World} {S:List Nat} {P:List (Nat × Obj)} {a:Option Addr} {t:TypeId} {full full':List Value} (H:Ctx w0 S w (P++ent a t full)) (he:Ext ((ent a t full).map fun x=>x.1) w w') (hb:∀ x∈ent a t full',w'.heap[x.1]? = some x.2):Ctx w0 S w' (P++ent a t full'):=by
 have h1:Ctx w ((ent a t full).map fun x=>x.1) w' (ent a t full'):=⟨he,hb,FD,fun x hx => .inl (by
  rw [WA (f:=full) (g:=full')]
  exact List.mem_map_of_mem (f:=fun x:Nat × Obj=>x.1) hx)⟩
 exact (Ctx.back H.comm h1).comm
theorem LdIn.turn {w w':World} {m m':Lm} {s s':Ld} {T:Nat→Prop} {S:List Nat} (I:LdIn w m s T) (he:Ext S w w') (hs:∀ x∈S,T x) (O:OS m'.a s'.acs.length m'.c 2 m'.full (s'.acs.flatMap CM)) (M:CT .u64 (dm s'.ds) m'.o) (ok:s'.Ok) (ha:m'.arch=m.arch) (hr:s'.rn=s.rn) (hn:s'.no=s.no) (hid:∀ x∈CW m' s',(T x∨w.heap.size≤x)∧x<w'.heap.size) :
  LdIn w' m' s' (fun x=>T x∨x∈CW m' s') where
 O:=O
 M:=M
 ok:=ok
 len:=by rw [ha]; exact I.len
 n:=by rw [ha,hr]; exact I.n
 no:=by rw [ha,hn]; exact I.no
 kept:=fun r h=>by
  rw [hr] at h;obtain ⟨q,h1,h2,h3⟩:=I.kept r h;rw [ha];exact ⟨q,h1,h2.ext he (h3.mono hs),(h3.or h2.lt).mono fun x hx=>hx.elim .inl fun hx=>(hid x hx).1⟩
 own:=fun x hx => .inr hx
 low:=fun x hx=>hx.elim (fun h=>Nat.lt_of_lt_of_le (I.low x h) he.size) fun h=>(hid x h).2
def Gb (w:World) (m:Lm) (s:Ld) (T:Nat→Prop) (k:Ak) (v:Value) (w':World):Prop :=
 ∃ a n c full code l s' m',v = .tuple #[.slice a n c,.int .i64 code]∧OS a n c 1 full (l.map Ee)∧C6 s k s' (rp l code)∧Ctx w (CW m s) w' (LL m' s'++ent a 2 full)∧(∀ x∈ent a 2 full,w.heap.size≤x.1)∧LdIn w' m' s' (fun x=>T x∨x∈CW m' s')∧m'.bl=m.bl
theorem DF {w w1 w':World} {m m':Lm} {s s':Ld} {T:Nat→Prop} {k:Ak} {P:List (Nat × Obj)} {a:Option Addr} {n c:Nat} {code:Int} {l:List Int} (I:LdIn w m s T) (H:Ctx w (CW m s) w1 (P++LL m' s')) (F:Fresh w1 w' 2 1 (.slice a n c) (l.map Ee)) (hst:C6 s k s' (rp l code))
  (O:OS m'.a s'.acs.length m'.c 2 m'.full (s'.acs.flatMap CM)) (M:CT .u64 (dm s'.ds) m'.o) (ok:s'.Ok) (ha:m'.arch=m.arch) (hr:s'.rn=s.rn) (hn:s'.no=s.no) (hbl:m'.bl=m.bl):Gb w m s T k (.tuple #[.slice a n c,.int .i64 code]) w':=by
 obtain ⟨a',n',c',full,hv,OF,hb⟩:=F.ex;cases hv;have H1:Ctx w (CW m s) w1 (LL m' s'):=H.right;have H2:=H1.callEnt F.ext hb FD;refine ⟨a,n,c,full,code,l,s',m',rfl,OF,hst,H2,fun x hx=>Nat.le_trans H1.size (hb x hx).2,I.turn H2.ext I.own O M ok ha hr hn fun x hx=>?_,hbl⟩;obtain ⟨y,hy,rfl⟩:=List.mem_map.1 hx;exact ⟨(H1.own y hy).imp_left (I.own _),Ba (H2.left.blk y hy)⟩
end Go.Proofs.YtdagmpmdcgedcaaGreat
namespace Go.Proofs.YtdagmpmdcgedcaaGreat
open Go.GV
attribute [local irreducible] AB W Wq Wt
structure AkIn (k:Ak):Prop where
 kd:0≤k.kd∧k.kd≤255
 a:I64 k.a
 b:I64 k.b
 x:I64 k.x
 w:I64 k.w
 u:I64 k.u
 id:0≤k.id∧k.id≤18446744073709551615
theorem Gs {w0 w:World} {b:Nat} {t:TypeId} {l:List Value} {n:Nat} {L:List (Nat × Obj)} (H:Ctx w0 [] w ((b,Bl t l)::L)) (hn:l.length=n):Fresh w0 w t 1 (.slice (some ⟨b,0,none⟩) n n) l:=by
 subst hn;refine ⟨⟨some ⟨b,0,none⟩,l.length,l.length,l,rfl,⟨fun p hp=>?_,fun h=>?_,by rw [Nat.mul_one],Nat.le_refl _,by rw [Nat.mul_one,List.take_length]⟩,fun x hx=>?_⟩,H.ext⟩
 ·cases hp; rfl
 ·cases h
 ·rw [List.mem_singleton.1 hx];exact ⟨H.get at0,(H.own _ (List.mem_cons_self ..)).elim (fun h=>by cases h) id⟩
set_option maxRecDepth 20000 in
set_option maxHeartbeats 1000000 in
theorem NL {bl ba c:Nat} {v1 v2 v3:Value} {a:Option Addr} {acs:List Ac} (k e:Int) (w:World) (hl:w.heap[bl]? = some (Bl 106 [ptr ba,v1,v2,v3])) (hd:AcB ba a acs.length c w) (R:Rd w a 2 CM acs)  (hn:acs.length≤1000000:=by omega):
  Ret Tryz.prog 103 #[ptr bl,.int .i64 k,.int .i64 e] w fun v w'=>∃ a' c',v = .tuple #[.slice a' 2 c',.int .i64 (if e=0∧inA acs k=false then 10 else e)]∧Fresh w w' 2 1 (.slice a' 2 c') ((PL acs k).map Ee):=by
 obtain ⟨w0,rfl⟩:∃ w0,w0=w:=⟨_,rfl⟩;have H:=Ctx.start w0 [];refine Aw (fn:=Tryz.f103) Tryz.func103 U [.pointer (some ⟨bl,0,none⟩),.int .i64 k,.int .i64 e] U (by kernel_rfl) ?_;refine Af (A1 U (Ad U (Ab (Aa (Af (Ay U (A9 U (Ag F3 U (AZ Ig U ((H.old (Aj hl _) (by simp))) ?_)))))))));refine Ae U (Al Ru (NK a _ c acs k _ (H.ext.to hd (by simp)) (R.ext0 H.ext) U hn) U ?_);rintro v w ⟨rfl,hx16⟩;replace H:=H.call hx16;refine BM U (A6 U U (A6 U U (AX II H ?_)));rintro b8 w - H;refine Bm Dx U U U (by simp [AO]) H at0 U ?_;rintro w H;refine Ai U (Ab (Aa (Aq (Af (BU (α:=Unit) 33030144 (fun _=>[(24,.bool (decide (e=0) && !inA acs k))]) (fun _ w'=>Ctx w0 [] w' [(b8,Bl 43 (CM (Dd acs k)))]) U ?_ ?_)))))
 ·refine Ae U (Cf U U (AE U (AY 21 U ?_ ?_)))
  ·intro h1;replace h1:=AJ h1;refine AE U (BA U (AN U (.bool _) U (Ab ?_)));exact ⟨rfl,(),rfl,⟨congrArg Value.bool (by rw [Bool.eq_iff_iff]; simp_all; try omega),trivial⟩,H⟩
  ·intro h2;replace h2:=AK h2;refine Ah U (Ah U (AU U (.bool _) U (Ab ?_)));exact ⟨rfl,(),rfl,⟨congrArg Value.bool (by rw [Bool.eq_iff_iff]; simp_all; try omega),trivial⟩,H⟩
 rintro - j24 w H;refine Ap _ U ?_ ?_
 ·intro h1;rw [Bool.and_eq_true,decide_eq_true_eq,Bool.not_eq_true'] at h1;rw [if_pos h1];refine Az (Ad U (Ab (Aa (Af (Ag DW U (AM Bw U H at0 U (Ag GW U (AM Bw U H at0 U (D9 [.int .i64 (Dd acs k).ba,.int .i64 (Dd acs k).re] Bg B6 EK (by decide) (by decide) (by kernel_rfl) H ?_)))))))));rintro b29 w - H;refine Ae U (A1 U (Ad U (Ab (Aa (A4 (BL (v1:=(.slice _ _ _)) (v2:=(.int _ _)) U U U U ?_))))));exact ⟨_,_,rfl,Gs H rfl⟩
 ·intro h1;rw [if_neg (fun h=>by rw [h.2,decide_eq_true h.1] at h1; cases h1)];refine Au (Aa (Af (Ag DW U (AM Bw U H at0 U (Ag GW U (AM Bw U H at0 U (D9 [.int .i64 (Dd acs k).ba,.int .i64 (Dd acs k).re] Bg B6 EK (by decide) (by decide) (by kernel_rfl) H ?_)))))));rintro b29 w - H;refine Ae U (A1 U (Ad U (Ab (Aa (A4 (BL (v1:=(.slice _ _ _)) (v2:=(.int _ _)) U U U U ?_))))));exact ⟨_,_,rfl,Gs H rfl⟩
set_option maxRecDepth 20000 in
set_option maxHeartbeats 1000000 in
theorem Abz {m:Lm} {s:Ld} {T:Nat→Prop} {k:Ak} (hk:k.kd=2) (hin:AkIn k) (w:World) (I:LdIn w m s T) (H0:Ctx w (CW m s) w (LL m s)) :
  Ret Tryz.prog 55 #[ptr m.bl,.agg (BV k).toArray] w (Gb w m s T k):=by
 obtain ⟨w0,rfl⟩:∃ w0,w0=w:=⟨_,rfl⟩;obtain ⟨bl,ba,bd,br,b,a,c,full,o,arch⟩:=m;obtain ⟨S0,hS0⟩:∃ S,S=CW ⟨bl,ba,bd,br,b,a,c,full,o,arch⟩ s:=⟨_,rfl⟩;have H:Ctx w0 S0 w0 ((bl,Bl 106 [ptr ba,ptr bd,ptr br,.int .i64 s.day])::(br,Bl 168 arch)::(ba,Bl 162 [.slice a s.acs.length c])::(bd,Bl 165 (DU b s.nx))::(b,o)::ent a 43 full):=by rw [hS0]; exact H0
 have hn16:=(BZ.1 I.ok.ac).1;obtain ⟨hok,hlen,-⟩:=W4 I.ok.ac k.a k.x;have hoth:EN s k={ s with acs:=E8 s.acs k.a k.x }:=by unfold EN; rw [if_neg (by omega),if_pos hk]
 have hokS:({ s with acs:=E8 s.acs k.a k.x }:Ld).Ok:=by rw [← hoth]; exact J5 I.ok k hin.u.2
 have hstep:C6 s k { s with acs:=E8 s.acs k.a k.x } (rp (PL (E8 s.acs k.a k.x) k.a) (FO s.acs k.a k.x)):=by
  unfold C6;rw [if_neg (by omega)];exact ⟨hoth.symm,by unfold Fq; rw [if_neg (by omega),if_pos hk]⟩
 have hcode:(if FO s.acs k.a k.x=0∧inA (E8 s.acs k.a k.x) k.a=false then 10 else FO s.acs k.a k.x)=FO s.acs k.a k.x:=by
  rw [if_neg];rintro ⟨h1,h2⟩
  rcases J3 s.acs k.a k.x with ⟨h3,-⟩ | ⟨-,h4,-⟩
  ·exact h3 h1
  ·have h5:inA (E8 s.acs k.a k.x) k.a=inA s.acs k.a:=by unfold inA; rw [hlen]
   rw [h5,h4] at h2;cases h2
 refine Aw (fn:=Tryz.f55) Tryz.func55 U [.pointer (some ⟨bl,0,none⟩),.agg (BV k).toArray] U (by kernel_rfl) ?_;refine Af (Bv (BV k) (.agg _) U U H ?_);rintro b3 w - H;refine A1 U (Ad U (Ab (Aa (Cq [([0,1,2,3,4,5,6,7,8,9,10],11),([],12),([13,14,15],16)] (fun z=>z.heap[b3]? = some (Bl 40 (BV k))∧z.heap[bl]? = some (Bl 106 [ptr ba,ptr bd,ptr br,.int .i64 s.day])) [] Bs (by kernel_rfl) (⟨H.drew.get at0,H.drew.get at1⟩) ?_))));refine AF U U ?_;refine BD U (An U FV U (B0 Ca U (fun _ hx=>(by rw [Aj hx.1]; rfl)) ?_));refine BD U (Bd U (An U F3 U (B0 Ig U (fun _ hx=>(by rw [Aj hx.2]; rfl)) ?_)));refine An U FV U (B0 Ca U (fun _ hx=>(by rw [Aj hx.1]; rfl)) ?_);refine An U ND U (B0 Bw U (fun _ hx=>(by rw [Aj hx.1]; rfl)) ?_);refine AP ?_;replace H:=H.drew;refine Al Agt (Abq _ (H.get at3) I.O (fun y hy=>H.blk y (List.mem_append_right [_,_,_,_,_,_] hy)) I.ok.ac) U ?_
 rintro v w ⟨rfl,full',O',hb',he'⟩;replace H:Ctx w0 S0 w ((b3,Bl 40 (BV k))::(bl,Bl 106 [ptr ba,ptr bd,ptr br,.int .i64 s.day])::(br,Bl 168 arch)::(ba,Bl 162 [.slice a (E8 s.acs k.a k.x).length c])::(bd,Bl 165 (DU b s.nx))::(b,o)::ent a 43 full'):=(by rw [hlen]; exact Ctx.acs7 (P:=[_,_,_,_,_,_]) H he' hb');replace O':OS a (E8 s.acs k.a k.x).length c 2 full' ((E8 s.acs k.a k.x).flatMap CM):=(by rw [hlen]; exact O');refine Ab (BR (⟨H.get at0,H.get at1⟩) (AF U U ?_));refine AP (Al Rt (NL k.a _ _ (H.get at1) (H.get at3) (OS.rd (t:=43) O' (fun y hy=>H.blk y (List.mem_append_right [_,_,_,_,_,_] hy)) (fun _ _=>rfl) (by decide))) U ?_);rintro v w ⟨a',c',rfl,F⟩;rw [hcode];have H8:=H;replace H:=H.call F.ext;refine Ab (BR (⟨H.get at0,H.get at1⟩) (AF U U ?_))
 refine Bu U U (Bu U U (DB U (AP (Ad U (Ab (BR (⟨H.get at0,H.get at1⟩) (BH (A4 (BL (v1:=(.slice _ _ _)) (v2:=(.int _ _)) U U U U ?_)))))))));subst hS0;exact DF (P:=[_]) (m':=⟨bl,ba,bd,br,b,a,c,full',o,arch⟩) (s':={ s with acs:=E8 s.acs k.a k.x }) I H8 F hstep O' I.M hokS U U U U
set_option maxRecDepth 20000 in
set_option maxHeartbeats 1000000 in
theorem Ab0 {m:Lm} {s:Ld} {T:Nat→Prop} {k:Ak} (hk:k.kd=3) (hin:AkIn k) (w:World) (I:LdIn w m s T) (H0:Ctx w (CW m s) w (LL m s)) :
  Ret Tryz.prog 56 #[ptr m.bl,.agg (BV k).toArray] w (Gb w m s T k):=by
 obtain ⟨w0,rfl⟩:∃ w0,w0=w:=⟨_,rfl⟩;obtain ⟨bl,ba,bd,br,b,a,c,full,o,arch⟩:=m;obtain ⟨S0,hS0⟩:∃ S,S=CW ⟨bl,ba,bd,br,b,a,c,full,o,arch⟩ s:=⟨_,rfl⟩;have H:Ctx w0 S0 w0 ((bl,Bl 106 [ptr ba,ptr bd,ptr br,.int .i64 s.day])::(br,Bl 168 arch)::(ba,Bl 162 [.slice a s.acs.length c])::(bd,Bl 165 (DU b s.nx))::(b,o)::ent a 43 full):=by rw [hS0]; exact H0
 have hn16:=(BZ.1 I.ok.ac).1;obtain ⟨hok,hlen,-⟩:=W5 I.ok.ac k.a k.x;have hoth:EN s k={ s with acs:=EA s.acs k.a k.x }:=by unfold EN; rw [if_neg (by omega),if_neg (by omega),if_pos hk]
 have hokS:({ s with acs:=EA s.acs k.a k.x }:Ld).Ok:=by rw [← hoth]; exact J5 I.ok k hin.u.2
 have hstep:C6 s k { s with acs:=EA s.acs k.a k.x } (rp (PL (EA s.acs k.a k.x) k.a) (FP s.acs k.a k.x)):=by
  unfold C6;rw [if_neg (by omega)];exact ⟨hoth.symm,by unfold Fq; rw [if_neg (by omega),if_neg (by omega),if_pos hk]⟩
 have hcode:(if FP s.acs k.a k.x=0∧inA (EA s.acs k.a k.x) k.a=false then 10 else FP s.acs k.a k.x)=FP s.acs k.a k.x:=by
  rw [if_neg];rintro ⟨h1,h2⟩
  rcases Lq s.acs k.a k.x with ⟨h3,-⟩ | ⟨-,h4,-⟩
  ·exact h3 h1
  ·have h5:inA (EA s.acs k.a k.x) k.a=inA s.acs k.a:=by unfold inA; rw [hlen]
   rw [h5,h4] at h2;cases h2
 refine Aw (fn:=Tryz.f56) Tryz.func56 U [.pointer (some ⟨bl,0,none⟩),.agg (BV k).toArray] U (by kernel_rfl) ?_;refine Af (Bv (BV k) (.agg _) U U H ?_);rintro b3 w - H;refine A1 U (Ad U (Ab (Aa (Cq [([0,1,2,3,4,5,6,7,8,9,10],11),([],12),([13,14,15],16)] (fun z=>z.heap[b3]? = some (Bl 40 (BV k))∧z.heap[bl]? = some (Bl 106 [ptr ba,ptr bd,ptr br,.int .i64 s.day])) [] Bs (by kernel_rfl) (⟨H.drew.get at0,H.drew.get at1⟩) ?_))));refine AF U U ?_;refine BD U (An U FV U (B0 Ca U (fun _ hx=>(by rw [Aj hx.1]; rfl)) ?_));refine BD U (Bd U (An U F3 U (B0 Ig U (fun _ hx=>(by rw [Aj hx.2]; rfl)) ?_)));refine An U FV U (B0 Ca U (fun _ hx=>(by rw [Aj hx.1]; rfl)) ?_);refine An U ND U (B0 Bw U (fun _ hx=>(by rw [Aj hx.1]; rfl)) ?_);refine AP ?_;replace H:=H.drew;refine Al Agu (Abr _ (H.get at3) I.O (fun y hy=>H.blk y (List.mem_append_right [_,_,_,_,_,_] hy)) I.ok.ac) U ?_
 rintro v w ⟨rfl,full',O',hb',he'⟩;replace H:Ctx w0 S0 w ((b3,Bl 40 (BV k))::(bl,Bl 106 [ptr ba,ptr bd,ptr br,.int .i64 s.day])::(br,Bl 168 arch)::(ba,Bl 162 [.slice a (EA s.acs k.a k.x).length c])::(bd,Bl 165 (DU b s.nx))::(b,o)::ent a 43 full'):=(by rw [hlen]; exact Ctx.acs7 (P:=[_,_,_,_,_,_]) H he' hb');replace O':OS a (EA s.acs k.a k.x).length c 2 full' ((EA s.acs k.a k.x).flatMap CM):=(by rw [hlen]; exact O');refine Ab (BR (⟨H.get at0,H.get at1⟩) (AF U U ?_));refine AP (Al Rt (NL k.a _ _ (H.get at1) (H.get at3) (OS.rd (t:=43) O' (fun y hy=>H.blk y (List.mem_append_right [_,_,_,_,_,_] hy)) (fun _ _=>rfl) (by decide))) U ?_);rintro v w ⟨a',c',rfl,F⟩;rw [hcode];have H8:=H;replace H:=H.call F.ext;refine Ab (BR (⟨H.get at0,H.get at1⟩) (AF U U ?_))
 refine Bu U U (Bu U U (DB U (AP (Ad U (Ab (BR (⟨H.get at0,H.get at1⟩) (BH (A4 (BL (v1:=(.slice _ _ _)) (v2:=(.int _ _)) U U U U ?_)))))))));subst hS0;exact DF (P:=[_]) (m':=⟨bl,ba,bd,br,b,a,c,full',o,arch⟩) (s':={ s with acs:=EA s.acs k.a k.x }) I H8 F hstep O' I.M hokS U U U U
set_option maxRecDepth 20000 in
set_option maxHeartbeats 1000000 in
theorem Ae0 {m:Lm} {s:Ld} {T:Nat→Prop} {k:Ak} (hk:k.kd=4) (hin:AkIn k) (w:World) (I:LdIn w m s T) (H0:Ctx w (CW m s) w (LL m s)) :
  Ret Tryz.prog 57 #[ptr m.bl,.agg (BV k).toArray] w (Gb w m s T k):=by
 obtain ⟨w0,rfl⟩:∃ w0,w0=w:=⟨_,rfl⟩;obtain ⟨bl,ba,bd,br,b,a,c,full,o,arch⟩:=m;obtain ⟨S0,hS0⟩:∃ S,S=CW ⟨bl,ba,bd,br,b,a,c,full,o,arch⟩ s:=⟨_,rfl⟩;have H:Ctx w0 S0 w0 ((bl,Bl 106 [ptr ba,ptr bd,ptr br,.int .i64 s.day])::(br,Bl 168 arch)::(ba,Bl 162 [.slice a s.acs.length c])::(bd,Bl 165 (DU b s.nx))::(b,o)::ent a 43 full):=by rw [hS0]; exact H0
 have hn16:=(BZ.1 I.ok.ac).1;obtain ⟨hok,hlen,-⟩:=Aa9 I.ok.ac k.a k.x;have hoth:EN s k={ s with acs:=GL s.acs k.a k.x }:=by unfold EN; rw [if_neg (by omega),if_neg (by omega),if_neg (by omega),if_pos hk]
 have hokS:({ s with acs:=GL s.acs k.a k.x }:Ld).Ok:=by rw [← hoth]; exact J5 I.ok k hin.u.2
 have hstep:C6 s k { s with acs:=GL s.acs k.a k.x } (rp (PL (GL s.acs k.a k.x) k.a) (Md s.acs k.a k.x)):=by
  unfold C6;rw [if_neg (by omega)];exact ⟨hoth.symm,by unfold Fq; rw [if_neg (by omega),if_neg (by omega),if_neg (by omega),if_pos hk]⟩
 have hcode:(if Md s.acs k.a k.x=0∧inA (GL s.acs k.a k.x) k.a=false then 10 else Md s.acs k.a k.x)=Md s.acs k.a k.x:=by
  rw [if_neg];rintro ⟨h1,h2⟩
  rcases QL s.acs k.a k.x with ⟨h3,-⟩ | ⟨-,h4,-⟩
  ·exact h3 h1
  ·have h5:inA (GL s.acs k.a k.x) k.a=inA s.acs k.a:=by unfold inA; rw [hlen]
   rw [h5,h4] at h2;cases h2
 refine Aw (fn:=Tryz.f57) Tryz.func57 U [.pointer (some ⟨bl,0,none⟩),.agg (BV k).toArray] U (by kernel_rfl) ?_;refine Af (Bv (BV k) (.agg _) U U H ?_);rintro b3 w - H;refine A1 U (Ad U (Ab (Aa (Cq [([0,1,2,3,4,5,6,7,8,9,10],11),([],12),([13,14,15],16)] (fun z=>z.heap[b3]? = some (Bl 40 (BV k))∧z.heap[bl]? = some (Bl 106 [ptr ba,ptr bd,ptr br,.int .i64 s.day])) [] Bs (by kernel_rfl) (⟨H.drew.get at0,H.drew.get at1⟩) ?_))));refine AF U U ?_;refine BD U (An U FV U (B0 Ca U (fun _ hx=>(by rw [Aj hx.1]; rfl)) ?_));refine BD U (Bd U (An U F3 U (B0 Ig U (fun _ hx=>(by rw [Aj hx.2]; rfl)) ?_)));refine An U FV U (B0 Ca U (fun _ hx=>(by rw [Aj hx.1]; rfl)) ?_);refine An U ND U (B0 Bw U (fun _ hx=>(by rw [Aj hx.1]; rfl)) ?_);refine AP ?_;replace H:=H.drew;refine Al Agv (Aex _ (H.get at3) I.O (fun y hy=>H.blk y (List.mem_append_right [_,_,_,_,_,_] hy)) I.ok.ac) U ?_
 rintro v w ⟨rfl,full',O',hb',he'⟩;replace H:Ctx w0 S0 w ((b3,Bl 40 (BV k))::(bl,Bl 106 [ptr ba,ptr bd,ptr br,.int .i64 s.day])::(br,Bl 168 arch)::(ba,Bl 162 [.slice a (GL s.acs k.a k.x).length c])::(bd,Bl 165 (DU b s.nx))::(b,o)::ent a 43 full'):=(by rw [hlen]; exact Ctx.acs7 (P:=[_,_,_,_,_,_]) H he' hb');replace O':OS a (GL s.acs k.a k.x).length c 2 full' ((GL s.acs k.a k.x).flatMap CM):=(by rw [hlen]; exact O');refine Ab (BR (⟨H.get at0,H.get at1⟩) (AF U U ?_));refine AP (Al Rt (NL k.a _ _ (H.get at1) (H.get at3) (OS.rd (t:=43) O' (fun y hy=>H.blk y (List.mem_append_right [_,_,_,_,_,_] hy)) (fun _ _=>rfl) (by decide))) U ?_);rintro v w ⟨a',c',rfl,F⟩;rw [hcode];have H8:=H;replace H:=H.call F.ext;refine Ab (BR (⟨H.get at0,H.get at1⟩) (AF U U ?_))
 refine Bu U U (Bu U U (DB U (AP (Ad U (Ab (BR (⟨H.get at0,H.get at1⟩) (BH (A4 (BL (v1:=(.slice _ _ _)) (v2:=(.int _ _)) U U U U ?_)))))))));subst hS0;exact DF (P:=[_]) (m':=⟨bl,ba,bd,br,b,a,c,full',o,arch⟩) (s':={ s with acs:=GL s.acs k.a k.x }) I H8 F hstep O' I.M hokS U U U U
end Go.Proofs.YtdagmpmdcgedcaaGreat
namespace Go.Proofs.YtdagmpmdcgedcaaGreat
open Go.GV
attribute [local irreducible] AB W Wq Wt
theorem HS (w:World):Fresh w w 2 1 (.slice none 0 0) (([]:List Int).map Ee):=Fresh.nil (Ctx.start w []) _ _
theorem Mj {bl ba c:Nat} {v1 v2 v3:Value} {a:Option Addr} {acs:List Ac} (k:Int) (w:World) (hl:w.heap[bl]? = some (Bl 106 [ptr ba,v1,v2,v3])) (hd:AcB ba a acs.length c w) (R:Rd w a 2 CM acs)  (hn:acs.length≤1000000:=by omega):
  Ret Tryz.prog 81 #[ptr bl,.int .i64 k] w fun v w'=>v = .bool (inA acs k)∧Ext [] w w':=by
 obtain ⟨w0,rfl⟩:∃ w0,w0=w:=⟨_,rfl⟩;have H:=Ctx.start w0 [];refine Aw (fn:=Tryz.f81) Tryz.func81 U [.pointer (some ⟨bl,0,none⟩),.int .i64 k] U (by kernel_rfl) ?_;refine Af (Ai U (Ab (Aa (Af (Ay U (A9 U (Ag F3 U (AZ Ig U ((H.old (Aj hl _) (by simp))) ?_))))))));refine Ae U (Al Ru (NK a _ c acs k _ (H.ext.to hd (by simp)) (R.ext0 H.ext) U hn) U ?_);rintro v w ⟨rfl,hx16⟩;replace H:=H.call hx16;refine BM U (A6 U U (A6 U U (AX II H ?_)));rintro b5 w - H;refine Bm Dx U U U (by simp [AO]) H at0 U ?_;rintro w H;refine Ai U (Ab (Aa (Af (AE U (Ai U (Ab (Aa (A4 (AD (v:=(.bool _)) U U U ?_)))))))));exact ⟨rfl,H.ext⟩
set_option maxRecDepth 20000 in
set_option maxHeartbeats 1000000 in
theorem Ab1 {m:Lm} {s:Ld} {T:Nat→Prop} {k:Ak} (hk:k.kd=6) (hin:AkIn k) (w:World) (I:LdIn w m s T) (H0:Ctx w (CW m s) w (LL m s)) :
  Ret Tryz.prog 59 #[ptr m.bl,.agg (BV k).toArray] w (Gb w m s T k):=by
 obtain ⟨w0,rfl⟩:∃ w0,w0=w:=⟨_,rfl⟩;obtain ⟨bl,ba,bd,br,b,a,c,full,o,arch⟩:=m;obtain ⟨S0,hS0⟩:∃ S,S=CW ⟨bl,ba,bd,br,b,a,c,full,o,arch⟩ s:=⟨_,rfl⟩;have H:Ctx w0 S0 w0 ((bl,Bl 106 [ptr ba,ptr bd,ptr br,.int .i64 s.day])::(br,Bl 168 arch)::(ba,Bl 162 [.slice a s.acs.length c])::(bd,Bl 165 (DU b s.nx))::(b,o)::ent a 43 full):=by rw [hS0]; exact H0
 have hn16:=(BZ.1 I.ok.ac).1;have hbdb:bd≠b:=H.ne (i:=3) (j:=4) rfl rfl (by decide);have hoth:EN s k={ s with ds:=I6 s.ds k.id true }:=by unfold EN; rw [if_neg (by omega),if_neg (by omega),if_neg (by omega),if_neg (by omega),if_neg (by omega),if_pos hk]
 have hokS:({ s with ds:=I6 s.ds k.id true }:Ld).Ok:=by rw [← hoth]; exact J5 I.ok k hin.u.2
 have hstep:C6 s k { s with ds:=I6 s.ds k.id true } (rp [] (Mi s.ds k.id true)):=by
  unfold C6;rw [if_neg (by omega)];exact ⟨hoth.symm,by unfold Fq; rw [if_neg (by omega),if_neg (by omega),if_neg (by omega),if_neg (by omega),if_neg (by omega),if_pos hk]⟩
 refine Aw (fn:=Tryz.f59) Tryz.func59 U [.pointer (some ⟨bl,0,none⟩),.agg (BV k).toArray] U (by kernel_rfl) ?_;refine Af (Bv (BV k) (.agg _) U U H ?_);rintro b3 w - H;refine A1 U (Ad U (Ab (Aa (Cq [([0,1,2,3,4,5],6),([7],8)] (fun z=>z.heap[b3]? = some (Bl 40 (BV k))∧z.heap[bl]? = some (Bl 106 [ptr ba,ptr bd,ptr br,.int .i64 s.day])) [6,8] Bs (by kernel_rfl) (⟨H.drew.get at0,H.drew.get at1⟩) ?_))));refine AF U U ?_;refine BD U (Bd U (An U EH U (B0 Fw U (fun _ hx=>(by rw [Aj hx.2]; rfl)) ?_)));refine An U Ky U (B0 B5 U (fun _ hx=>(by rw [Aj hx.1]; rfl)) ?_);refine AP ?_;replace H:=H.drew;refine Al Agx (Aey _ (H.get at4) (H.get at5) I.M hbdb I.ok.du) U ?_;rintro v w ⟨rfl,o',hM',H7⟩;replace H:=Ctx.mid (B:=[_,_,_,_,_]) (L:=[_]) H H7;refine Ab (Bz U (AF U U ?_));refine DB U (AP (Ad U (Ab (Bz U (BH (A4 (BL (v1:=(.slice _ _ _)) (v2:=(.int _ _)) U U U U ?_)))))));subst hS0
 exact DF (P:=[_]) (m':=⟨bl,ba,bd,br,b,a,c,full,o',arch⟩) (s':={ s with ds:=I6 s.ds k.id true }) I H (HS _) hstep I.O hM' hokS U U U U
set_option maxRecDepth 20000 in
set_option maxHeartbeats 1000000 in
theorem Ud {m:Lm} {s:Ld} {T:Nat→Prop} {k:Ak} (hk:k.kd=7) (hin:AkIn k) (w:World) (I:LdIn w m s T) (H0:Ctx w (CW m s) w (LL m s)) :
  Ret Tryz.prog 60 #[ptr m.bl,.agg (BV k).toArray] w (Gb w m s T k):=by
 obtain ⟨w0,rfl⟩:∃ w0,w0=w:=⟨_,rfl⟩;obtain ⟨bl,ba,bd,br,b,a,c,full,o,arch⟩:=m;obtain ⟨S0,hS0⟩:∃ S,S=CW ⟨bl,ba,bd,br,b,a,c,full,o,arch⟩ s:=⟨_,rfl⟩;have H:Ctx w0 S0 w0 ((bl,Bl 106 [ptr ba,ptr bd,ptr br,.int .i64 s.day])::(br,Bl 168 arch)::(ba,Bl 162 [.slice a s.acs.length c])::(bd,Bl 165 (DU b s.nx))::(b,o)::ent a 43 full):=by rw [hS0]; exact H0
 have hn16:=(BZ.1 I.ok.ac).1;have hbdb:bd≠b:=H.ne (i:=3) (j:=4) rfl rfl (by decide);have hoth:EN s k={ s with ds:=I6 s.ds k.id false }:=by unfold EN; rw [if_neg (by omega),if_neg (by omega),if_neg (by omega),if_neg (by omega),if_neg (by omega),if_neg (by omega),if_pos hk]
 have hokS:({ s with ds:=I6 s.ds k.id false }:Ld).Ok:=by rw [← hoth]; exact J5 I.ok k hin.u.2
 have hstep:C6 s k { s with ds:=I6 s.ds k.id false } (rp [] (Mi s.ds k.id false)):=by
  unfold C6;rw [if_neg (by omega)];exact ⟨hoth.symm,by unfold Fq; rw [if_neg (by omega),if_neg (by omega),if_neg (by omega),if_neg (by omega),if_neg (by omega),if_neg (by omega),if_pos hk]⟩
 refine Aw (fn:=Tryz.f60) Tryz.func60 U [.pointer (some ⟨bl,0,none⟩),.agg (BV k).toArray] U (by kernel_rfl) ?_;refine Af (Bv (BV k) (.agg _) U U H ?_);rintro b3 w - H;refine A1 U (Ad U (Ab (Aa (Cq [([0,1,2,3,4,5],6),([7],8)] (fun z=>z.heap[b3]? = some (Bl 40 (BV k))∧z.heap[bl]? = some (Bl 106 [ptr ba,ptr bd,ptr br,.int .i64 s.day])) [6,8] Bs (by kernel_rfl) (⟨H.drew.get at0,H.drew.get at1⟩) ?_))));refine AF U U ?_;refine BD U (Bd U (An U EH U (B0 Fw U (fun _ hx=>(by rw [Aj hx.2]; rfl)) ?_)));refine An U Ky U (B0 B5 U (fun _ hx=>(by rw [Aj hx.1]; rfl)) ?_);refine AP ?_;replace H:=H.drew;refine Al Agy (Vw _ (H.get at4) (H.get at5) I.M hbdb I.ok.du) U ?_;rintro v w ⟨rfl,o',hM',H7⟩;replace H:=Ctx.mid (B:=[_,_,_,_,_]) (L:=[_]) H H7;refine Ab (Bz U (AF U U ?_));refine DB U (AP (Ad U (Ab (Bz U (BH (A4 (BL (v1:=(.slice _ _ _)) (v2:=(.int _ _)) U U U U ?_)))))));subst hS0
 exact DF (P:=[_]) (m':=⟨bl,ba,bd,br,b,a,c,full,o',arch⟩) (s':={ s with ds:=I6 s.ds k.id false }) I H (HS _) hstep I.O hM' hokS U U U U
set_option maxRecDepth 20000 in
set_option maxHeartbeats 1000000 in
theorem Vy {m:Lm} {s:Ld} {T:Nat→Prop} {k:Ak} (hk:k.kd=8) (hin:AkIn k) (w:World) (I:LdIn w m s T) (H0:Ctx w (CW m s) w (LL m s)) :
  Ret Tryz.prog 61 #[ptr m.bl,.agg (BV k).toArray] w (Gb w m s T k):=by
 obtain ⟨w0,rfl⟩:∃ w0,w0=w:=⟨_,rfl⟩;obtain ⟨bl,ba,bd,br,b,a,c,full,o,arch⟩:=m;obtain ⟨S0,hS0⟩:∃ S,S=CW ⟨bl,ba,bd,br,b,a,c,full,o,arch⟩ s:=⟨_,rfl⟩;have H:Ctx w0 S0 w0 ((bl,Bl 106 [ptr ba,ptr bd,ptr br,.int .i64 s.day])::(br,Bl 168 arch)::(ba,Bl 162 [.slice a s.acs.length c])::(bd,Bl 165 (DU b s.nx))::(b,o)::ent a 43 full):=by rw [hS0]; exact H0
 have hn16:=(BZ.1 I.ok.ac).1;have hbdb:bd≠b:=H.ne (i:=3) (j:=4) rfl rfl (by decide);have hoth:EN s k={ s with ds:=Sq s.ds k.id }:=by unfold EN; rw [if_neg (by omega),if_neg (by omega),if_neg (by omega),if_neg (by omega),if_neg (by omega),if_neg (by omega),if_neg (by omega),if_pos hk]
 have hokS:({ s with ds:=Sq s.ds k.id }:Ld).Ok:=by rw [← hoth]; exact J5 I.ok k hin.u.2
 have hstep:C6 s k { s with ds:=Sq s.ds k.id } (rp [] (PK s.ds k.id)):=by
  unfold C6;rw [if_neg (by omega)];exact ⟨hoth.symm,by unfold Fq; rw [if_neg (by omega),if_neg (by omega),if_neg (by omega),if_neg (by omega),if_neg (by omega),if_neg (by omega),if_neg (by omega),if_pos hk]⟩
 refine Aw (fn:=Tryz.f61) Tryz.func61 U [.pointer (some ⟨bl,0,none⟩),.agg (BV k).toArray] U (by kernel_rfl) ?_;refine Af (Bv (BV k) (.agg _) U U H ?_);rintro b3 w - H;refine A1 U (Ad U (Ab (Aa (Cq [([0,1,2,3,4,5],6),([7],8)] (fun z=>z.heap[b3]? = some (Bl 40 (BV k))∧z.heap[bl]? = some (Bl 106 [ptr ba,ptr bd,ptr br,.int .i64 s.day])) [6,8] Bs (by kernel_rfl) (⟨H.drew.get at0,H.drew.get at1⟩) ?_))));refine AF U U ?_;refine BD U (Bd U (An U EH U (B0 Fw U (fun _ hx=>(by rw [Aj hx.2]; rfl)) ?_)));refine An U Ky U (B0 B5 U (fun _ hx=>(by rw [Aj hx.1]; rfl)) ?_);refine AP ?_;replace H:=H.drew;refine Al Agz (XW _ (H.get at4) (H.get at5) I.M hbdb I.ok.du) U ?_;rintro v w ⟨rfl,o',hM',H7⟩;replace H:=Ctx.mid (B:=[_,_,_,_,_]) (L:=[_]) H H7;refine Ab (Bz U (AF U U ?_));refine DB U (AP (Ad U (Ab (Bz U (BH (A4 (BL (v1:=(.slice _ _ _)) (v2:=(.int _ _)) U U U U ?_)))))));subst hS0
 exact DF (P:=[_]) (m':=⟨bl,ba,bd,br,b,a,c,full,o',arch⟩) (s':={ s with ds:=Sq s.ds k.id }) I H (HS _) hstep I.O hM' hokS U U U U
set_option maxRecDepth 20000 in
set_option maxHeartbeats 1000000 in
theorem Ab2 {m:Lm} {s:Ld} {T:Nat→Prop} {k:Ak} (hk:k.kd=12) (_hin:AkIn k) (w:World) (I:LdIn w m s T) (H0:Ctx w (CW m s) w (LL m s)) :
  Ret Tryz.prog 64 #[ptr m.bl,.agg (BV k).toArray] w (Gb w m s T k):=by
 obtain ⟨w0,rfl⟩:∃ w0,w0=w:=⟨_,rfl⟩;obtain ⟨bl,ba,bd,br,b,a,c,full,o,arch⟩:=m;obtain ⟨S0,hS0⟩:∃ S,S=CW ⟨bl,ba,bd,br,b,a,c,full,o,arch⟩ s:=⟨_,rfl⟩;have H:Ctx w0 S0 w0 ((bl,Bl 106 [ptr ba,ptr bd,ptr br,.int .i64 s.day])::(br,Bl 168 arch)::(ba,Bl 162 [.slice a s.acs.length c])::(bd,Bl 165 (DU b s.nx))::(b,o)::ent a 43 full):=by rw [hS0]; exact H0
 have hn16:=(BZ.1 I.ok.ac).1;have hbdb:bd≠b:=H.ne (i:=3) (j:=4) rfl rfl (by decide)
 have hstep:C6 s k s (rp (PL s.acs k.a) (if (0:Int)=0∧inA s.acs k.a=false then 10 else 0)):=by
  unfold C6;rw [if_neg (by omega)];have hR:Fq s k=if inA s.acs k.a=true then ⟨0,PL s.acs k.a⟩ else ⟨10,[]⟩:=by unfold Fq; rw [if_neg (by omega),if_neg (by omega),if_neg (by omega),if_neg (by omega),if_neg (by omega),if_neg (by omega),if_neg (by omega),if_neg (by omega),if_neg (by omega),if_pos hk]
  refine ⟨by unfold EN; rw [if_neg (by omega),if_neg (by omega),if_neg (by omega),if_neg (by omega),if_neg (by omega),if_neg (by omega),if_neg (by omega),if_neg (by omega),if_neg (by omega)],?_⟩;rw [hR]
  cases inA s.acs k.a with
  | true=>rfl
  | false=>rfl
 refine Aw (fn:=Tryz.f64) Tryz.func64 U [.pointer (some ⟨bl,0,none⟩),.agg (BV k).toArray] U (by kernel_rfl) ?_;refine Af (Bv (BV k) (.agg _) U U H ?_);rintro b3 w - H;refine A1 U (Ad U (Ab (Aa (Af (Ay U (Ag FV U (AM Ca U H at0 U (Al Rt (NL k.a _ _ (H.get at1) (H.get at3) (OS.rd (t:=43) I.O (fun y hy=>H.blk y (List.mem_append_right [_,_,_,_,_,_] hy)) (fun _ _=>rfl) (by decide))) U ?_))))))));rintro v w ⟨a',c',rfl,F⟩;have H8:=H;replace H:=H.call F.ext;refine A6 U U (A6 U U (A1 U (Ad U (Ab (Aa (A4 (BL (v1:=(.slice _ _ _)) (v2:=(.int _ _)) U U U U ?_)))))));subst hS0;exact DF (P:=[_]) (m':=⟨bl,ba,bd,br,b,a,c,full,o,arch⟩) (s':=s) I H8 F hstep I.O I.M I.ok U U U U
def OpnR (w0:World) (S0:List Nat) (w:World) (s:Ld) (arch:List Value) (b3:Nat) (e3:List Value) (bl ba bd br b c:Nat) (a:Option Addr) (full:List Value) (o:Obj) (i' code:Int):Prop :=
 (16≤s.acs.length∧code=6∧Ctx w0 S0 w ((b3,Bl 40 e3)::(bl,Bl 106 [ptr ba,ptr bd,ptr br,.int .i64 s.day])::(br,Bl 168 arch)::LX ba a s.acs.length c full bd b s.nx o)) ∨
 (s.acs.length<16∧i'=(s.acs.length:Int)∧code=0∧∃ a' c' full',OS a' (s.acs++[a00]).length c' 2 full' ((s.acs++[a00]).flatMap CM)∧Ctx w0 S0 w ((b3,Bl 40 e3)::(bl,Bl 106 [ptr ba,ptr bd,ptr br,.int .i64 s.day])::(br,Bl 168 arch)::LX ba a' (s.acs++[a00]).length c' full' bd b s.nx o))
theorem Ab3 {w0 w w':World} {S0:List Nat} {s:Ld} {arch:List Value} {b3 bl ba bd br b c:Nat} {e3:List Value} {a:Option Addr} {full:List Value} {o:Obj} {v:Value} (H:Ctx w0 S0 w ((b3,Bl 40 e3)::(bl,Bl 106 [ptr ba,ptr bd,ptr br,.int .i64 s.day])::(br,Bl 168 arch)::LX ba a s.acs.length c full bd b s.nx o))
  (h:(16≤s.acs.length→v = .tuple #[.int .i64 0,.int .i64 6]∧Ctx w ((AL ba (bd,Bl 165 (DU b s.nx)) (b,o) a s.acs.length c full).map fun x=>x.1) w' (AL ba (bd,Bl 165 (DU b s.nx)) (b,o) a s.acs.length c full)) ∧
   (s.acs.length<16→v = .tuple #[.int .i64 (s.acs.length:Int),.int .i64 0]∧∃ a' c' full',OS a' (s.acs++[a00]).length c' 2 full' ((s.acs++[a00]).flatMap CM)∧Ctx w ((AL ba (bd,Bl 165 (DU b s.nx)) (b,o) a s.acs.length c full).map fun x=>x.1) w' (AL ba (bd,Bl 165 (DU b s.nx)) (b,o) a' (s.acs++[a00]).length c' full'))) :
  ∃ i' code,v = .tuple #[.int .i64 i',.int .i64 code]∧OpnR w0 S0 w' s arch b3 e3 bl ba bd br b c a full o i' code:=by
 have hb:∀ {L':List (Nat × Obj)},Ctx w ((AL ba (bd,Bl 165 (DU b s.nx)) (b,o) a s.acs.length c full).map fun x=>x.1) w' L'→Ctx w0 S0 w' ([(b3,Bl 40 e3),(bl,Bl 106 [ptr ba,ptr bd,ptr br,.int .i64 s.day]),(br,Bl 168 arch)]++L'):=fun {L'} h1=>(Ctx.back (L1:=AL ba (bd,Bl 165 (DU b s.nx)) (b,o) a s.acs.length c full) (L2:=[_,_,_]) (H.comm (L:=[_,_,_])) h1).comm
 rcases Nat.lt_or_ge s.acs.length 16 with h16 | h16
 ·obtain ⟨rfl,a',c',full',O',H1⟩:=h.2 h16;exact ⟨_,_,rfl,.inr ⟨h16,rfl,rfl,a',c',full',O',hb H1⟩⟩
 ·obtain ⟨rfl,H1⟩:=h.1 h16;exact ⟨_,_,rfl,.inl ⟨h16,rfl,hb H1⟩⟩
set_option maxRecDepth 20000 in
set_option maxHeartbeats 1000000 in
theorem Ab4 {m:Lm} {s:Ld} {T:Nat→Prop} {k:Ak} (hk:k.kd=1) (hin:AkIn k) (w:World) (I:LdIn w m s T) (H0:Ctx w (CW m s) w (LL m s)) :
  Ret Tryz.prog 54 #[ptr m.bl,.agg (BV k).toArray] w (Gb w m s T k):=by
 obtain ⟨w0,rfl⟩:∃ w0,w0=w:=⟨_,rfl⟩;obtain ⟨bl,ba,bd,br,b,a,c,full,o,arch⟩:=m;obtain ⟨S0,hS0⟩:∃ S,S=CW ⟨bl,ba,bd,br,b,a,c,full,o,arch⟩ s:=⟨_,rfl⟩;have H:Ctx w0 S0 w0 ((bl,Bl 106 [ptr ba,ptr bd,ptr br,.int .i64 s.day])::(br,Bl 168 arch)::(ba,Bl 162 [.slice a s.acs.length c])::(bd,Bl 165 (DU b s.nx))::(b,o)::ent a 43 full):=by rw [hS0]; exact H0
 have hn16:=(BZ.1 I.ok.ac).1;have hbdb:bd≠b:=H.ne (i:=3) (j:=4) rfl rfl (by decide)
 have hstep:∀ l,(s.acs.length<16→l=[(s.acs.length:Int)])→C6 s k (EN s k) (rp l (if s.acs.length<16 then 0 else 6)):=fun l hl=>by
  unfold C6;rw [if_neg (by omega)];refine ⟨rfl,?_⟩;unfold Fq;rw [if_pos hk]
  by_cases h:s.acs.length<16
  ·rw [if_pos h,hl h]
  ·rw [if_neg h,TV (by decide),TV (by decide)]
 have hokS:=J5 I.ok k hin.u.2;have hoth:EN s k=if s.acs.length<16 then { s with acs:=s.acs++[a00] } else s:=by unfold EN; rw [if_pos hk]
 refine Aw (fn:=Tryz.f54) Tryz.func54 U [.pointer (some ⟨bl,0,none⟩),.agg (BV k).toArray] U (by kernel_rfl) ?_;refine Af (Bv (BV k) (.agg _) U U H ?_);rintro b3 w - H;refine A1 U (Ad U (Ab (Aa (Af (Ay U (A9 U (Ag F3 U (AM Ig U H at1 U ?_))))))));have HL:=Ctx.lend (L1:=AL ba (bd,Bl 165 (DU b s.nx)) (b,o) a s.acs.length c full) (L2:=[(b3,Bl 40 (BV k)),(bl,Bl 106 [ptr ba,ptr bd,ptr br,.int .i64 s.day]),(br,Bl 168 arch)]) (H.comm (L:=[_,_,_]));refine Al Ags (XT HL I.O) U ?_;rintro v w hres;obtain ⟨i',code,rfl,hr⟩:∃ i' code,v = .tuple #[.int .i64 i',.int .i64 code]∧OpnR w0 S0 w s arch b3 (BV k) bl ba bd br b c a full o i' code:=Ab3 H hres;refine BM U (A6 U U (A6 U U (Ad U (Ad U (Ab (Aa (Af (Ae U ?_))))))));have H:=Ctx.start w [];refine Ct [.int .i64 i'] (.int .i64 i') Bg B6 EK U (by decide) (by decide) U U U H ?_;rintro b17 w2 - H17
 refine Ae U (A1 U (Ad U (Ab (Aa (A4 (BL (v1:=(.slice _ _ _)) (v2:=(.int _ _)) U U U U ?_))))));subst hS0
 rcases hr with ⟨h16,rfl,H1⟩ | ⟨h16,rfl,rfl,a',c',full',O',H1⟩
 ·rw [hoth,if_neg (by omega)] at hokS hstep;rw [if_neg (by omega)] at hstep;exact DF (P:=[_]) (m':=⟨bl,ba,bd,br,b,a,c,full,o,arch⟩) (s':=s) (l:=[i']) I H1 (Gs (n:=1) (l:=[Ee i']) H17 U) (hstep [i'] fun h=>by omega) I.O I.M I.ok U U U U
 ·rw [hoth,if_pos h16] at hokS hstep;rw [if_pos h16] at hstep;exact DF (P:=[_]) (m':=⟨bl,ba,bd,br,b,a',c',full',o,arch⟩) (s':={ s with acs:=s.acs++[a00] }) (l:=[(s.acs.length:Int)]) I H1 (Gs (n:=1) (l:=[Ee (s.acs.length:Int)]) H17 U) (hstep [_] fun _=>rfl) O' I.M hokS U U U U
end Go.Proofs.YtdagmpmdcgedcaaGreat
namespace Go.Proofs.YtdagmpmdcgedcaaGreat
open Go.GV
attribute [local irreducible] AB W Wq Wt
set_option maxRecDepth 20000 in
set_option maxHeartbeats 1000000 in
theorem Ae1 {m:Lm} {s:Ld} {T:Nat→Prop} {k:Ak} (hk:k.kd=5) (hin:AkIn k) (w:World) (I:LdIn w m s T) (H0:Ctx w (CW m s) w (LL m s)) :
  Ret Tryz.prog 58 #[ptr m.bl,.agg (BV k).toArray] w (Gb w m s T k):=by
 obtain ⟨w0,rfl⟩:∃ w0,w0=w:=⟨_,rfl⟩;obtain ⟨bl,ba,bd,br,b,a,c,full,o,arch⟩:=m;obtain ⟨S0,hS0⟩:∃ S,S=CW ⟨bl,ba,bd,br,b,a,c,full,o,arch⟩ s:=⟨_,rfl⟩;have H:Ctx w0 S0 w0 ((bl,Bl 106 [ptr ba,ptr bd,ptr br,.int .i64 s.day])::(br,Bl 168 arch)::(ba,Bl 162 [.slice a s.acs.length c])::(bd,Bl 165 (DU b s.nx))::(b,o)::ent a 43 full):=by rw [hS0]; exact H0
 have hn16:=(BZ.1 I.ok.ac).1;have hbdb:bd≠b:=H.ne (i:=3) (j:=4) rfl rfl (by decide);have hS:EN s k=if (inA s.acs k.a && inA s.acs k.b)=true∧s.day≤k.u then { s with ds:=MR s.ds s.nx k.a k.b k.x k.w k.u,nx:=Pt s.ds s.nx k.a k.b k.x k.w k.u } else s:=by unfold EN; rw [if_neg (by omega),if_neg (by omega),if_neg (by omega),if_neg (by omega),if_pos hk]
 have hR:Fq s k=if (inA s.acs k.a && inA s.acs k.b)=false then ⟨10,[]⟩ else if k.u<s.day then ⟨1,[]⟩ else rp [IntKind.i64.wrap s.nx] (J4 s.ds s.nx k.a k.b k.x k.w k.u):=by unfold Fq; rw [if_neg (by omega),if_neg (by omega),if_neg (by omega),if_neg (by omega),if_pos hk]
 have hstep:∀ s' p,EN s k=s'→Fq s k=p→C6 s k s' p:=fun s' p h1 h2=>by
  unfold C6;rw [if_neg (by omega)];exact ⟨h1.symm,h2.symm⟩
 have hokS:=J5 I.ok k hin.u.2;obtain ⟨-,hnx,-,-⟩:=Ep I.ok.du;have hw:IntKind.i64.wrap s.nx=s.nx:=CJ (show (-9223372036854775808:Int)≤s.nx by omega) (show s.nx≤(9223372036854775807:Int) by omega);refine Aw (fn:=Tryz.f58) Tryz.func58 U [.pointer (some ⟨bl,0,none⟩),.agg (BV k).toArray] U (by kernel_rfl) ?_;refine Af (Bv (BV k) (.agg _) U U H ?_);rintro b3 w - H;refine A1 U (Ad U (Ab (Aa (Aq (A0 (Af (BU (α:=Unit) 2096896 (fun _=>[(8,.bool (!(inA s.acs k.a && inA s.acs k.b)))]) (fun _ w'=>Ctx w0 S0 w' ([(b3,Bl 40 (BV k)),(bl,Bl 106 [ptr ba,ptr bd,ptr br,.int .i64 s.day]),(br,Bl 168 arch),(ba,Bl 162 [.slice a s.acs.length c]),(bd,Bl 165 (DU b s.nx)),(b,o)]++ent a 43 full)) U ?_ ?_)))))))
 ·refine Ay U (Ag FV U (AM Ca U H at0 U (Al VM (Mj k.a _ (H.get at1) (H.get at3) (OS.rd (t:=43) I.O (fun y hy=>H.blk y (List.mem_append_right [_,_,_,_,_,_] hy)) (fun _ _=>rfl) (by decide))) U ?_)));rintro v w ⟨rfl,hxb⟩;replace H:=H.call hxb;refine BA U (AE U (AY 14 U ?_ ?_))
  ·intro h1;replace h1:=BE h1;refine Ah U (Ah U (Ah U (Ah U (Ah U (AN U (.bool _) U (Ai U (Ab ?_)))))));exact ⟨rfl,(),rfl,⟨congrArg Value.bool (by cases h1:inA s.acs k.a <;> cases h2:inA s.acs k.b <;> simp_all),trivial⟩,H⟩
  ·intro h2;replace h2:=BF h2;refine Ay U (Ag RC U (AM Ca U H at0 U (Al VM (Mj k.b _ (H.get at1) (H.get at3) (OS.rd (t:=43) I.O (fun y hy=>H.blk y (List.mem_append_right [_,_,_,_,_,_] hy)) (fun _ _=>rfl) (by decide))) U ?_)));rintro v w ⟨rfl,hxb⟩;replace H:=H.call hxb;refine BA U (AU U (.bool _) U (Ai U (Ab ?_)));exact ⟨rfl,(),rfl,⟨congrArg Value.bool (by cases h1:inA s.acs k.a <;> cases h2:inA s.acs k.b <;> simp_all),trivial⟩,H⟩
 rintro - j8 w H;refine Ap _ U ?_ ?_
 ·intro h1;replace h1:=BE h1;replace h1:(inA s.acs k.a && inA s.acs k.b)=false:=by revert h1; cases (inA s.acs k.a && inA s.acs k.b) <;> simp
  refine Af (A1 U (Ad U (Ab (Aa (A4 (AA (Ao (BL (v1:=(.slice _ _ _)) (v2:=(.int _ _)) U U U U ?_))))))));subst hS0;exact DF (P:=[_]) (m':=⟨bl,ba,bd,br,b,a,c,full,o,arch⟩) (s':=s) (l:=[]) (code:=10) I H (HS _) (hstep _ _ (by rw [hS,if_neg (by rw [h1]; simp)]) (by rw [hR,if_pos h1]; rfl)) I.O I.M I.ok U U U U
 ·intro h1;replace h1:=BF h1;replace h1:(inA s.acs k.a && inA s.acs k.b)=true:=by revert h1; cases (inA s.acs k.a && inA s.acs k.b) <;> simp
  refine Er (fun x=>x=_) Bs (by kernel_rfl) U ?_;refine A7 LI U (Cn Bw U (by rintro _ rfl; exact H.drew) at0 U ?_);refine B4 U (Bb U (A7 JT U (Cn Bw U (by rintro _ rfl; exact H.drew) at1 U ?_)));refine KI U U (Mz U U (BW ?_));rintro _ rfl;replace H:=H.drew;refine Ap _ U ?_ ?_
  ·intro h2;replace h2:=AJ h2;refine Af (A1 U (Ad U (Ab (Aa (A4 (AA (Ao (BL (v1:=(.slice _ _ _)) (v2:=(.int _ _)) U U U U ?_))))))));subst hS0;exact DF (P:=[_]) (m':=⟨bl,ba,bd,br,b,a,c,full,o,arch⟩) (s':=s) (l:=[]) (code:=1) I H (HS _) (hstep _ _ (by rw [hS,if_neg (fun h=>by omega)]) (by rw [hR,if_neg (by rw [h1]; decide),if_pos h2]; rfl)) I.O I.M I.ok U U U U
  ·intro h2;replace h2:=AK h2;rw [hS,if_pos ⟨h1,by omega⟩] at hokS;obtain ⟨y,hy,hy0⟩:∃ y,(if J4 s.ds s.nx k.a k.b k.x k.w k.u=0 then s.nx else 0)=y∧0≤y∧y≤4611686018427387904:=⟨_,rfl,by split <;> omega,by split <;> omega⟩
   have hst:C6 s k { s with ds:=MR s.ds s.nx k.a k.b k.x k.w k.u,nx:=Pt s.ds s.nx k.a k.b k.x k.w k.u } (rp [y] (J4 s.ds s.nx k.a k.b k.x k.w k.u)):=hstep _ _ (by rw [hS,if_pos ⟨h1,by omega⟩]) (by
    rw [hR,if_neg (by rw [h1]; decide),if_neg h2,hw]
    by_cases h0:J4 s.ds s.nx k.a k.b k.x k.w k.u=0
    ·rw [if_pos h0] at hy; rw [hy]
    ·rw [TV h0,TV h0])
   refine Au (A5 (Aa (Cq [([0,1,2,3,4,5,6,7,8,9,10,11,12,13],14),([15,16,17,18],19)] (fun z=>z.heap[b3]? = some (Bl 40 (BV k))∧z.heap[bl]? = some (Bl 106 [ptr ba,ptr bd,ptr br,.int .i64 s.day])) [14,19] Bs (by kernel_rfl) (⟨H.drew.get at0,H.drew.get at1⟩) ?_)));refine AF U U ?_;refine BD U (Bd U (An U EH U (B0 Fw U (fun _ hx=>(by rw [Aj hx.2]; rfl)) ?_)));refine An U FV U (B0 Ca U (fun _ hx=>(by rw [Aj hx.1]; rfl)) ?_);refine An U RC U (B0 Ca U (fun _ hx=>(by rw [Aj hx.1]; rfl)) ?_);refine An U ND U (B0 Bw U (fun _ hx=>(by rw [Aj hx.1]; rfl)) ?_);refine An U Ade U (B0 Bw U (fun _ hx=>(by rw [Aj hx.1]; rfl)) ?_);refine An U LI U (B0 Bw U (fun _ hx=>(by rw [Aj hx.1]; rfl)) ?_);refine AP ?_;replace H:=H.drew;refine Al Agw (Abx k.a k.b k.x k.w k.u _ (H.get at4) (H.get at5) I.M hbdb I.ok.du) U ?_;rintro v w ⟨rfl,o',hM',H7⟩;rw [hy]
   replace H:=Ctx.mid (B:=[_,_,_,_]) (L:=[_,_]) H H7;refine Ab (Bz U (AF U U ?_));refine DA U (Bu U U (Bu U U (Kw U U (AP (Ad U (Ab (Bz U (BH (Af (Ae U ?_))))))))));refine G3 U U EV Xh ?_;have H17:=Ctx.start w [];refine Ct [.int .i64 y] (.int .i64 y) Bg B6 EK U (by decide) (by decide) U U U H17 ?_;rintro b49 w2 - H17;refine Ae U (A1 U (Ad U (Ab (Aa (A4 (BL (v1:=(.slice _ _ _)) (v2:=(.int _ _)) U U U U ?_))))));subst hS0;exact DF (P:=[_]) (m':=⟨bl,ba,bd,br,b,a,c,full,o',arch⟩) (s':={ s with ds:=MR s.ds s.nx k.a k.b k.x k.w k.u,nx:=Pt s.ds s.nx k.a k.b k.x k.w k.u }) (l:=[y]) I H (Gs (n:=1) (l:=[Ee y]) H17 U) hst I.O hM' hokS U U U U
set_option maxRecDepth 20000 in
set_option maxHeartbeats 1000000 in
theorem Ab5 {m:Lm} {s:Ld} {T:Nat→Prop} {k:Ak} (hk:k.kd=9) (hin:AkIn k) (w:World) (I:LdIn w m s T) (H0:Ctx w (CW m s) w (LL m s)) :
  Ret Tryz.prog 62 #[ptr m.bl,.agg (BV k).toArray] w (Gb w m s T k):=by
 obtain ⟨w0,rfl⟩:∃ w0,w0=w:=⟨_,rfl⟩;obtain ⟨bl,ba,bd,br,b,a,c,full,o,arch⟩:=m;obtain ⟨S0,hS0⟩:∃ S,S=CW ⟨bl,ba,bd,br,b,a,c,full,o,arch⟩ s:=⟨_,rfl⟩;have H:Ctx w0 S0 w0 ((bl,Bl 106 [ptr ba,ptr bd,ptr br,.int .i64 s.day])::(br,Bl 168 arch)::(ba,Bl 162 [.slice a s.acs.length c])::(bd,Bl 165 (DU b s.nx))::(b,o)::ent a 43 full):=by rw [hS0]; exact H0
 have hn16:=(BZ.1 I.ok.ac).1;have hbdb:bd≠b:=H.ne (i:=3) (j:=4) rfl rfl (by decide);have hS:EN s k=if s.day≤k.u then { s with day:=k.u,ds:=MS s.ds k.u } else s:=by unfold EN; rw [if_neg (by omega),if_neg (by omega),if_neg (by omega),if_neg (by omega),if_neg (by omega),if_neg (by omega),if_neg (by omega),if_neg (by omega),if_pos hk]
 have hR:Fq s k=if k.u<s.day then ⟨3,[]⟩ else ⟨0,[((s.ds.length - (MS s.ds k.u).length:Nat):Int)]⟩:=by unfold Fq; rw [if_neg (by omega),if_neg (by omega),if_neg (by omega),if_neg (by omega),if_neg (by omega),if_neg (by omega),if_neg (by omega),if_neg (by omega),if_pos hk]
 have hstep:∀ s' p,EN s k=s'→Fq s k=p→C6 s k s' p:=fun s' p h1 h2=>by
  unfold C6;rw [if_neg (by omega)];exact ⟨h1.symm,h2.symm⟩
 have hokS:=J5 I.ok k hin.u.2;refine Aw (fn:=Tryz.f62) Tryz.func62 U [.pointer (some ⟨bl,0,none⟩),.agg (BV k).toArray] U (by kernel_rfl) ?_;refine Af (Bv (BV k) (.agg _) U U H ?_);rintro b3 w - H;refine A1 U (Ad U (Ab (Aa (Aq (Er (fun x=>x=_) Bs (by kernel_rfl) U ?_)))));refine A7 LI U (Cn Bw U (by rintro _ rfl; exact H.drew) at0 U ?_);refine B4 U (Bb U (A7 JT U (Cn Bw U (by rintro _ rfl; exact H.drew) at1 U ?_)));refine KI U U (BW ?_);rintro _ rfl;replace H:=H.drew;refine Ap _ U ?_ ?_
 ·intro h1;replace h1:=AJ h1;refine Af (A1 U (Ad U (Ab (Aa (A4 (Ao (BL (v1:=(.slice _ _ _)) (v2:=(.int _ _)) U U U U ?_)))))));subst hS0;exact DF (P:=[_]) (m':=⟨bl,ba,bd,br,b,a,c,full,o,arch⟩) (s':=s) (l:=[]) (code:=3) I H (HS _) (hstep _ _ (by rw [hS,if_neg (by omega)]) (by rw [hR,if_pos h1]; rfl)) I.O I.M I.ok U U U U
 ·intro h1;replace h1:=AK h1;rw [hS,if_pos (by omega)] at hokS;refine Au (Aa (Af (Ay U (Ag LI U (AM Bw U H at0 U (A9 U (Ag JT U (Cp (.int _ _) B6 U U U H at1 (by (simp; done)) ?_))))))));rintro w H;refine Ab (Aa (Eb 6 Bs (by kernel_rfl) U U ?_));refine B4 U (Bb U (A7 EH U (Cn Fw U (by rintro _ rfl; exact H.drew) at1 U ?_)));refine A7 LI U (Cn Bw U (by rintro _ rfl; exact H.drew) at0 U ?_);refine BW ?_;replace H:=H.drew;refine Al Ag0 (XX (u:=k.u) _ (H.get at4) (H.get at5) I.M hbdb I.ok.du) U ?_;rintro v w ⟨o',hM',H7,a7,c7,rfl⟩;replace H:=Ctx.mid (B:=[_,_,_,_,_]) (L:=[_]) H H7;refine Bi Bx U ?_;have H17:=Ctx.start w [];refine Ct [.int .i64 ((s.ds.length - (MS s.ds k.u).length:Nat):Int)] (.int .i64 _) Bg B6 EK U (by decide) (by decide) U U U H17 ?_;rintro b26 w2 - H17;refine A1 U (Ad U (Ab (Aa (A4 (BL (v1:=(.slice _ _ _)) (v2:=(.int _ _)) U U U U ?_)))))
  subst hS0;exact DF (P:=[_]) (m':=⟨bl,ba,bd,br,b,a,c,full,o',arch⟩) (s':={ s with day:=k.u,ds:=MS s.ds k.u }) (l:=[((s.ds.length - (MS s.ds k.u).length:Nat):Int)]) (code:=0) I H (Gs (n:=1) (l:=[Ee ((s.ds.length - (MS s.ds k.u).length:Nat):Int)]) H17 U) (hstep _ _ (by rw [hS,if_pos (by omega)]) (by rw [hR,if_neg h1]; rfl)) I.O hM' hokS U U U U
end Go.Proofs.YtdagmpmdcgedcaaGreat
namespace Go.Proofs.YtdagmpmdcgedcaaGreat
open Go.GV
attribute [local irreducible] AB W Wq Wt
theorem WB (b:Bool) (w:World):Ret Tryz.prog 119 #[.bool b] w fun v w'=>v = .int .i64 (Nv b)∧w=w':=by
 obtain ⟨w0,rfl⟩:∃ w0,w0=w:=⟨_,rfl⟩;refine Aw (fn:=Tryz.f119) Tryz.func119 U [.bool b] U (by kernel_rfl) ?_;refine Af (Ad U (Ab (Aa (Aq (Af (AE U (Ab (Aa (Ap _ U ?_ ?_)))))))))
 ·intro h1;refine Af (Ad U (Ab (Aa (A4 (Ao (AD (v:=(.int _ _)) U U U ?_))))));exact ⟨by rw [show b=true by simpa using h1]; rfl,rfl⟩
 ·intro h1;refine Au (Aa (Af (Ad U (Ab (Aa (A4 (AD (v:=(.int _ _)) U U U ?_)))))));exact ⟨by rw [show b=false by simpa using h1]; rfl,rfl⟩
set_option maxRecDepth 20000 in
set_option maxHeartbeats 1000000 in
theorem Ae2 {m:Lm} {s:Ld} {T:Nat→Prop} {k:Ak} (hk:k.kd=14) (_hin:AkIn k) (w:World) (I:LdIn w m s T) (H0:Ctx w (CW m s) w (LL m s)) :
  Ret Tryz.prog 66 #[ptr m.bl,.agg (BV k).toArray] w (Gb w m s T k):=by
 obtain ⟨w0,rfl⟩:∃ w0,w0=w:=⟨_,rfl⟩;obtain ⟨bl,ba,bd,br,b,a,c,full,o,arch⟩:=m;obtain ⟨S0,hS0⟩:∃ S,S=CW ⟨bl,ba,bd,br,b,a,c,full,o,arch⟩ s:=⟨_,rfl⟩;have H:Ctx w0 S0 w0 ((bl,Bl 106 [ptr ba,ptr bd,ptr br,.int .i64 s.day])::(br,Bl 168 arch)::(ba,Bl 162 [.slice a s.acs.length c])::(bd,Bl 165 (DU b s.nx))::(b,o)::ent a 43 full):=by rw [hS0]; exact H0
 have hn16:=(BZ.1 I.ok.ac).1;have hbdb:bd≠b:=H.ne (i:=3) (j:=4) rfl rfl (by decide);have hR0:CN s.ds k.id=none→Fq s k=⟨11,[]⟩:=fun h=>by unfold Fq; rw [if_neg (by omega),if_neg (by omega),if_neg (by omega),if_neg (by omega),if_neg (by omega),if_neg (by omega),if_neg (by omega),if_neg (by omega),if_neg (by omega),if_neg (by omega),if_neg (by omega),if_pos hk,h]
 have hR1:∀ d,CN s.ds k.id=some d→Fq s k=⟨0,[d.fr,d.to,d.am,d.we,d.un,Nv d.held]⟩:=fun d h=>by unfold Fq; rw [if_neg (by omega),if_neg (by omega),if_neg (by omega),if_neg (by omega),if_neg (by omega),if_neg (by omega),if_neg (by omega),if_neg (by omega),if_neg (by omega),if_neg (by omega),if_neg (by omega),if_pos hk,h]
 have hS:EN s k=s:=by unfold EN; rw [if_neg (by omega),if_neg (by omega),if_neg (by omega),if_neg (by omega),if_neg (by omega),if_neg (by omega),if_neg (by omega),if_neg (by omega),if_neg (by omega)]
 have hstep:∀ p,Fq s k=p→C6 s k s p:=fun p h2=>by
  unfold C6;rw [if_neg (by omega)];exact ⟨hS.symm,h2.symm⟩
 have hD:LY s.ds k.id=(CN s.ds k.id).getD d00:=rfl;refine Aw (fn:=Tryz.f66) Tryz.func66 U [.pointer (some ⟨bl,0,none⟩),.agg (BV k).toArray] U (by kernel_rfl) ?_;refine Af (Bv (BV k) (.agg _) U U H ?_);rintro b3 w - H;refine A1 U (Ad U (Ab (Aa (DC 262080 (α:=Nat) (fun z=>[(6,ptr z),(7,.bool (CN s.ds k.id).isSome)]) (fun z w'=>Ctx w0 S0 w' ((z,Bl 67 (CO (LY s.ds k.id)))::(b3,Bl 40 (BV k))::(bl,Bl 106 [ptr ba,ptr bd,ptr br,.int .i64 s.day])::(br,Bl 168 arch)::(ba,Bl 162 [.slice a s.acs.length c])::(bd,Bl 165 (DU b s.nx))::(b,o)::ent a 43 full)) U ?_ ?_))))
 ·skip
  refine NW (.two [0,1,2,3,4,5] 6 (.one [7,8,9] 10 (.one [] 11 (.one [] 12 .stop))) 10 (.one [] 6 (.one [7,8,9] 11 (.one [] 12 .stop)))) (fun z=>z.heap[b3]? = some (Bl 40 (BV k))∧z.heap[bl]? = some (Bl 106 [ptr ba,ptr bd,ptr br,.int .i64 s.day])) Bs (by kernel_rfl) (⟨H.drew.get at0,H.drew.get at1⟩) ?_;refine It U U U ?_;refine BD U (Bd U (An U EH U (B0 Fw U (fun _ hx=>(by rw [Aj hx.2]; rfl)) ?_)));refine An U Ky U (B0 B5 U (fun _ hx=>(by rw [Aj hx.1]; rfl)) ?_);refine AP ?_;replace H:=H.drew;refine ⟨?_,?_⟩
  ·skip
   refine Al UG (Sj _ (H.get at4) (H.get at5) I.M) U ?_;rintro v w ⟨rfl,hx15⟩;replace H:=H.call hx15;refine Ab (BP (by exact ⟨H.get at0,H.get at1⟩) ?_);refine BO U U ?_;refine DA U (Bu U U (Bu U U (AP (AX Eu H ?_))));rintro b6 w - H;refine Ab (BP (by exact ⟨H.get at1,H.get at2⟩) ?_);refine BO U U ?_;refine AP (Bm Ci U U U (by exact CQ _) H at0 U ?_);rintro w H;refine Ab (BP (by exact ⟨H.get at1,H.get at2⟩) ?_);refine BO U U ?_;refine AP (Ai U (Ab (BP (by exact ⟨H.get at1,H.get at2⟩) ?_)));refine DT ?_;refine Aa ?_;exact ⟨b6,rfl,⟨rfl,rfl,trivial⟩,H⟩
  ·skip
   refine AX Eu H ?_;rintro b6 w - H;refine Ab (BP (by exact ⟨H.get at1,H.get at2⟩) ?_);refine BO U U ?_;refine AP (Al UG (Sj _ (H.get at5) (H.get at6) I.M) U ?_);rintro v w ⟨rfl,hx15⟩;replace H:=H.call hx15;refine Ab (BP (by exact ⟨H.get at1,H.get at2⟩) ?_);refine BO U U ?_;refine DA U (Bu U U (Bu U U (AP (Bm Ci U U U (by exact CQ _) H at0 U ?_))));rintro w H;refine Ab (BP (by exact ⟨H.get at1,H.get at2⟩) ?_);refine BO U U ?_;refine AP (Ai U (Ab (BP (by exact ⟨H.get at1,H.get at2⟩) ?_)));refine DT ?_;refine Aa ?_;exact ⟨b6,rfl,⟨rfl,rfl,trivial⟩,H⟩
 ·rintro b6 j7 w H;refine Aq (Af (AE U (BA U (Ab (Aa (Ap _ U ?_ ?_))))))
  ·intro h1;replace h1:=BE h1
   have hf:CN s.ds k.id=none:=by cases hh:CN s.ds k.id with | none=>rfl | some d=>rw [hh] at h1; cases h1
   refine Af (A1 U (Ad U (Ab (Aa (A4 (Ao (BL (v1:=(.slice _ _ _)) (v2:=(.int _ _)) U U U U ?_)))))));subst hS0;exact DF (P:=[_,_]) (m':=⟨bl,ba,bd,br,b,a,c,full,o,arch⟩) (s':=s) (l:=[]) (code:=11) I H (HS _) (hstep _ (by rw [hR0 hf]; rfl)) I.O I.M I.ok U U U U
  ·intro h1;replace h1:=BF h1
   obtain ⟨d,hf⟩:∃ d,CN s.ds k.id=some d:=by cases hh:CN s.ds k.id with | some d=>exact ⟨d,rfl⟩ | none=>rw [hh] at h1; cases h1
   rw [hD,hf] at H
   change Ctx w0 S0 w ((b6,Bl 67 (CO d))::(b3,Bl 40 (BV k))::(bl,Bl 106 [ptr ba,ptr bd,ptr br,.int .i64 s.day])::(br,Bl 168 arch)::(ba,Bl 162 [.slice a s.acs.length c])::(bd,Bl 165 (DU b s.nx))::(b,o)::ent a 43 full) at H
   refine Au (Aa (Cq [([0,1,2,3,4,5,6,7,8,9,10,11],12),([],13),([14],15)] (fun z=>z.heap[b6]? = some (Bl 67 (CO d))) [] Bs (by kernel_rfl) (H.drew.get at0) ?_));refine AF U U ?_;refine An U Gz U (B0 Ca U (fun _ hx=>(by rw [Aj hx]; rfl)) ?_);refine An U Ih U (B0 Ca U (fun _ hx=>(by rw [Aj hx]; rfl)) ?_);refine An U Eo U (B0 Bw U (fun _ hx=>(by rw [Aj hx]; rfl)) ?_);refine An U LM U (B0 Bw U (fun _ hx=>(by rw [Aj hx]; rfl)) ?_);refine An U RG U (B0 Bw U (fun _ hx=>(by rw [Aj hx]; rfl)) ?_);refine An U Ii U (B0 JQ U (fun _ hx=>(by rw [Aj hx]; rfl)) ?_);refine AP ?_;replace H:=H.drew;refine Al YI (WB d.held _) U ?_;rintro v w ⟨rfl,rfl⟩;refine Ab (BR (H.get at0) (AF U U ?_));refine AP (D9 ([d.fr,d.to,d.am,d.we,d.un,Nv d.held].map Ee) Bg B6 EK (by decide) (by decide) (by kernel_rfl) (Ctx.start _ []) ?_);rintro b33 w2 - H17;refine Ab (BR (H17.ext.to (H.get at0) (by simp)) ?_)
   refine AF U U ?_;refine DB U (AP (Ad U (Ab (BR (H17.ext.to (H.get at0) (by simp)) ?_))));refine BH (A4 (BL (v1:=(.slice _ _ _)) (v2:=(.int _ _)) U U U U ?_));subst hS0;exact DF (P:=[_,_]) (m':=⟨bl,ba,bd,br,b,a,c,full,o,arch⟩) (s':=s) (l:=[d.fr,d.to,d.am,d.we,d.un,Nv d.held]) (code:=0) I H (Gs (n:=6) H17 U) (hstep _ (by rw [hR1 d hf]; rfl)) I.O I.M I.ok U U U U
end Go.Proofs.YtdagmpmdcgedcaaGreat
namespace Go.Proofs.YtdagmpmdcgedcaaGreat
open Go.GV
attribute [local irreducible] AB W Wq Wt
theorem Mk {α:Type} {enc:α→List Value} {s:Nat} {t:TypeId} {xs:List α} {w w':World} {v:Value} (F:Fresh w w' t s v (xs.flatMap enc)) (hs:∀ x∈xs,(enc x).length=s) (h0:0<s):∃ a c,v = .slice a xs.length c∧Rd w' a s enc xs∧(xs≠[]→w.heap.size≤(adr a).block)∧xs.length≤c∧Ext [] w w':=by
 obtain ⟨a,n,c,f,rfl,O,hb⟩:=F.ex;obtain rfl:=O.numN hs h0;refine ⟨a,c,rfl,OS.rd O (fun x hx=>(hb x hx).1) hs h0,fun hne=>?_,O.le,F.ext⟩;obtain ⟨q,rfl⟩:=O.form (List.length_pos_iff.2 hne);exact (hb (q,Bl t f) (List.mem_singleton.2 U)).2
theorem Ab6 (l:List Int):∀ v∈l.map GG,AO v=true:=fun v hv=>by
 obtain ⟨x,_,rfl⟩:=List.mem_map.1 hv; rfl
theorem XZ (a:Option Addr) (n c:Nat) (xs:List Int) (w:World) (R:Rd w a 1 U1 xs) (hn:xs.length=n)  (hm:n≤1000000000:=by omega):
  Ret Tryz.prog 164 #[.slice a n c] w fun v w'=>Fresh w w' 28 1 v (xs.map GG):=by
 subst hn;obtain ⟨w0,rfl⟩:∃ w0,w0=w:=⟨_,rfl⟩;have H:=Ctx.start w0 [];refine Aw (fn:=Tryz.f164) Tryz.func164 U [.slice a xs.length c] U (by kernel_rfl) ?_;refine Af (A1 U (Ab (Aa (Aq (Af (A3 U (IB U Bx U (Ab (Aa (Ap _ U ?_ ?_))))))))))
 ·intro h1;have ha:a=none:=by simpa using h1
  subst ha
  have hxs:xs=[]:=by
   cases xs with
   | nil=>rfl
   | cons x xs=>obtain ⟨b,o,h⟩:=R.some' (by simp); cases h
  subst hxs;refine Af (A1 U (Ab (Aa (A4 (Ao (AD (v:=(.slice _ _ _)) U U U ?_))))));exact Fresh.nil H _ _
 ·intro h1;refine Au (Aa (Af (Hd U Bx Bp H ?_)));rintro b5 w H O;refine A3 U (Hb U Bx Bx Bp VJ ON U (by decide) (xs.map GG) U U H O (by simp) (Ab6 xs) (Rd.app1 (f:=GG) (R.ext0 H.ext)) ?_);rintro a7 c7 full7 w H O;refine A1 U (Ab (Aa (A4 (AD (v:=(.slice _ _ _)) U U U ?_))));exact H.fresh O
theorem Ya (es:List Ed):(es.flatMap CI).length=es.length*4:=by
 induction es with
 | nil=>rfl
 | cons e es ih =>
  rw [List.flatMap_cons,List.length_append,ih];show 4+es.length*4=(es.length+1)*4;omega
theorem Yb (es:List Ed):∀ v∈es.flatMap CI,AO v=true:=fun v hv=>by
 obtain ⟨e,_,he⟩:=List.mem_flatMap.1 hv;simp only [CI,List.mem_cons,List.not_mem_nil,or_false] at he
 rcases he with rfl | rfl | rfl | rfl <;> rfl
theorem Yc (a:Option Addr) (n c:Nat) (es:List Ed) (w:World) (R:Rd w a 4 CI es) (hn:es.length=n)  (hm:n≤1000000000:=by omega):
  Ret Tryz.prog 165 #[.slice a n c] w fun v w'=>Fresh w w' 59 4 v (es.flatMap CI):=by
 subst hn;obtain ⟨w0,rfl⟩:∃ w0,w0=w:=⟨_,rfl⟩;have H:=Ctx.start w0 [];refine Aw (fn:=Tryz.f165) Tryz.func165 U [.slice a es.length c] U (by kernel_rfl) ?_;refine Af (A1 U (Ab (Aa (Aq (Af (A3 U (IB U Ds U (Ab (Aa (Ap _ U ?_ ?_))))))))))
 ·intro h1;have ha:a=none:=by simpa using h1
  subst ha
  have hxs:es=[]:=by
   cases es with
   | nil=>rfl
   | cons x xs=>obtain ⟨b,o,h⟩:=R.some' (by simp); cases h
  subst hxs;refine Af (A1 U (Ab (Aa (A4 (Ao (AD (v:=(.slice _ _ _)) U U U ?_))))));exact Fresh.nil H _ _
 ·intro h1;refine Au (Aa (Af (Hd U Ds Dp H ?_)));rintro b5 w H O;refine A3 U (Hb U Ds Ds Dp YE Ht U (by decide) (es.flatMap CI) U U H O (Ya es) (Yb es) ((R.ext0 H.ext).app (fun _ _=>rfl) (by omega)) ?_);rintro a7 c7 full7 w H O;refine A1 U (Ab (Aa (A4 (AD (v:=(.slice _ _ _)) U U U ?_))));exact H.fresh O
set_option maxRecDepth 20000 in
set_option maxHeartbeats 2000000 in
theorem WC (r:Rnd) (q:RSl) (w:World) (RA:RAt w r q) (hr:RBnd r):Ret Tryz.prog 135 #[.agg (BK r q).toArray] w fun v w'=>v = .bool (N6 r)∧Ext [] w w':=by
 obtain ⟨w0,rfl⟩:∃ w0,w0=w:=⟨_,rfl⟩;have H:=Ctx.start w0 [];obtain ⟨ck,hck⟩:∃ ck,ck=Fy r.N r.es r.fl r.pot:=⟨_,rfl⟩;have hmr:N6 r=(ck && (decide (r.ids.length≤64) && decide (0≤r.day))):=by unfold N6; rw [← hck]
 refine Aw (fn:=Tryz.f135) Tryz.func135 U [.agg (BK r q).toArray] U (by kernel_rfl) ?_;refine Af (Bv (BK r q) (.agg _) U U H ?_);rintro b1 w - H;refine Ai U (Ab (Aa (Af (Ag F9 U (Cj _ Df CL U U ((Dr (b:=b1) (t:=55) (l:=BK r q) (H.get at0) 4 [.int .i64 r.N,.slice q.aE r.es.length q.cE] U)) ?_)))));refine Ag Gx U (Cj _ Tk Ng U U ((Dr (b:=b1) (t:=55) (l:=BK r q) (H.get at0) 6 [.slice q.aF r.fl.length q.cF,.slice q.aP r.pot.length q.cP] U)) ?_);refine Al YO (Tu r.N q.aE q.aF q.aP _ q.cE _ q.cF _ q.cP r.es r.fl r.pot _ (RA.E.ext0 H.ext) U hr.N (RA.F.ext0 H.ext) U (by have:=hr.fl; omega) (RA.P.ext0 H.ext) U (by have:=hr.pot; omega)) U ?_;rintro v w ⟨rfl,hx14⟩;rw [← hck];replace H:=H.call hx14;refine AE U (AY 8 U ?_ ?_)
 ·intro h1;refine Ag Gw U (AM JR U H at0 U (Bi Bx U (KW U U (AN U (.bool _) U (AE U (AY 14 U ?_ ?_))))))
  ·intro h2;replace h2:=AJ h2;refine Ag NE U (AM Bw U H at0 U (C4 U U (AN U (.bool _) U (Ai U (Ab (Aa (A4 (AD (v:=(.bool _)) U U U ?_))))))));exact ⟨congrArg Value.bool (by rw [hmr,Bool.eq_iff_iff]; simp_all; try omega),H.ext⟩
  ·intro h3;replace h3:=AK h3;refine Ah U (Ah U (Ah U (AU U (.bool _) U (Ai U (Ab (Aa (A4 (AD (v:=(.bool _)) U U U ?_))))))));exact ⟨congrArg Value.bool (by rw [hmr,Bool.eq_iff_iff]; simp_all; try omega),H.ext⟩
 ·intro h4;refine Ah U (Ah U (Ah U (Ah U (AU U (.bool _) U (AE U (Ah U (Ah U (Ah U (AU U (.bool _) U ?_)))))))));refine Ai U (Ab (Aa (A4 (AD (v:=(.bool _)) U U U ?_))));exact ⟨congrArg Value.bool (by rw [hmr,Bool.eq_iff_iff]; simp_all; try omega),H.ext⟩
set_option maxRecDepth 20000 in
set_option maxHeartbeats 2000000 in
theorem Sv (r:Rnd) (q:RSl) (w:World) (RA:RAt w r q) (hr:RBnd r):Ret Tryz.prog 101 #[.agg (BK r q).toArray] w fun v w'=>Ext [] w w'∧∃ q',v = .agg (BK r q').toArray∧RAt w' r q'∧ROff q' r (fun x=>x<w.heap.size):=by
 obtain ⟨w0,rfl⟩:∃ w0,w0=w:=⟨_,rfl⟩;have H:=Ctx.start w0 [];have b1':=hr.ids;have b2':=hr.es;have b3':=hr.fl;have b4':=hr.pot;refine Aw (fn:=Tryz.f101) Tryz.func101 U [.agg (BK r q).toArray] U (by kernel_rfl) ?_;refine Af (Bv (BK r q) (.agg _) U U H ?_);rintro b1 w - H;refine AX Gg H ?_;rintro b2 w - H;refine Ab (Aa (Cq [([0,1,3,4,5],2),([7],6),([],8),([9,10],11)] (fun z=>z.heap[b1]? = some (Bl 55 (BK r q))) [8,11] Bs (by kernel_rfl) (H.drew.get at1) ?_));refine AF U U ?_;refine An U Gw U (B0 JR U (fun _ hx=>(by rw [Aj hx]; rfl)) ?_);refine An U F9 U (An U Dv U (B0 Fs U (fun _ hx=>(by rw [Aj hx]; rfl)) ?_));refine AP ?_;replace H:=H.drew;refine Al Ag7 (XZ _ _ _ r.ids _ (RA.I.ext0 H.ext) U) U ?_;rintro v w F;obtain ⟨a5,n5,c5,f5,rfl,O5,hb5⟩:=F.ex;obtain rfl:=O5.num;replace H:Ctx w0 [] w ((b2,Bl 55 rnd0)::(b1,Bl 55 (BK r q))::ent a5 28 f5):=H.callEnt F.ext hb5 FD
 refine Ab (BR (H.get at1) (AF U U ?_));refine An U Gw U (AP (Al Ag8 (Yc _ _ _ r.es _ (RA.E.ext0 H.ext) U) U ?_));rintro v w F;obtain ⟨a9,n9,c9,f9,rfl,O9,hb9⟩:=F.ex;obtain rfl:=O9.numN (fun _ _=>rfl) (by decide);replace H:Ctx w0 [] w ((b2,Bl 55 rnd0)::(b1,Bl 55 (BK r q))::(ent a5 28 f5++ent a9 59 f9)):=H.callEnt F.ext hb9 FD;refine Ab (BR (H.get at1) (AF U U ?_));refine AP (Cp (.slice _ _ _) Af2 U U U H at1 (by (simp; done)) ?_);rintro w H;refine Ab (Bz U (AF U U ?_));refine An U F9 U (An U Dv U (AP (Cp (.slice _ _ _) Af3 U U U H at1 (by (simp; done)) ?_)));rintro w H;refine Ab (Bz U (BH ?_))
 change Ctx w0 [] w ((b2,Bl 55 rnd0)::(b1,Bl 55 (BK r ⟨a5,c5,a9,c9,q.aF,q.cF,q.aP,q.cP⟩))::(ent a5 28 f5++ent a9 59 f9)) at H
 refine Cq [([0,1,2,4,5,6],3),([],7),([8,9],10)] (fun z=>z.heap[b1]? = some (Bl 55 (BK r ⟨a5,c5,a9,c9,q.aF,q.cF,q.aP,q.cP⟩))) [10] Bs (by kernel_rfl) (H.drew.get at1) ?_;refine AF U U ?_;refine An U Gx U (An U Jo U (B0 Cg U (fun _ hx=>(by rw [Aj hx]; rfl)) ?_));refine An U Gx U (An U LJ U (B0 Cg U (fun _ hx=>(by rw [Aj hx]; rfl)) ?_));refine AP ?_;replace H:=H.drew;refine Al UH (MN _ _ _ r.fl _ (RA.F.ext0 H.ext) U) U ?_;rintro v w F;obtain ⟨a6,n6,c6,f6,rfl,O6,hb6⟩:=F.ex;obtain rfl:=O6.num;replace H:Ctx w0 [] w ((b2,Bl 55 rnd0)::(b1,Bl 55 (BK r ⟨a5,c5,a9,c9,q.aF,q.cF,q.aP,q.cP⟩))::(ent a5 28 f5++ent a9 59 f9++ent a6 2 f6)):=H.callEnt F.ext hb6 FD;refine Ab (BR (H.get at1) (AF U U ?_));refine AP (Al UH (MN _ _ _ r.pot _ (RA.P.ext0 H.ext) U) U ?_);rintro v w F;obtain ⟨a7,n7,c7,f7,rfl,O7,hb7⟩:=F.ex;obtain rfl:=O7.num
 replace H:Ctx w0 [] w ((b2,Bl 55 rnd0)::(b1,Bl 55 (BK r ⟨a5,c5,a9,c9,q.aF,q.cF,q.aP,q.cP⟩))::(ent a5 28 f5++ent a9 59 f9++ent a6 2 f6++ent a7 2 f7)):=H.callEnt F.ext hb7 FD;refine Ab (BR (H.get at1) (AF U U ?_));refine Ol [.slice a6 r.fl.length c6,.slice a7 r.pot.length c7] U Afz VR (by kernel_rfl) ?_;refine An U Gx U (AP (GR U Ng U U U (by simp [AO]) H at1 (show 0+6+2≤8 by decide) ?_));rintro w H;refine Ab (Bz U (BH ?_))
 change Ctx w0 [] w ((b2,Bl 55 rnd0)::(b1,Bl 55 (BK r ⟨a5,c5,a9,c9,a6,c6,a7,c7⟩))::(ent a5 28 f5++ent a9 59 f9++ent a6 2 f6++ent a7 2 f7)) at H
 refine Af (Cl FT Dh U H at1 U (Bm Dh U U U (by simp [AO]) H at0 U ?_));rintro w H;refine Ab (Aa (A4 (L7 U U U FT Dh H at0 U ?_)));have hm:∀ x,x∈ent a5 28 f5++ent a9 59 f9++ent a6 2 f6++ent a7 2 f7→w.heap[x.1]? = some x.2∧w0.heap.size≤x.1:=fun x hx=>⟨H.blk x (List.mem_append_right [_,_] hx),(H.own x (List.mem_append_right [_,_] hx)).elim (fun h=>by cases h) id⟩
 have hoff:∀ {t:TypeId} {a:Option Addr} {n c s:Nat} {f l:List Value},OS a n c s f l→(∀ x∈ent a t f,w0.heap.size≤x.1)→0<n→¬ (adr a).block<w0.heap.size:=fun {t a n c s f l} O h hn=>by
  obtain ⟨q,rfl⟩:=O.form hn;have:=h (q,Bl t f) (List.mem_singleton.2 rfl);exact Nat.not_lt.2 this
 have m5:∀ x∈ent a5 28 f5,_:=fun x hx=>hm x (List.mem_append_left _ (List.mem_append_left _ (List.mem_append_left _ hx)));have m9:∀ x∈ent a9 59 f9,_:=fun x hx=>hm x (List.mem_append_left _ (List.mem_append_left _ (List.mem_append_right _ hx)));have m6:∀ x∈ent a6 2 f6,_:=fun x hx=>hm x (List.mem_append_left _ (List.mem_append_right _ hx));have m7:∀ x∈ent a7 2 f7,_:=fun x hx=>hm x (List.mem_append_right _ hx)
 exact ⟨H.ext,⟨a5,c5,a9,c9,a6,c6,a7,c7⟩,rfl,⟨O5.rd1 fun x hx=>(m5 x hx).1,OS.rd O9 (fun x hx=>(m9 x hx).1) (fun _ _=>rfl) (by decide),O6.rd1 fun x hx=>(m6 x hx).1,O7.rd1 fun x hx=>(m7 x hx).1,O6.le⟩,
  ⟨fun h=>hoff O5 (fun x hx=>(m5 x hx).2) (List.length_pos_iff.2 h),fun h=>hoff O9 (fun x hx=>(m9 x hx).2) (List.length_pos_iff.2 h),fun h=>hoff O6 (fun x hx=>(m6 x hx).2) (List.length_pos_iff.2 h),fun h=>hoff O7 (fun x hx=>(m7 x hx).2) (List.length_pos_iff.2 h)⟩⟩
end Go.Proofs.YtdagmpmdcgedcaaGreat
namespace Go.Proofs.YtdagmpmdcgedcaaGreat
open Go.GV
attribute [local irreducible] AB W Wq Wt
theorem Sx:∀ {vs l:List Value} {i j:Nat},i+vs.length≤j→(over l i vs)[j]? = l[j]?
 | [],_,_,_,_=>rfl
 | v::vs,l,i,j,h=>by
  have h1:i+1+vs.length≤j:=by rw [List.length_cons] at h; omega
  show (over (l.set i v) (i+1) vs)[j]? = _;rw [Sx h1,List.getElem?_set_ne (by omega)]
theorem Sy:∀ {vs l:List Value} {i j:Nat},j<i→(over l i vs)[j]? = l[j]?
 | [],_,_,_,_=>rfl
 | v::vs,l,i,j,h=>by
  show (over (l.set i v) (i+1) vs)[j]? = _;rw [Sy (by omega),List.getElem?_set_ne (by omega)]
theorem WD:∀ {vs l:List Value} {i j:Nat},i+vs.length≤l.length→j<vs.length→(over l i vs)[i+j]? = vs[j]?
 | [],_,_,_,_,h=>by cases h
 | v::vs,l,i,0,h,_=>by
  show (over (l.set i v) (i+1) vs)[i+0]? = _;rw [Sy (by omega),Nat.add_zero,List.getElem?_set_self (by rw [List.length_cons] at h; omega)];rfl
 | v::vs,l,i,j+1,h,hj=>by
  show (over (l.set i v) (i+1) vs)[i+(j+1)]? = vs[j]?;rw [show i+(j+1)=i+1+j by omega];exact WD (by rw [List.length_set]; rw [List.length_cons] at h; omega) (by rw [List.length_cons] at hj; omega)
def Ja (arch:List Value) (n:Nat) (r:Rnd) (q:RSl):List Value:=((over arch ((r.no % 4).toNat*8) (BK r q)).set 32 (.int .u64 ((min (n+1) 4:Nat):Int))).set 33 (.int .u64 r.no)
theorem Ae3 {w:World} {b1 b2:Nat} {o1 o2:Obj} (h1:w.heap[b1]? = some o1) (h2:w.heap[b2]? = some o2) (hne:b1≠b2:=by omega):Ctx w [b1,b2] w [(b1,o1),(b2,o2)] :=
 ⟨Ext.refl _ _,fun y hy=>by
  simp only [List.mem_cons,List.not_mem_nil,or_false] at hy
  rcases hy with rfl | rfl
  ·exact h1
  ·exact h2,by simp only [List.pairwise_cons,List.mem_singleton,forall_eq,List.not_mem_nil,false_implies,implies_true,List.Pairwise.nil,and_true]; exact hne,fun y hy=>by
  simp only [List.mem_cons,List.not_mem_nil,or_false] at hy
  rcases hy with rfl | rfl
  ·exact .inl (List.mem_cons_self ..)
  ·exact .inl (List.mem_cons_of_mem _ (List.mem_cons_self ..))⟩
set_option maxRecDepth 20000 in
set_option maxHeartbeats 2000000 in
theorem WE {br n:Nat} {arch:List Value} (r:Rnd) (q:RSl) (w:World) (RA:RAt w r q) (hr:RBnd r) (h0:w.heap[br]? = some (Bl 168 arch)) (hl:arch.length=34) (hn:arch[32]? = some (.int .u64 n)) (hn4:n≤4) (hno:0≤r.no∧r.no≤4611686018427387904) :
  Ret Tryz.prog 136 #[ptr br,.agg (BK r q).toArray] w fun _ w'=>∃ q',Ctx w [br] w' [(br,Bl 168 (Ja arch n r q'))]∧RAt w' r q'∧ROff q' r (fun x=>x<w.heap.size):=by
 obtain ⟨w0,rfl⟩:∃ w0,w0=w:=⟨_,rfl⟩;have H:=Ctx.start w0 [];refine Aw (fn:=Tryz.f136) Tryz.func136 U [.pointer (some ⟨br,0,none⟩),.agg (BK r q).toArray] U (by kernel_rfl) ?_;refine Af (Bv (BK r q) (.agg _) U U H ?_);rintro b3 w - H;refine Ab (Aa ?_);have h3:0≤r.no % 4∧r.no % 4<4:=⟨Int.emod_nonneg _ (by decide),Int.emod_lt_of_pos _ (by decide)⟩;refine Cq [([0,1,2,3,4,6,7],5),([8],9)] (fun z=>z.heap[b3]? = some (Bl 55 (BK r q))) [9] Bs (by kernel_rfl) (H.drew.get at0) ?_;refine AF U U ?_;refine BD U (An U LK U (B0 B5 U (fun _ hx=>(by rw [Aj hx]; rfl)) ?_));refine Afl U U U ?_;refine G5 _ FT Dh U U (fun _ hx=>(Dr (b:=b3) (t:=55) (l:=BK r q) hx 0 (BK r q) rfl)) ?_;refine Bd U (An U OC U (AP ?_));replace H:=H.drew;have hx3:=H.ext;have hlb3:=Ba (H.get at0);have hb3:w0.heap.size≤b3:=(H.own _ (List.mem_cons_self ..)).elim (fun h=>by cases h) id;have hlbr:=Ba h0
 refine Al UF (Sv r q _ (RA.ext0 H.ext) hr) U ?_;rintro v w ⟨hx9,q',rfl,RA',hoff⟩;obtain ⟨w9,rfl⟩:∃ z,z=w:=⟨_,rfl⟩;have hE9:=hx3.trans hx9;replace H:Ctx w9 [br,b3] w9 [(br,Bl 168 arch),(b3,Bl 55 (BK r q))]:=Ae3 (hE9.to h0 (by simp)) (hx9.to (H.get at0) (by simp));refine Ab (BR (H.get at1) (AF U U ?_));refine Oi U UE Dh U U ?_;refine AP (GR U Dh U U U (by simp [AO]) H at0 (by omega) ?_);rintro w H;refine Ab (Bz U (BH ?_));rw [show 0+0+(r.no % 4).toNat*8=(r.no % 4).toNat*8 by omega] at H;obtain ⟨A,hA⟩:∃ A,A=over arch ((r.no % 4).toNat*8) (BK r q'):=⟨_,rfl⟩;rw [← hA] at H;have hAl:A.length=34:=by rw [hA,D5]; exact hl
 have hAn:A[32]? = some (.int .u64 n):=by rw [hA,Sx (by show (r.no % 4).toNat*8+8≤32; omega)]; exact hn
 refine ER [([0,1,2,3,4,8,9],5),([6,7,10,11],12),([13,14],15)] (fun z=>z.heap[b3]? = some (Bl 55 (BK r q))) [] Bs (by kernel_rfl) (H.drew.get at1) ?_;refine AF U U ?_;refine BD U (BD U (BD U (Bd U (An U IG U (An U LK U (B0 B5 U (fun _ hx=>(by rw [Aj hx]; rfl)) ?_))))));refine AP ?_;replace H:=H.drew;refine AZ B5 U ((by rw [Aj (H.get at0)]; exact hAn)) ?_;refine Ab (BR (H.get at1) (AF U U ?_));refine My U U U ?_;refine Y0 U U U ?_;refine Bd U (An U IG U (AP (Cp (.int _ _) Bp U U U H at0 (by (simp; omega)) ?_)));rintro w H;refine Ab (BR (H.get at1) (AF U U ?_));refine Bd U (An U Fb U (AP (Cp (.int _ _) Bp U U U H at0 (by (simp; omega)) ?_)));rintro w H;refine Ab (BR (H.get at1) (BH (CF U U ?_)));have hs3:=hx3.size;refine ⟨q',?_,RA'.ext H.ext (hoff.mono fun x hx=>?_),hoff.mono fun x hx=>Nat.lt_of_lt_of_le hx hs3⟩
 ·have h9:Ja arch n r q'=(A.set (0+32) (.int .u64 (min ((n:Int)+1) 4))).set (0+33) (.int .u64 r.no):=by
   unfold Ja;rw [← hA,show ((min (n+1) 4:Nat):Int)=min ((n:Int)+1) 4 by omega]
  rw [h9]
  exact ⟨(hE9.mono (S':=[br]) (by simp)).then H.ext (fun x hx=>by
   simp only [List.mem_cons,List.not_mem_nil,or_false] at hx
   rcases hx with rfl | rfl
   ·exact .inl (List.mem_singleton.2 U)
   ·exact .inr hb3),fun y hy=>by rw [List.mem_singleton.1 hy]; exact H.get at0,by simp,fun y hy=>by rw [List.mem_singleton.1 hy]; exact .inl (List.mem_singleton.2 rfl)⟩
 ·simp only [List.mem_cons,List.not_mem_nil,or_false] at hx
  rcases hx with rfl | rfl
  ·exact Nat.lt_of_lt_of_le hlbr hs3
  ·exact hlb3
end Go.Proofs.YtdagmpmdcgedcaaGreat
namespace Go.Proofs.YtdagmpmdcgedcaaGreat
open Go.GV
attribute [local irreducible] AB W Wq Wt
theorem RAt.no {w:World} {r:Rnd} {q:RSl} (h:RAt w r q) (k d:Int):RAt w { r with no:=k,day:=d } q:=⟨h.I,h.E,h.F,h.P,h.fc⟩
theorem ROff.no {r:Rnd} {q:RSl} {S:Nat→Prop} (h:ROff q r S) (k d:Int):ROff q { r with no:=k,day:=d } S:=⟨h.I,h.E,h.F,h.P⟩
theorem RBnd.no {r:Rnd} (h:RBnd r) (k d:Int):RBnd { r with no:=k,day:=d }:=⟨h.N,h.es,h.ids,h.fl,h.pot⟩
set_option maxRecDepth 20000 in
set_option maxHeartbeats 2000000 in
theorem Ae4 {br n:Nat} {no:Int} {arch:List Value} (r:Rnd) (q:RSl) (w:World) (RA:RAt w r q) (hr:RBnd r) (h0:w.heap[br]? = some (Bl 168 arch)) (hl:arch.length=34) (hn:arch[32]? = some (.int .u64 n)) (hno:arch[33]? = some (.int .u64 no)) (hn4:n≤4) (hb:0≤no∧no<4611686018427387904) (hm:N6 r=true) :
  Ret Tryz.prog 115 #[ptr br,.agg (BK r q).toArray] w fun v w'=>v = .tuple #[.int .u64 (no+1),.int .i64 0]∧∃ q',Ctx w [br] w' [(br,Bl 168 (Ja arch n { r with no:=no+1 } q'))]∧RAt w' { r with no:=no+1 } q'∧ROff q' { r with no:=no+1 } (fun x=>x<w.heap.size):=by
 obtain ⟨w0,rfl⟩:∃ w0,w0=w:=⟨_,rfl⟩;have H:=Ctx.start w0 [];have hlbr:=Ba h0;refine Aw (fn:=Tryz.f115) Tryz.func115 U [.pointer (some ⟨br,0,none⟩),.agg (BK r q).toArray] U (by kernel_rfl) ?_;refine Af (Bv (BK r q) (.agg _) U U H ?_);rintro b3 w - H;refine Ad U (Ad U (Ab (Aa (Aq (A0 (Af (Ay U (Co MF U ?_))))))));refine Ai U (Ab (Aa (Ap _ U ?_ ?_)))
 ·intro h1;cases h1
 ·intro h1;refine Af (Cl FT Dh U H at0 U (Al YL (WC r q _ (RA.ext0 H.ext) hr) U ?_));rintro v w ⟨rfl,hx11⟩;replace H:=H.call hx11;rw [hm];refine BA U (Ai U (Ab (Aa (Ap _ U ?_ ?_))))
  ·intro h2;replace h2:=BE h2;cases h2
  ·intro h2;replace h2:=BF h2;refine Af (Ay U (A9 U (Ag Fb U (AZ B5 U ((by rw [Aj (H.ext.to h0 (by simp))]; exact hno)) ?_))));refine C4 U U (Ai U (Ab (Aa (Ap _ U ?_ ?_))))
   ·intro h3;replace h3:=AJ h3;omega
   ·intro h3;replace h3:=AK h3;refine Au (A5 (Aa (Af (Ay U (A9 U (Ag Fb U (AZ B5 U ((by rw [Aj (H.ext.to h0 (by simp))]; exact hno)) ?_)))))));refine DR U U ?_;refine Ag LK U (Cp (.int _ _) Bp U U U H at0 (by (simp; done)) ?_);rintro w H;refine Ab (Aa (Af (Ay U (Cl FT Dh U H at0 U ?_))));have hb3:w0.heap.size≤b3:=(H.own _ (List.mem_cons_self ..)).elim (fun h=>by cases h) id;refine Al YM (WE (n:=n) (arch:=arch) { r with no:=no+1 } q _ ((RA.ext0 H.ext).no (no+1) r.day) (hr.no (no+1) r.day) (H.ext.to h0 (by simp)) hl hn hn4 (by dsimp only; omega)) U ?_;rintro v w ⟨q',H2,RA',hoff⟩;have hx27:=H.ext;have hl27:=Ba (H.get at0);have h27:=H2.ext.to (H.get at0) (by rw [List.mem_singleton]; omega);have H:=Ctx.start1 h27;refine Ab (Aa (Af (Ag LK U (AM B5 U H at0 U (Ad U (Ad U (Ab (Aa (A4 (BL (v1:=(.int _ _)) (v2:=(.int _ _)) U U U U ?_))))))))))
    have hsz:=hx27.size;exact ⟨rfl,q',⟨(hx27.mono (by simp)).trans H2.ext,H2.blk,H2.nd,fun y hy=>by rw [List.mem_singleton.1 hy]; exact .inl (List.mem_singleton.2 rfl)⟩,RA',hoff.mono fun x hx=>Nat.lt_of_lt_of_le hx hsz⟩
theorem Ab7 {br:Nat} {no:Int} {arch:List Value} (w:World) (h0:w.heap[br]? = some (Bl 168 arch)) (hno:arch[33]? = some (.int .u64 no)) :
  Ret Tryz.prog 53 #[ptr br] w fun v w'=>v = .int .u64 no∧Ext [] w w':=by
 obtain ⟨w0,rfl⟩:∃ w0,w0=w:=⟨_,rfl⟩;have H:=Ctx.start w0 [];refine Aw (fn:=Tryz.f53) Tryz.func53 U [.pointer (some ⟨br,0,none⟩)] U (by kernel_rfl) ?_;refine Af (Ad U (Ab (Aa (Aq (Af (Ay U (Co MF U ?_)))))));refine Ab (Aa (Ap _ U ?_ ?_))
 ·intro h1;cases h1
 ·intro h1;refine Au (Aa (Af (Ay U (A9 U (Ag Fb U (AZ B5 U ((by rw [Aj (H.ext.to h0 (by simp))]; exact hno)) ?_))))));refine Ad U (Ab (Aa (A4 (AD (v:=(.int _ _)) U U U ?_))));exact ⟨rfl,H.ext⟩
end Go.Proofs.YtdagmpmdcgedcaaGreat
