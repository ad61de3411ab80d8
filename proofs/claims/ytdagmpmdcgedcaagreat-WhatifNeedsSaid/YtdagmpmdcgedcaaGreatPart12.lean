/- Part 12 of the proof. -/
import Derived.Test.YtdagmpmdcgedcaaGreatPart11
set_option maxRecDepth 20000
set_option maxHeartbeats 4000000
namespace Go.Proofs.YtdagmpmdcgedcaaGreat
open Go.GV Tryz
attribute [local irreducible] AN W Wq Wt
abbrev AcB(bd:Nat)(a:Option Addr)(n c:Nat)(w:World):Prop:=w.heap[bd]?=some (Bl 162 [.slice a n c])
theorem AcsAt.back{w0 w w':World}{a:Option Addr}{n c:Nat}{full:List Value}{acs:List Ac}(h:AcsAt w w' a n c full acs)(hx:Ext [] w0 w):AcsAt w0 w' a n c full acs:=by
 obtain⟨f,O,hb,he⟩:=h;exact⟨f,O,hb,(hx.mono (by simp)).trans he⟩
theorem AcsAt.of{w w':World}{a:Option Addr}{n c:Nat}{full:List Value}{acs acs':List Ac}(h:AcsAt w w' a n c full acs)(he:acs=acs'):AcsAt w w' a n c full acs':=he ▸ h
abbrev Zm(b3 b5:Nat)(acs:List Ac)(x:Int):List Qk:=[⟨1,169,[ptr b5],decide (0<x) && Db x⟩,⟨13,170,[ptr b3,ptr b5],decide ((EN (bas acs++[x])).2=0)⟩]
abbrev Zn(b3 b4 b5:Nat)(acs:List Ac)(k x:Int):List Qk:=[⟨1,172,[ptr b5],decide (0<x) && Db x⟩,⟨12,173,[ptr b5,ptr b3,ptr b4],decide (x<=(DA acs k).ba)⟩]
abbrev rsvQ(b5:Nat)(x:Int):List Qk:=[⟨1,175,[ptr b5],Db x⟩]
theorem TB{b3 b5:Nat}{acs:List Ac}{k x:Int}:Jz acs k (Zm b3 b5 acs x)=GG acs k x:=by
 unfold Jz GG
 cases inA acs k with
 |false=>rfl
 |true =>
  rw[if_neg (by decide),if_neg (by decide)];show(if(decide (0<x) && Db x)=false then(1:Int)else if decide ((EN (bas acs++[x])).2=0)=false then 13 else 0)=_
  by_cases h:(EN (bas acs++[x])).2=0
  .rw[if_neg (show ¬(decide ((EN (bas acs++[x])).2=0)=false)by simpa using h),if_neg (show ¬(EN (bas acs++[x])).2≠0 from fun h2=>h2 h)]
  .rw[if_pos (show decide ((EN (bas acs++[x])).2=0)=false by simpa using h),if_pos h]
theorem TC{b3 b4 b5:Nat}{acs:List Ac}{k x:Int}:Jz acs k (Zn b3 b4 b5 acs k x)=GH acs k x:=by
 unfold Jz GH
 cases inA acs k with
 |false=>rfl
 |true =>
  rw[if_neg (by decide),if_neg (by decide)];show(if(decide (0<x) && Db x)=false then(1:Int)else if decide (x<=(DA acs k).ba)=false then 12 else 0)=_
  by_cases h:x<=(DA acs k).ba
  .rw[if_neg (show ¬(decide (x<=(DA acs k).ba)=false)by simpa using h),if_neg (show ¬(DA acs k).ba<x by omega)]
  .rw[if_pos (show decide (x<=(DA acs k).ba)=false by simpa using h),if_pos (show(DA acs k).ba<x by omega)]
theorem Agz{b5:Nat}{acs:List Ac}{k x:Int}:Jz acs k (rsvQ b5 x)=Nv acs k x:=rfl
section
variable {bd c:Nat}{a:Option Addr}{full:List Value}{acs:List Ac}{w:World}
theorem Ov{q:Nat}{k:Int}{w':World}(O:OS (some ⟨q,0,none⟩) acs.length c 2 full (acs.flatMap Dm))(h9:w'.heap[q]?=some (Bl 43 full))(hi:inA acs k=true) :
  full[0+k.toNat*2]?=some (.int .i64 (DA acs k).ba)/\0+k.toNat*2+1<full.length:=by
 have R:Rd w' (some ⟨q,0,none⟩) 2 Dm acs:=OS.rd (t:=43) O (fun y hy=>by rw[qab.1 hy];exact h9) (fun _ _=>rfl) (by omega);have h1:w'.cell? ⟨q,0+k.toNat*2+0,none⟩=some (.int .i64 (DA acs k).ba):=R.fld (Gf hi) rfl (j:=0) rfl;have h2:w'.cell? ⟨q,0+k.toNat*2+1,none⟩=some (.int .i64 (DA acs k).re):=R.fld (Gf hi) rfl (j:=1) rfl;rw[An h9]at h1 h2;exact⟨h1,Cb h2⟩
theorem Abj{b3 b5 b14:Nat}{k x:Int}(hd:AcB bd a acs.length c w)(O:OS a acs.length c 2 full (acs.flatMap Dm))(hb:∀x∈ent a 43 full,w.heap[x.1]?=some x.2/\x.1≠b5)(hac:EA acs=0)(h3:w.heap[b3]?=some (Bl 99 [ptr bd]))(h5:w.heap[b5]?=some (Bl 2 [.int .i64 x]))(h14:w.heap[b14]?=some (Bl 223 ((Zm b3 b5 acs x).flatMap Ou))) :
  Ret prog 167 #[ptr bd,.int .i64 k,.func (.func 168) #[] [ptr b5].toArray,.slice (some ⟨b14,0,none⟩) 2 2] w fun v w'=>v=.int .i64 (GG acs k x)/\AcsAt w w' a acs.length c full (Fx acs k x):=by
 have hn16:=(Cr.1 hac).1;have R:Rd w a 2 Dm acs:=OS.rd O (fun y hy=>(hb y hy).1) (fun _ _=>rfl) (by omega);refine Ret.mono (QY (qs:=Zm b3 b5 acs x) (e:=⟨(DA acs k).ba+x,(DA acs k).re⟩) w hd O (fun y hy=>(hb y hy).1) (Rd.of_bl h14 (qa4 _).symm fun _ _=>rfl) (show(2:Nat)<=1000 by decide) (fun q hq=>?_) qB fun q w' hqa hi hC hx=>?_) fun v w' h=>?_
 .rcases qag.1 hq with rfl|hq
  .exact⟨qB,(show(1:Int)≠0 by decide),fun w' hx=>Agt w' (hx.to h5 (by simp))⟩
  .rw[qab.1 hq];exact⟨qB,(show(13:Int)≠0 by decide),fun w' hx=>Agy w' (hx.to h3 (by simp)) (hx.to h5 (by simp)) (hx.to hd (by simp)) (R.ext0 hx)⟩
 .subst hqa;obtain⟨h1,h2⟩:=hb (q,Bl 43 full) (qab.2 rfl);have h9:w'.heap[q]?=_:=hx.to h1 (by simp);have hg:=JQ hac hi;have hC2:GG acs k x=0:=by rw[<-TB (b3:=b3) (b5:=b5)];unfold Jz;rw[if_neg (by rw[hi];decide)];exact hC
  rcases Kw acs k x with⟨hc,-⟩|⟨-,-,h0,hm,-⟩
  .exact absurd hC2 hc
  .refine Ret.mono (Agv w' h9 (Ov O h9 hi).1 (hx.to h5 (by simp)) (fun h=>h2 h.symm) ⟨hg.1.1,hg.1.2⟩ ⟨by omega,(CR.1 hm).2⟩) fun _ w'' H2=>⟨_,?_,H2⟩;rw[show 0+k.toNat*2+0=k.toNat*2+0 by omega];exact OS.setf O (y:=⟨(DA acs k).ba+x,(DA acs k).re⟩) (j:=0) (v := .int .i64 ((DA acs k).ba+x)) (fun _=>rfl) (Gf hi) (by decide) U
 .rw[TB]at h;exact⟨h.1,h.2.of (by unfold Fx;rfl)⟩
theorem Abk{b3 b4 b5 b14:Nat}{k x:Int}(hd:AcB bd a acs.length c w)(O:OS a acs.length c 2 full (acs.flatMap Dm))(hb:∀x∈ent a 43 full,w.heap[x.1]?=some x.2/\x.1≠b5)(hac:EA acs=0)(h3:w.heap[b3]?=some (Bl 99 [ptr bd]))(h4:w.heap[b4]?=some (Bl 3 [.int .i64 k]))(h5:w.heap[b5]?=some (Bl 2 [.int .i64 x]))(h14:w.heap[b14]?=some (Bl 223 ((Zn b3 b4 b5 acs k x).flatMap Ou))) :
  Ret prog 167 #[ptr bd,.int .i64 k,.func (.func 171) #[] [ptr b5].toArray,.slice (some ⟨b14,0,none⟩) 2 2] w fun v w'=>v=.int .i64 (GH acs k x)/\AcsAt w w' a acs.length c full (Fy acs k x):=by
 have hn16:=(Cr.1 hac).1;have R:Rd w a 2 Dm acs:=OS.rd O (fun y hy=>(hb y hy).1) (fun _ _=>rfl) (by omega)
 cases hi0:inA acs k with
 |false =>
  refine Ret.mono (Ags w hd hi0) fun v w' h=>?_;have hc:GH acs k x=10:=by unfold GH;rw[if_pos hi0]
  refine⟨by rw[hc];exact h.1,full,?_,fun y hy=>h.2.to (hb y hy).1 (by simp),h.2.mono (by simp)⟩;unfold Fy;rw[if_neg (by rw[hc];decide)];exact O
 |true =>
  refine Ret.mono (QY (qs:=Zn b3 b4 b5 acs k x) (e:=⟨(DA acs k).ba - x,(DA acs k).re⟩) w hd O (fun y hy=>(hb y hy).1) (Rd.of_bl h14 (qa4 _).symm fun _ _=>rfl) (show(2:Nat)<=1000 by decide) (fun q hq=>?_) qB fun q w' hqa hi hC hx=>?_) fun v w' h=>?_
  .rcases qag.1 hq with rfl|hq
   .exact⟨qB,(show(1:Int)≠0 by decide),fun w' hx=>Agu w' (hx.to h5 (by simp))⟩
   .rw[qab.1 hq];exact⟨qB,(show(12:Int)≠0 by decide),fun w' hx=>Agx w' (hx.to h5 (by simp)) (hx.to h3 (by simp)) (hx.to h4 (by simp)) (hx.to hd (by simp)) (R.ext0 hx) hi0⟩
  .subst hqa;obtain⟨h1,h2⟩:=hb (q,Bl 43 full) (qab.2 rfl);have h9:w'.heap[q]?=_:=hx.to h1 (by simp);have hg:=JQ hac hi;have hC2:GH acs k x=0:=by rw[<-TC (b3:=b3) (b4:=b4) (b5:=b5)];unfold Jz;rw[if_neg (by rw[hi];decide)];exact hC
   rcases MB acs k x with⟨hc,-⟩|⟨-,-,h0,hm,-⟩
   .exact absurd hC2 hc
   .refine Ret.mono (Agw w' h9 (Ov O h9 hi).1 (hx.to h5 (by simp)) (fun h=>h2 h.symm) ⟨hg.1.1,hg.1.2⟩ ⟨by omega,(CR.1 hm).2⟩) fun _ w'' H2=>⟨_,?_,H2⟩;rw[show 0+k.toNat*2+0=k.toNat*2+0 by omega];exact OS.setf O (y:=⟨(DA acs k).ba - x,(DA acs k).re⟩) (j:=0) (v := .int .i64 ((DA acs k).ba - x)) (fun _=>rfl) (Gf hi) (by decide) U
  .rw[TC]at h;exact⟨h.1,h.2.of (by unfold Fy;rfl)⟩
theorem Ag0{b5 b14:Nat}{k x:Int}(hd:AcB bd a acs.length c w)(O:OS a acs.length c 2 full (acs.flatMap Dm))(hb:∀x∈ent a 43 full,w.heap[x.1]?=some x.2/\x.1≠b5)(hac:EA acs=0)(h5:w.heap[b5]?=some (Bl 2 [.int .i64 x]))(h14:w.heap[b14]?=some (Bl 223 ((rsvQ b5 x).flatMap Ou))) :
  Ret prog 167 #[ptr bd,.int .i64 k,.func (.func 174) #[] [ptr b5].toArray,.slice (some ⟨b14,0,none⟩) 1 1] w fun v w'=>v=.int .i64 (Nv acs k x)/\AcsAt w w' a acs.length c full (Ih acs k x):=by
 have hn16:=(Cr.1 hac).1;refine Ret.mono (QY (qs:=rsvQ b5 x) (e:=⟨(DA acs k).ba,x⟩) w hd O (fun y hy=>(hb y hy).1) (Rd.of_bl h14 (qa4 _).symm fun _ _=>rfl) (show(1:Nat)<=1000 by decide) (fun q hq=>?_) qB fun q w' hqa hi hC hx=>?_) fun v w' h=>?_
 .rw[qab.1 hq];exact⟨qB,(show(1:Int)≠0 by decide),fun w' hx=>Akj w' (hx.to h5 (by simp))⟩
 .subst hqa;obtain⟨h1,h2⟩:=hb (q,Bl 43 full) (qab.2 rfl);have h9:w'.heap[q]?=_:=hx.to h1 (by simp);refine Ret.mono (Akk w' h9 (Ov O h9 hi).2 (hx.to h5 (by simp)) (fun h=>h2 h.symm)) fun _ w'' H2=>⟨_,?_,H2⟩;rw[show 0+k.toNat*2+1=k.toNat*2+1 by omega];exact OS.setf O (y:=⟨(DA acs k).ba,x⟩) (j:=1) (v := .int .i64 x) (fun _=>rfl) (Gf hi) (by decide) U
 .rw[Agz]at h;exact⟨h.1,h.2.of (by unfold Ih;rfl)⟩
end
theorem Ag1{bd c:Nat}{a:Option Addr}{full:List Value}{acs:List Ac}{k x:Int}(w:World)(hd:AcB bd a acs.length c w)(O:OS a acs.length c 2 full (acs.flatMap Dm))(hb:∀x∈ent a 43 full,w.heap[x.1]?=some x.2)(hac:EA acs=0) :
  Ret prog 104 #[ptr bd,.int .i64 k,.int .i64 x] w fun v w'=>v=.int .i64 (GG acs k x)/\AcsAt w w' a acs.length c full (Fx acs k x):=by
 obtain⟨w0,rfl,H⟩:=qE w;refine A2 (fn:=f104) func104 U [.pointer (some ⟨bd,0,none⟩),.int .i64 k,.int .i64 x] U ?_;refine Ad (Bu _ (.pointer _) U U H ?_);rintro b3 w - H;refine Bu _ (.int _ _) U U H ?_;rintro b5 w - H;refine Af U (qA (Ad (AG Jf U H at1 U (Ae U (Cm [ptr b5] U (Cm [ptr b5] U (Bz (Ou ⟨1,169,[ptr b5],true⟩) Qx Ki ?_)))))));refine Cm [ptr b3,ptr b5] U (Bz (Ou ⟨13,170,[ptr b3,ptr b5],true⟩) Qx Ki ?_);refine Dq ((Zm b3 b5 acs x).flatMap Ou) Qr NT Ki H ?_;rintro b14 w - H
 refine Am qB (Abj (H.ext.to hd (by simp)) O (fun y hy=>⟨H.ext.to (hb y hy) (by simp),fun hne=>by have h1:=Bf (hb y hy);rw[hne]at h1;have h2:=(H.own _ (qac at1)).elim (fun h=>by cases h) id;dsimp only at h2;omega⟩) hac (H.get at2) (H.get at1) (H.get at0)) U ?_;rintro v w2 ⟨rfl,A⟩;replace A:=A.back H.ext;refine Af U (qA (A6 (AD (v:=(.int _ _)) U U U ?_)));exact⟨rfl,A⟩
theorem Ag2{bd c:Nat}{a:Option Addr}{full:List Value}{acs:List Ac}{k x:Int}(w:World)(hd:AcB bd a acs.length c w)(O:OS a acs.length c 2 full (acs.flatMap Dm))(hb:∀x∈ent a 43 full,w.heap[x.1]?=some x.2)(hac:EA acs=0) :
  Ret prog 105 #[ptr bd,.int .i64 k,.int .i64 x] w fun v w'=>v=.int .i64 (GH acs k x)/\AcsAt w w' a acs.length c full (Fy acs k x):=by
 obtain⟨w0,rfl,H⟩:=qE w;refine A2 (fn:=f105) func105 U [.pointer (some ⟨bd,0,none⟩),.int .i64 k,.int .i64 x] U ?_;refine Ad (Bu _ (.pointer _) U U H ?_);rintro b3 w - H;refine Bu _ (.int _ _) U U H ?_;rintro b4 w - H;refine Bu _ (.int _ _) U U H ?_;rintro b5 w - H;refine Af U (qA (Ad (AG Jf U H at2 U (AG B6 U H at1 U (Cm [ptr b5] U (Cm [ptr b5] U (Bz (Ou ⟨1,172,[ptr b5],true⟩) Qx Ki ?_)))))));refine Cm [ptr b5,ptr b3,ptr b4] U (Bz (Ou ⟨12,173,[ptr b5,ptr b3,ptr b4],true⟩) Qx Ki ?_);refine Dq ((Zn b3 b4 b5 acs k x).flatMap Ou) Qr NT Ki H ?_;rintro b14 w - H
 refine Am qB (Abk (H.ext.to hd (by simp)) O (fun y hy=>⟨H.ext.to (hb y hy) (by simp),fun hne=>by have h1:=Bf (hb y hy);rw[hne]at h1;have h2:=(H.own _ (qac at1)).elim (fun h=>by cases h) id;dsimp only at h2;omega⟩) hac (H.get at3) (H.get at2) (H.get at1) (H.get at0)) U ?_;rintro v w2 ⟨rfl,A⟩;replace A:=A.back H.ext;refine Af U (qA (A6 (AD (v:=(.int _ _)) U U U ?_)));exact⟨rfl,A⟩
theorem Akl{bd c:Nat}{a:Option Addr}{full:List Value}{acs:List Ac}{k x:Int}(w:World)(hd:AcB bd a acs.length c w)(O:OS a acs.length c 2 full (acs.flatMap Dm))(hb:∀x∈ent a 43 full,w.heap[x.1]?=some x.2)(hac:EA acs=0) :
  Ret prog 106 #[ptr bd,.int .i64 k,.int .i64 x] w fun v w'=>v=.int .i64 (Nv acs k x)/\AcsAt w w' a acs.length c full (Ih acs k x):=by
 obtain⟨w0,rfl,H⟩:=qE w;refine A2 (fn:=f106) func106 U [.pointer (some ⟨bd,0,none⟩),.int .i64 k,.int .i64 x] U ?_;refine Ad (Bu _ (.int _ _) U U H ?_);rintro b5 w - H;refine Af U (qA (Ad (A9 U (Ae U (Cm [ptr b5] U (Cm [ptr b5] U (Bz (Ou ⟨1,175,[ptr b5],true⟩) Qx Ki ?_)))))));refine Dq ((rsvQ b5 x).flatMap Ou) Qr NT Ki H ?_;rintro b14 w - H;refine Am qB (Ag0 (H.ext.to hd (by simp)) O (fun y hy=>⟨H.ext.to (hb y hy) (by simp),fun hne=>by have h1:=Bf (hb y hy);rw[hne]at h1;have h2:=(H.own _ (qac at1)).elim (fun h=>by cases h) id;dsimp only at h2;omega⟩) hac (H.get at1) (H.get at0)) U ?_;rintro v w2 ⟨rfl,A⟩;replace A:=A.back H.ext;refine Af U (qA (A6 (AD (v:=(.int _ _)) U U U ?_)));exact⟨rfl,A⟩
def VX:List Du->Int->Du->List Du
 | [],_,_=>[]
 |d::ds,k,e=>if d.id=k then e::ds else d::VX ds k e
def XO:List Du->Int->List Du
 | [],_=>[]
 |d::ds,k=>if d.id=k then ds else d::XO ds k
theorem Ag3{ds:List Du}{k:Int}{d e:Du}(h:Dn ds k=some d)(he:e.id=k):KG (dm ds) k (G0 e)=dm (VX ds k e):=by
 induction ds with
 |nil=>cases h
 |cons y ds ih =>
  unfold Dn at h;rw[qch]at h
  by_cases c:y.id=k
  .unfold VX;rw[if_pos c];show(if y.id=k then(k,_)::dm ds else _)=_;rw[if_pos c,<-he];rfl
  .rw[show(y.id == k)=false by simpa using c]at h;unfold VX;rw[if_neg c];show(if y.id=k then _ else(y.id,G0 y)::KG (dm ds) k _)=_;rw[if_neg c,ih h];rfl
theorem Ag4{ds:List Du}{k:Int}{d:Du}(h:Dn ds k=some d):Mw (dm ds) k=dm (XO ds k):=by
 induction ds with
 |nil=>cases h
 |cons y ds ih =>
  unfold Dn at h;rw[qch]at h
  by_cases c:y.id=k
  .unfold XO;rw[if_pos c];show(if y.id=k then dm ds else _)=_;rw[if_pos c]
  .rw[show(y.id == k)=false by simpa using c]at h;unfold XO;rw[if_neg c];show(if y.id=k then _ else(y.id,G0 y)::Mw (dm ds) k)=_;rw[if_neg c,ih h];rfl
theorem VY{k:Int}{b:Bool}:∀{ds:List Du} {d:Du},(ds.map Du.id).Nodup->Dn ds k=some d->VX ds k { d with held:=b }=ds.map fun x=>if x.id=k then{ x with held:=b }else x
 |y::ds,d,hn,h=>by
  rw[qau,qd6]at hn;unfold Dn at h;rw[qch]at h
  by_cases c:y.id=k
  .rw[show(y.id == k)=true by simpa using c]at h
   injection h with h
   subst h;unfold VX;rw[if_pos c,qau,if_pos c]
   congr 1
   refine(List.map_id ds).symm.trans (qbi fun x hx=>?_);rw[if_neg fun hxk=>hn.1 (by rw[c,<-hxk];exact qa8 hx)];rfl
  .rw[show(y.id == k)=false by simpa using c]at h;unfold VX;rw[if_neg c,qau,if_neg c,VY hn.2 h]
theorem Pd{k:Int}:∀{ds:List Du},(ds.map Du.id).Nodup->XO ds k=ds.filter fun x => !decide (x.id=k)
 | [],_=>rfl
 |y::ds,hn=>by
  rw[qau,qd6]at hn;unfold XO
  by_cases c:y.id=k
  .rw[if_pos c,qbw,if_neg (by simpa using c)];refine(List.filter_eq_self.2 fun x hx=>?_).symm;have:¬x.id=k:=fun hxk=>hn.1 (by rw[c,<-hxk];exact qa8 hx)
   simpa using this
  .rw[if_neg c,qbw,if_pos (by simpa using c),Pd hn.2]
def trnD(ds:List Du)(k:Int)(c:Int)(e:Du):List Du:=if c≠0 then ds else if e.am=0 then XO ds k else VX ds k e
theorem VZ{bd b:Nat}{nx k code:Int}{o:Obj}{ds:List Du}{d e:Du}{fid:FuncId}{cl:List Value}(w:World)(hd:w.heap[bd]?=some (Bl 165 (DU b nx)))(hb:w.heap[b]?=some o)(hM:Ds .u64 (dm ds) o)(hbd:bd≠b)(hf:Dn ds k=some d)(he:e.id=k)(hfc:A0 prog fid=true)(hcl:∀(b7:Nat) (w':World),w.heap.size<=b7->Ext [b] w w'->w'.heap[b7]?=some (Bl 67 (CM d))->Ret prog fid (ptr b7::cl).toArray w' fun v w''=>v=.int .i64 code/\Ctx w' [b7] w'' [(b7,Bl 67 (CM e))]) :
  Ret prog 177 #[ptr bd,.int .u64 k,.func (.func fid) #[] cl.toArray] w fun v w'=>v=.int .i64 code/\∃o',Ds .u64 (dm (trnD ds k code e)) o'/\Ctx w [b] w' [(b,o')]:=by
 obtain⟨w0,rfl⟩:=qD w;have H:=Ctx.start1 hb;have hmg:Eg (dm ds) k=some (G0 d):=by rw[Iz,hf];rfl
 unfold trnD;refine A2 (fn:=f177) func177 U [.pointer (some ⟨bd,0,none⟩),.int .u64 k,.func (.func fid) #[] cl.toArray] U ?_;refine Ad (Af U (qA (Ap (Ad (A9 U (C7 Ju U ?_))))));refine qA (Av _ U ?_ ?_)
 .intro h0;cases h0
 .intro h0;refine Aq (Aa (Ad (A9 U (AP U (Ah Et U (Ba FU U ((H.old (An hd _) (by rw[qab];exact hbd))) ?_))))));refine Ae U (HD U Gl FD Qz U U H at0 hM ?_);rw[hmg];rw[qdq,Option.isSome_some];refine BN U (AF U U (AF U U (AX DR H ?_)));rintro b7 w - H;refine Bi BC U U U (by exact Dt _) H at0 U ?_;rintro w H;refine Ai U (qA (Ap (Ad (Au U (B1 U (qA (Av _ U ?_ ?_)))))))
  .intro h1;replace h1:=Bv h1;cases h1
  .intro h1;replace h1:=Bw h1;refine Aq (Aa (Ad (De U (.func _ _ _) U ?_)));have hb7:w0.heap.size<=b7:=(H.own _ (qaj ..)).elim (fun h=>by have h8:=H.ne at0 at1 (by decide);exact absurd (qab.1 h) h8) id;refine EC U hfc (hcl b7 _ hb7 H.ext (H.get at0)) U ?_;rintro v w ⟨rfl,H2⟩;replace H:=Ctx.back (L1:=[_]) (L2:=[_]) H H2;refine Af U (qA (Ap (Ax (Ad (Ae U (C0 U U (Ai U (qA (Av _ U ?_ ?_)))))))))
   .intro h2;replace h2:=CC h2;refine Aq (A7 (Aa (Ad (Ae U (Af U (qA (A6 (AD (v:=(.int _ _)) U U U ?_))))))));rw[if_pos h2];exact⟨rfl,o,hM,H.tail⟩
   .intro h2;replace h2:=CD h2;rw[if_neg (by omega)];refine Ad (Ah Dl U (AG Bm U H at0 U (Cj U U (Ai U (qA (Av _ U ?_ ?_))))))
    .intro h3;replace h3:=AJ h3;refine Ay (A9 U (AP U (Ah Et U (Ba FU U ((H.old (An hd _) (by rw[qab];exact hbd))) ?_))));refine Ae U (NN U Gl FD U U H at1 hM ?_);rintro o2 w hM2 H;refine Ab (A7 (Aa (Ad (Ae U (Af U (qA (A6 (AD (v:=(.int _ _)) U U U ?_))))))));rw[if_pos h3];exact⟨rfl,o2,by rw[<-Ag4 hf];exact hM2,H.tail⟩
    .intro h3;replace h3:=AK h3;refine FK 6 Bs U U ?_;refine BO U (Bh U (A3 Et U (BF FU U (by rintro _ rfl;exact((H.old (An hd _) (by rw[qab];exact hbd)))) ?_)));refine AY U (PW U EF BC U (by rintro _ rfl;exact H.drew) at0 U ?_);refine BM ?_;replace H:=H.drew;refine Im (G0 e) U Gl FD U U U H at1 hM ?_;rintro o2 w hM2 H;refine Ab (A7 (Aa (Ad (Ae U (Af U (qA (A6 (AD (v:=(.int _ _)) U U U ?_))))))));rw[if_neg h3];exact⟨rfl,o2,by rw[<-Ag3 hf he];exact hM2,H.tail⟩
theorem QZ{bd b:Nat}{nx k:Int}{o:Obj}{ds:List Du}{fid:FuncId}{cl:List Value}(w:World)(hd:w.heap[bd]?=some (Bl 165 (DU b nx)))(hb:w.heap[b]?=some o)(hM:Ds .u64 (dm ds) o)(hbd:bd≠b)(hf:Dn ds k=none) :
  Ret prog 177 #[ptr bd,.int .u64 k,.func (.func fid) #[] cl.toArray] w fun v w'=>v=.int .i64 11/\∃o',Ds .u64 (dm ds) o'/\Ctx w [b] w' [(b,o')]:=by
 obtain⟨w0,rfl⟩:=qD w;have H:=Ctx.start1 hb;have hmg:Eg (dm ds) k=none:=by rw[Iz,hf];rfl
 refine A2 (fn:=f177) func177 U [.pointer (some ⟨bd,0,none⟩),.int .u64 k,.func (.func fid) #[] cl.toArray] U ?_;refine Ad (Af U (qA (Ap (Ad (A9 U (C7 Ju U ?_))))));refine qA (Av _ U ?_ ?_)
 .intro h0;cases h0
 .intro h0;refine Aq (Aa (Ad (A9 U (AP U (Ah Et U (Ba FU U ((H.old (An hd _) (by rw[qab];exact hbd))) ?_))))));refine Ae U (HD U Gl FD Qz U U H at0 hM ?_);rw[hmg];rw[Option.getD_none,Option.isSome_none];refine BN U (AF U U (AF U U (AX DR H ?_)));rintro b7 w - H;refine Bi BC U U U (by exact Dt d00) H at0 U ?_;rintro w H;refine Ai U (qA (Ap (Ad (Au U (B1 U (qA (Av _ U ?_ ?_)))))))
  .intro h1;replace h1:=Bv h1;refine Ad (Af U (qA (A6 (Al (AD (v:=(.int _ _)) U U U ?_)))));exact⟨rfl,o,hM,H.tail⟩
  .intro h1;replace h1:=Bw h1;cases h1
theorem Aqr{P:Program}{ops rest:List Oper}{e:Env}{dst:Option Tmp}{ty:TypeId}{pos:String}{af:Array Edge}{g:Option (Nat × Bool)}{C:World->Prop}{K:Env->Prop}{t t2:TypeId}{x y:Operand}{a b:Bool}(ht:P.underlying t=some .bool)(hg:Bc ⟨dst,.binOp .eql t x y t2,ty,pos,af,g⟩ ops e=true)(hx:ev e x=.bool a)(hy:ev e y=.bool b)(h:Wq P ops C K rest (put e dst (.bool (a == b)))):Wq P ops C K (⟨dst,.binOp .eql t x y t2,ty,pos,af,g⟩::rest) e :=
 ED hg (fun w _=>by
  have hq:eqGuard .eql t x y (.bool a) (.bool b)=pure ():=rfl;have he:∀d w,(Op.equalIn (d+1) t (.bool a) (.bool b)).run P w=.ok (a == b) w:=fun d w=>by simp[Op.equalIn,Bj ht]
  simp only[execOp,hx,hy,hq,Sem.run_bind,Sem.run_pure,Result.andThen_ok,binOp,Op.equal,Op.maxDepth,he 9999]) h
theorem TD{ds:List Du}{nx:Int}(h:ofC ds nx=0):(ds.map Du.id).Nodup:=(GQ h).2.imp fun h=>Int.ne_of_lt h
theorem Ag5{b7 bi:Nat}{d:Du}{b:Bool}(w:World)(h7:w.heap[b7]?=some (Bl 67 (CM d)))(hi:w.heap[bi]?=some (Bl 4 [.bool b]))(hne:bi≠b7) :
  Ret prog 206 #[ptr b7,ptr bi] w fun v w'=>v=.int .i64 (if d.held=b then 14 else 0)/\Ctx w [b7] w' [(b7,Bl 67 (CM (if d.held=b then d else{ d with held:=b })))]:=by
 obtain⟨w0,rfl⟩:=qD w;have H:=Ctx.start1 h7;have hn:bi∉[b7]:=by rw[qab];exact hne
 refine A2 (fn:=f206) func206 U [.pointer (some ⟨b7,0,none⟩),.pointer (some ⟨bi,0,none⟩)] U ?_;refine Ad (Af U (qA (Ap (CN (fun x=>x=_) Bs U ?_))));refine BO U (Bh U (A3 F6 U (BS HI U (by rintro _ rfl;exact H.drew) at0 U ?_)));refine BF HI U (by rintro _ rfl;exact((H.old (An hi _) hn))) ?_;refine Aqr un_4 U U U (BM ?_);rintro _ rfl;replace H:=H.drew;refine Av _ U ?_ ?_
 .intro h1;have h1':d.held=b:=by simpa using h1
  refine Ad (Af U (qA (A6 (Al (AD (v:=(.int _ _)) U U U ?_)))));rw[if_pos h1',if_pos h1'];exact⟨rfl,H⟩
 .intro h1;have h1':¬d.held=b:=by simpa using h1
  refine Aq (Aa (Ad (A9 U (Ba HI U ((H.old (An hi _) hn)) ?_))));refine AP U (Ah F6 U (Cz (.bool _) NV U U U H at0 (by(simp;done)) ?_));rintro w H;refine qA (Ad (Af U (qA (A6 (AD (v:=(.int _ _)) U U U ?_)))));rw[if_neg h1',if_neg h1'];exact⟨rfl,H⟩
theorem XP{b7:Nat}{d:Du}(w:World)(h7:w.heap[b7]?=some (Bl 67 (CM d))) :
  Ret prog 178 #[ptr b7] w fun v w'=>v=.int .i64 0/\Ctx w [b7] w' [(b7,Bl 67 (CM { d with am:=0 }))]:=by
 obtain⟨w0,rfl⟩:=qD w;have H:=Ctx.start1 h7;refine A2 (fn:=f178) func178 U [.pointer (some ⟨b7,0,none⟩)] U ?_;refine Ad (Af U (qA (Ad (A9 U (AP U (Ah Dl U (Cz (.int _ _) Bt U U U H at0 (by(simp;done)) ?_)))))));rintro w H;refine qA (Ad (Af U (qA (A6 (AD (v:=(.int _ _)) U U U ?_)))));exact⟨rfl,H⟩
theorem Zo{bd b:Nat}{nx k:Int}{o:Obj}{ds:List Du}(h:Bool)(w:World)(hd:w.heap[bd]?=some (Bl 165 (DU b nx)))(hb:w.heap[b]?=some o)(hM:Ds .u64 (dm ds) o)(hbd:bd≠b)(hof:ofC ds nx=0) :
  Ret prog 176 #[ptr bd,.int .u64 k,.bool h] w fun v w'=>v=.int .i64 (Nz ds k h)/\∃o',Ds .u64 (dm (Jy ds k h)) o'/\Ctx w [b] w' [(b,o')]:=by
 obtain⟨w0,rfl,H⟩:=qE w;have hbl:=Bf hb
 have hT:∀(bi:Nat) (w:World),w0.heap.size<=bi->Ext [] w0 w->w.heap[bi]?=some (Bl 4 [.bool h])->Ret prog 177 #[ptr bd,.int .u64 k,.func (.func 206) #[] [ptr bi].toArray] w fun v w'=>v=.int .i64 (Nz ds k h)/\∃o',Ds .u64 (dm (Jy ds k h)) o'/\Ctx w [b] w' [(b,o')]:=fun bi w hbi hx hi=>by
  cases hf:Dn ds k with
  |none =>
   have hc:Nz ds k h=11:=by unfold Nz;rw[hf]
   refine Ret.mono (QZ w (hx.to hd (by simp)) (hx.to hb (by simp)) hM hbd hf) fun v w' ⟨h1,o',h2,h3⟩=>⟨by rw[hc];exact h1,o',?_,h3⟩;rw[VV (by rw[hc];decide)];exact h2
  |some d =>
   have hid:=(IK hf).2;have hm:=C4 ((GQ hof).1 d (IK hf).1).1;have hc:Nz ds k h=if d.held=h then 14 else 0:=by unfold Nz;rw[hf]
   refine Ret.mono (VZ (e:=if d.held=h then d else{ d with held:=h }) w (hx.to hd (by simp)) (hx.to hb (by simp)) hM hbd hf (by split <;> exact hid) qB fun b7 w' hb7 hx' h7=>Ag5 w' h7 (hx'.to hi (by rw[qab];omega)) (by have:=Bf hi;omega)) fun v w' ⟨h1,o',h2,h3⟩=>⟨by rw[hc];exact h1,o',?_,h3⟩
   by_cases hh:d.held=h
   .rw[if_pos hh,if_pos hh]at h2;rw[VV (by rw[hc,if_pos hh];decide)];exact h2
   .rw[if_neg hh,if_neg hh]at h2;unfold trnD at h2;rw[if_neg (by decide),if_neg (by show ¬d.am=0;omega),VY (TD hof) hf]at h2;unfold Jy;rw[hc,if_neg hh,if_pos rfl];exact h2
 refine A2 (fn:=f176) func176 U [.pointer (some ⟨bd,0,none⟩),.int .u64 k,.bool h] U ?_;refine Ad (Bu _ (.bool _) U U H ?_);rintro b5 w - H;refine Af U (qA (Ad (A9 U (Ae U (Cm [.pointer _] U (Am qB (hT b5 _ ((H.own _ (qaj ..)).elim (fun h=>by cases h) id) H.ext (H.get at0)) U ?_))))));rintro v w ⟨rfl,o',hM',H2⟩;refine Af U (qA (A6 (AD (v:=(.int _ _)) U U U ?_)));have H3:=H.ext.mono (S':=[b]) (by simp);exact⟨rfl,o',hM',⟨H3.trans H2.ext,H2.blk,H2.nd,fun y hy=>by rw[qab.1 hy];exact .inl (qab.2 rfl)⟩⟩
section
variable {bd b:Nat}{nx:Int}{o:Obj}{ds:List Du}
theorem Akm{k:Int}(w:World)(hd:w.heap[bd]?=some (Bl 165 (DU b nx)))(hb:w.heap[b]?=some o)(hM:Ds .u64 (dm ds) o)(hbd:bd≠b)(hof:ofC ds nx=0) :
  Ret prog 108 #[ptr bd,.int .u64 k] w fun v w'=>v=.int .i64 (Nz ds k true)/\∃o',Ds .u64 (dm (Jy ds k true)) o'/\Ctx w [b] w' [(b,o')]:=by
 obtain⟨w0,rfl⟩:=qD w;refine A2 (fn:=f108) func108 U [.pointer (some ⟨bd,0,none⟩),.int .u64 k] U ?_;refine Ad (Af U (qA (Ad (A9 U (Ae U (Am qB (Zo true _ hd hb hM hbd hof) U ?_))))));rintro v w ⟨rfl,E⟩;refine Af U (qA (A6 (AD (v:=(.int _ _)) U U U ?_)));exact⟨rfl,E⟩
theorem XQ{k:Int}(w:World)(hd:w.heap[bd]?=some (Bl 165 (DU b nx)))(hb:w.heap[b]?=some o)(hM:Ds .u64 (dm ds) o)(hbd:bd≠b)(hof:ofC ds nx=0) :
  Ret prog 109 #[ptr bd,.int .u64 k] w fun v w'=>v=.int .i64 (Nz ds k false)/\∃o',Ds .u64 (dm (Jy ds k false)) o'/\Ctx w [b] w' [(b,o')]:=by
 obtain⟨w0,rfl⟩:=qD w;refine A2 (fn:=f109) func109 U [.pointer (some ⟨bd,0,none⟩),.int .u64 k] U ?_;refine Ad (Af U (qA (Ad (A9 U (Ae U (Am qB (Zo false _ hd hb hM hbd hof) U ?_))))));rintro v w ⟨rfl,E⟩;refine Af U (qA (A6 (AD (v:=(.int _ _)) U U U ?_)));exact⟨rfl,E⟩
theorem Wa{k:Int}(w:World)(hd:w.heap[bd]?=some (Bl 165 (DU b nx)))(hb:w.heap[b]?=some o)(hM:Ds .u64 (dm ds) o)(hbd:bd≠b)(hof:ofC ds nx=0) :
  Ret prog 177 #[ptr bd,.int .u64 k,.func (.func 178) #[] #[]] w fun v w'=>v=.int .i64 (RZ ds k)/\∃o',Ds .u64 (dm (UC ds k)) o'/\Ctx w [b] w' [(b,o')]:=by
 cases hf:Dn ds k with
 |none =>
  have hc:RZ ds k=11:=by unfold RZ;rw[hf]
  refine Ret.mono (QZ (cl:=[]) w hd hb hM hbd hf) fun v w' ⟨h1,o',h2,h3⟩=>⟨by rw[hc];exact h1,o',?_,h3⟩;rw[Agq (by rw[hc];decide)];exact h2
 |some d =>
  have hid:=(IK hf).2;have hc:RZ ds k=0:=by unfold RZ;rw[hf]
  refine Ret.mono (VZ (cl:=[]) (e:={ d with am:=0 }) w hd hb hM hbd hf hid qB fun b7 w' hb7 hx' h7=>XP w' h7) fun v w' ⟨h1,o',h2,h3⟩=>⟨by rw[hc];exact h1,o',?_,h3⟩;unfold trnD at h2;rw[if_neg (by decide),if_pos rfl,Pd (TD hof)]at h2;exact h2
theorem Abl{k:Int}(w:World)(hd:w.heap[bd]?=some (Bl 165 (DU b nx)))(hb:w.heap[b]?=some o)(hM:Ds .u64 (dm ds) o)(hbd:bd≠b)(hof:ofC ds nx=0) :
  Ret prog 110 #[ptr bd,.int .u64 k] w fun v w'=>v=.int .i64 (RZ ds k)/\∃o',Ds .u64 (dm (UC ds k)) o'/\Ctx w [b] w' [(b,o')]:=by
 obtain⟨w0,rfl⟩:=qD w;refine A2 (fn:=f110) func110 U [.pointer (some ⟨bd,0,none⟩),.int .u64 k] U ?_;refine Ad (Af U (qA (Ad (A9 U (Ae U (Am qB (Wa _ hd hb hM hbd hof) U ?_))))));rintro v w ⟨rfl,E⟩;refine Af U (qA (A6 (AD (v:=(.int _ _)) U U U ?_)));exact⟨rfl,E⟩
end
def UE(ds:List Du)(u:Int)(i:Nat):List Du:=(ds.take i).filter (fun d=>decide (u<=d.un))++ds.drop i
def IU(ds:List Du)(u:Int)(i:Nat):List Value:=((ds.take i).filter fun d => !decide (u<=d.un)).map fun d => .int .u64 d.id
theorem Akn{X Y:List Du}{d:Du}(h:∀x∈X,x.id≠d.id):Mw (dm (X++d::Y)) d.id=dm (X++Y):=by
 induction X with
 |nil=>show(if d.id=d.id then dm Y else _)=_;rw[if_pos rfl];rfl
 |cons x X ih =>
  show(if x.id=d.id then _ else(x.id,G0 x)::Mw (dm (X++d::Y)) d.id)=_;rw[if_neg (h x (qaj ..)),ih fun y hy=>h y (qai _ hy)];rfl
theorem N0{ds:List Du}{u nx:Int}{i:Nat}{d:Du}(hof:ofC ds nx=0)(hd:ds[i]?=some d) :
  (u<=d.un->UE ds u (i+1)=UE ds u i/\IU ds u (i+1)=IU ds u i)/\(¬u<=d.un->Mw (dm (UE ds u i)) d.id=dm (UE ds u (i+1))/\IU ds u (i+1)=IU ds u i++[.int .u64 d.id]):=by
 have hil:=Cb hd;have ht:ds.take (i+1)=ds.take i++[d]:=qbt.trans (by rw[hd];rfl)
 have hdr:ds.drop i=d::ds.drop (i+1):=by
  have h1:=qdi hil;have h2:=qbq hil;rw[hd]at h2
  injection h2 with h2
  rw[h1,h2]
 have hn:∀x∈ds.take i,x.id≠d.id:=fun x hx=>by
  have h1:=(GQ hof).2;rw[<-qbn i ds,qax,qbz,hdr]at h1;exact Int.ne_of_lt (h1.2.2 x.id (qa8 hx) d.id (qa8 (qaj ..)))
 constructor
 .intro h;unfold UE IU;rw[ht,qco,qco,hdr];constructor
  .rw[qbw,if_pos (by simpa using h),qe0,qa9];rfl
  .rw[qbw,if_neg (by simpa using h),qe0,qa4]
 .intro h;unfold UE IU;rw[ht,qco,qco,hdr];constructor
  .rw[qbw,if_neg (by simpa using h),qe0,qa4];exact Akn fun x hx=>hn x (qbc.1 hx).1
  .rw[qbw,if_pos (by simpa using h),qe0,qax];rfl
theorem Ag6(ds:List Du)(u:Int):(IU ds u ds.length).length=ds.length - (Ot ds u).length/\UE ds u ds.length=Ot ds u:=by
 unfold IU UE Ot;rw[qbf,List.drop_length,qa4,qak];refine⟨?_,rfl⟩
 induction ds with
 |nil=>rfl
 |cons d ds ih =>
  have h1:=qdp (fun d=>decide (u<=d.un)) ds;rw[qbw,qbw]
  by_cases h:u<=d.un
  .rw[if_neg (by simpa using h),if_pos (by simpa using h),qa6,qa6,ih];omega
  .rw[if_pos (by simpa using h),if_neg (by simpa using h),qa6,qa6,ih];omega
structure ExS where
 i:Nat
 o:Obj
 a:Option Addr
 c:Nat
 full:List Value
theorem Abm{bd b:Nat}{nx u:Int}{o:Obj}{ds:List Du}(w:World)(hd:w.heap[bd]?=some (Bl 165 (DU b nx)))(hb:w.heap[b]?=some o)(hM:Ds .u64 (dm ds) o)(hbd:bd≠b)(hof:ofC ds nx=0) :
  Ret prog 111 #[ptr bd,.int .i64 u] w fun v w'=>∃o',Ds .u64 (dm (Ot ds u)) o'/\Ctx w [b] w' [(b,o')]/\∃a c,v=.slice a (ds.length - (Ot ds u).length) c:=by
 obtain⟨w0,rfl⟩:=qD w;obtain⟨h64,-,h3,-⟩:=D3 hof;have hbl:=Bf hb;refine A2 (fn:=f111) func111 U [.pointer (some ⟨bd,0,none⟩),.int .i64 u] U ?_;refine Ad (Az U (qA (Ad (Az U (qA (Ap (Ad (A9 U (Am qB (Nl _ hd hb hM (Lv hof)) U ?_)))))))));rintro v w ⟨ds',hS,F⟩;have hde:=Nr hS (Kt h3).2.1;rw[hde]at F;obtain⟨a3,n3,c3,f3,rfl,O3,hb3⟩:=F.ex;obtain rfl:=O3.numN (fun _ _=>rfl) (by decide);have hx9:=F.ext;refine AU BT U (Ae U (qA (Ax ?_)));obtain⟨w1,rfl⟩:=qD w;have R:Rd w1 a3 7 CM ds:=OS.rd O3 (fun x hx=>(hb3 x hx).1) (fun _ _=>rfl) (by decide)
 have hnb:ds≠[]->(adr a3).block∉[b]:=fun hne=>by
  have hpos:=qbv.2 hne;obtain⟨q,rfl⟩:=O3.form hpos;have h1:=(hb3 (q,Bl 67 f3) (qab.2 rfl)).2;rw[qab];show ¬q=b;dsimp only at h1;omega
 have H:=Ctx.start1 (hx9.to hb (by simp));have hd1:=hx9.to hd (by simp);have hn:bd∉[b]:=by rw[qab];exact hbd
 refine Bn 2147481760 (α:=ExS) (fun t=>[(5,.slice t.a (IU ds u t.i).length t.c),(11,.int .i64 (t.i:Int))]) (fun t w'=>t.i<=ds.length/\Ds .u64 (dm (UE ds u t.i)) t.o/\OS t.a (IU ds u t.i).length t.c 1 t.full (IU ds u t.i)/\Ctx w1 [b] w' ((b,t.o)::ent t.a 28 t.full)) (fun t=>ds.length - t.i) ⟨0,o,none,0,[]⟩ U ?_ ?_ ?_
 .exact⟨rfl,rfl,trivial⟩
 .exact⟨qaf _,hM,OS.nil,H⟩
 .rintro⟨i,o,a,c,full⟩ j w ⟨hi,hM,O,H⟩;dsimp only at hi hM O H;dsimp only;refine Ad (AZ U U (qA (Ap (Av _ U ?_ ?_))))
  .intro h1;replace h1:=AJ h1;obtain⟨d,hdi⟩:=AB (l:=ds) (i:=i);have hne:ds≠[]:=fun h=>by rw[h]at hdi;cases hdi
   have hdl:(IU ds u i).length<=ds.length:=by unfold IU;rw[qak];exact qbe (qdp ..) (by rw[qbm];omega)
   obtain⟨hs1,hs2⟩:=N0 (u:=u) hof hdi;refine Aq (Aa (Ap (Ax (Ad (AM R BT BC U U (by rfl) ?_)))));refine Ca _ EF BC U U (((R.ext' H.ext fun _=>hnb hne).row hdi U)) (AX DR H ?_);rintro b7 w - H;refine Bi BC U U U (by exact Dt _) H at0 U ?_;rintro w H;refine qA (Ad (Ah Nc U (AG Bm U H at0 U (Ae U (AZ U U (qA (Av _ U ?_ ?_)))))))
   .intro h2;replace h2:=AJ h2;obtain⟨hs3,hs4⟩:=hs2 (by omega);have hl4:(IU ds u (i+1)).length=(IU ds u i).length+1:=by rw[hs4,qat,qbx]
    refine Ad (Ao U (Ah Hr U (AG BL U H at0 U (Cs _ (.int _ _) BA Bx Qy U U U U H ?_))));rintro b22 w - H;refine C3 (L:=[_,_]) BA BA Bx Yz Qy U U U H O U (by simp[AS]) ?_;rintro a' c' full' w H O;refine Az U (qA (FK 6 Bs U U ?_));refine BO U (Bh U (A3 Et U (BF FU U (by rintro _ rfl;exact((H.drew.old (An hd1 _) hn))) ?_)));refine A3 Hr U (BS BL U (by rintro _ rfl;exact H.drew) at0 U ?_);refine BM ?_;replace H:=H.drew;refine NN U Gl FD U U H at1 hM ?_;rintro o2 w hM2 H;refine Ab (A7 (Aa (Ay (Aw U U ?_))));refine Ae U (qA ?_);rw[hs3]at hM2;exact⟨⟨i+1,o2,a',c',full'⟩,rfl,⟨by dsimp only;rw[hl4];rfl,rfl,trivial⟩,⟨by dsimp only;omega,hM2,by dsimp only;rw[hl4,hs4];exact O,H.tail⟩,by dsimp only;omega⟩
   .intro h2;replace h2:=AK h2;obtain⟨hs3,hs4⟩:=hs1 (by omega);refine Aq (A7 (Aa (Ay (Aw U U ?_))));refine Ae U (qA ?_);exact⟨⟨i+1,o,a,c,full⟩,rfl,⟨by dsimp only;rw[hs4];rfl,rfl,trivial⟩,⟨by dsimp only;omega,by dsimp only;rw[hs3];exact hM,by dsimp only;rw[hs4];exact O,H.tail⟩,by dsimp only;omega⟩
  .intro h1;replace h1:=AK h1;obtain rfl:i=ds.length:=by omega
   obtain⟨g1,g2⟩:=Ag6 ds u;rw[g2]at hM;refine Be (Aj (Aj (AH (Aa (Ad (Ao U (Az U (qA (A6 (AD (v:=(.slice _ _ _)) U U U ?_))))))))));exact⟨o,hM,⟨(hx9.mono (by simp)).trans H.ext,fun y hy=>H.blk y (qag.2 (.inl (qab.1 hy))),by simp,fun y hy=>by rw[qab.1 hy];exact .inl (qab.2 rfl)⟩,a,c,by rw[g1]⟩
theorem Ag7{bd b:Nat}{nx:Int}{o:Obj}{ds:List Du}(fr to x we un:Int)(w:World)(hd:w.heap[bd]?=some (Bl 165 (DU b nx)))(hb:w.heap[b]?=some o)(hM:Ds .u64 (dm ds) o)(hbd:bd≠b)(hof:ofC ds nx=0) :
  Ret prog 107 #[ptr bd,.int .i64 fr,.int .i64 to,.int .i64 x,.int .i64 we,.int .i64 un] w fun v w'=>v=.tuple #[.int .u64 (if Kx ds nx fr to x we un=0 then nx else 0),.int .i64 (Kx ds nx fr to x we un)] /\
   ∃o',Ds .u64 (dm (Oq ds nx fr to x we un)) o'/\Ctx w [bd,b] w' [(bd,Bl 165 (DU b (QW ds nx fr to x we un))),(b,o')]:=by
 obtain⟨w0,rfl⟩:=qD w
 have H:Ctx w0 [bd,b] w0 [(bd,Bl 165 (DU b nx)),(b,o)]:=⟨Ext.refl _ _,fun y hy=>by
  simp only[qag,qar,or_false]at hy
  rcases hy with rfl|rfl
  .exact hd
  .exact hb,by simp only[qbb,qab,forall_eq,qar,false_implies,implies_true,List.Pairwise.nil,and_true];exact hbd,fun y hy=>by
  simp only[qag,qar,or_false]at hy
  rcases hy with rfl|rfl
  .exact .inl (qaj ..)
  .exact .inl (qai _ (qaj ..))⟩
 obtain⟨hlen,hnx,-,-⟩:=D3 hof;have hnew:∀x∈ds,x.id≠nx:=fun x hx=>Int.ne_of_lt ((GQ hof).1 x hx).2.2;have hdl:(dm ds).length=ds.length:=by unfold dm;rw[qak]
 have hno:Eg (dm ds) nx=none:=Tn hnew;obtain⟨d,hdd⟩:=qD (Agm nx fr to x we un);obtain⟨tt,htt⟩:=qD (EN (ds.map Du.am++[x]));have henc:[Value.int .u64 nx,.int .i64 fr,.int .i64 to,.int .i64 x,.int .i64 we,.int .i64 un,.bool false]=CM d:=by rw[hdd];rfl
 have hadd:Kx ds nx fr to x we un=if mayD d=false then 1 else if 64<=ds.length\/4611686018427387904<=nx then 6 else if tt.2≠0 then 13 else 0:=by rw[htt,hdd];rfl
 have herr:∀c,c≠0->Kx ds nx fr to x we un=c->Oq ds nx fr to x we un=ds/\QW ds nx fr to x we un=nx:=fun c h0 hc=>Dr (by rw[hc];exact h0);refine A2 (fn:=f107) func107 U [.pointer (some ⟨bd,0,none⟩),.int .i64 fr,.int .i64 to,.int .i64 x,.int .i64 we,.int .i64 un] U ?_;refine Ad (Af U (Af U (qA (Ap (Ad (A9 U (C7 Ju U ?_)))))));refine qA (Av _ U ?_ ?_)
 .intro h0;cases h0
 .intro h0;refine Aq (Aa (Ad (A9 U (AP U (Ah Le U (AG BL U H at0 U (Ae U (Ae U (Ae U (Ae U ?_))))))))));refine Ae U (Bz (CM d) Al8 DR (hl:=by rw[<-henc];kernel_rfl) ?_);refine AX DR H ?_;rintro b14 w - H;refine Bi BC U U U (by exact Dt d) H at0 U ?_;rintro w H;refine qA (Ap (Ax (Ad (BV EF BC U H at0 U (Am qB (YU d _) U ?_)))));rintro v w ⟨rfl,hx31⟩;replace H:=H.call hx31;refine B1 U (Ai U (qA (Av _ U ?_ ?_)))
  .intro h1;replace h1:=Bv h1
   have hm:mayD d=false:=by cases hh:mayD d with|false=>rfl|true=>rw[hh]at h1;cases h1
   have hc:Kx ds nx fr to x we un=1:=by rw[hadd,if_pos hm]
   obtain⟨hc1,hc2⟩:=herr 1 (by decide) hc;refine Ad (Af U (Af U (qA (A6 (A5 (Al (BG (v1:=(.int _ _)) (v2:=(.int _ _)) U U U U ?_)))))));rw[hc,hc1,hc2,if_neg (by decide)];exact⟨rfl,o,hM,H.tail⟩
  .intro h1;replace h1:=Bw h1
   have hm:mayD d=true:=by cases hh:mayD d with|true=>rfl|false=>rw[hh]at h1;cases h1
   rw[hm]at hadd;rw[if_neg (by decide)]at hadd;refine Ap (Ad (A9 U (AP U (Ah Et U (AG FU U H at1 U (Aj9 U Gl U (H.get at2) hM ?_))))));rw[hdl];refine Cq U U (Ai U (qA (Dc 33 U ?_ ?_)))
   .intro h2;replace h2:=AJ h2;have hc:Kx ds nx fr to x we un=6:=by rw[hadd,if_pos (.inl (by omega))]
    obtain⟨hc1,hc2⟩:=herr 6 (by decide) hc;refine Aq (Aa (D4 U (Ad (Af U (Af U (qA (A6 (A5 (Al (BG (v1:=(.int _ _)) (v2:=(.int _ _)) U U U U ?_))))))))));rw[hc,hc1,hc2,if_neg (by decide)];exact⟨rfl,o,hM,H.tail⟩
   .intro h2;replace h2:=AK h2;refine Ay (A9 U (AP U (Ah Le U (AG BL U H at1 U (Cq U U (Ai U (qA (Dc 33 U ?_ ?_))))))))
    .intro h3;replace h3:=AJ h3;have hc:Kx ds nx fr to x we un=6:=by rw[hadd,if_pos (.inr (by omega))]
     obtain⟨hc1,hc2⟩:=herr 6 (by decide) hc;refine Ad (Af U (Af U (qA (A6 (A5 (Al (BG (v1:=(.int _ _)) (v2:=(.int _ _)) U U U U ?_)))))));rw[hc,hc1,hc2,if_neg (by decide)];exact⟨rfl,o,hM,H.tail⟩
    .intro h3;replace h3:=AK h3;rw[if_neg (by omega)]at hadd;refine Aq (A7 (Aa (Ap (Ad (A9 U (Am qB (amounts_ok _ (H.get at1) (H.get at2) hM (by omega)) U ?_))))));rintro v w ⟨l,hlp,F⟩;obtain⟨a3,n3,c3,f3,rfl,O3,hb3⟩:=F.ex;have hl3:=O3.llen;rw[qak]at hl3;have hlq:=hlp.length_eq;rw[qak]at hlq;replace H:Ctx w0 [bd,b] w ([(b14,Bl 67 (CM d)),(bd,Bl 165 (DU b nx)),(b,o)]++ent a3 2 f3):=H.callEnt F.ext hb3 FM;refine Ae U (Cs _ (.int _ _) AR Bt Eh U U U U H ?_);rintro b49 w - H;refine C3 (L:=[_,_,_]) AR AR Bt J9 Eh U U U H O3 U (by simp[AS]) ?_;rintro a' c' full' w H O;refine Am qB (LP a' (n3+1) c' (l++[x]) _ (OS.rd1 (f:=CQ) (t:=2) (xs:=l++[x]) (by rw[qax];exact O) (fun y hy=>H.blk y (qa0 [_,_,_] hy))) (by rw[qat];show l.length+1=_;omega)) U ?_
     rintro v w ⟨rfl,rfl⟩;rw[Tm (hlp.append_right [x])];rw[<-htt];refine BN U (AF U U (AF U U (Af U (Af U (qA (Ad (Ae U (C0 U U (qA ?_)))))))));refine Av _ U ?_ ?_
     .intro h4;replace h4:=CC h4
      have ht13:tt.2=13:=by
       rw[htt]at h4 |-;have hxm:=CR.2 (show 0<=x/\x<=4503599627370496 by obtain⟨-,-,-,hxa,-⟩:=C4 hm;rw[hdd]at hxa;change 1<=x/\x<=_ at hxa;exact⟨by omega,hxa.2⟩)
       have hall:(ds.map Du.am++[x]).all Db=true:=by
        rw[List.all_append,qae];refine⟨qas.2 fun y hy=>?_,by simpa using hxm⟩;exact(DF.1 (Ge.1 hof).2.2.2).1 y hy
       unfold EN at h4 |-;rw[if_neg (by rw[hall];decide)]at h4 |-
       split at h4
       .exact absurd U h4
       .rename_i hh;rw[if_neg hh]
      have hc:Kx ds nx fr to x we un=13:=by rw[hadd,if_pos (by rw[ht13];decide)]
      obtain⟨hc1,hc2⟩:=herr 13 (by decide) hc;refine Ad (Ae U (Af U (Af U (qA (A6 (Al (BG (v1:=(.int _ _)) (v2:=(.int _ _)) U U U U ?_)))))));rw[hc,hc1,hc2,if_neg (by decide),ht13];exact⟨rfl,o,hM,H.left.tail⟩
     .intro h4;replace h4:=CD h4;have hc:Kx ds nx fr to x we un=0:=by rw[hadd,if_neg (by omega)]
      replace H:=H.left;refine Aq (Aa (EB 7 Bs U U ?_));refine BO U (Bh U (A3 Et U (BS FU U (by rintro _ rfl;exact H.drew) at1 U ?_)));refine A3 Hr U (BS BL U (by rintro _ rfl;exact H.drew) at0 U ?_);refine PW U EF BC U (by rintro _ rfl;exact H.drew) at0 U ?_;refine BM ?_;replace H:=H.drew;refine Im (G0 d) U Gl FD U U U H at2 hM ?_;rintro o2 w hM2 H;refine qA (Ad (A9 U (AP U (Ah Le U (AG BL U H at1 U (EE U U ?_))))));refine AP U (Ah Le U (Cz (.int _ _) Bx U U U H at1 (by(simp;done)) ?_));rintro w H;refine qA (Ad (Ah Hr U (AG BL U H at0 U (Af U (Af U (qA (A6 (BG (v1:=(.int _ _)) (v2:=(.int _ _)) U U U U ?_))))))));have hid:d.id=nx:=by rw[hdd];rfl
      rw[<-hid]at hno;rw[Af3 hno]at hM2;unfold Oq QW;rw[hc,if_pos rfl,if_pos rfl,if_pos rfl];rw[hdd]at hM2 |-;exact⟨rfl,o2,hM2,H.tail⟩
def sameB(N M:Int)(xs ys:List Ed):Bool:=decide (N=M) && decide (xs=ys)
def RdAt(w:World)(br:Nat)(ds:List Du):Prop:=∃a c nx,w.heap[br]?=some (Bl 148 [.slice a ds.length c,.int .u64 nx])/\Rd w a 7 CM ds
theorem RdAt.ext0{w w':World}{br:Nat}{ds:List Du}(h:RdAt w br ds)(he:Ext [] w w'):RdAt w' br ds:=by
 obtain⟨a,c,nx,h1,h2⟩:=h;exact⟨a,c,nx,he.to h1 (by simp),h2.ext0 he⟩
abbrev RDU(ad:Option Addr)(m cd:Nat)(nx:Int):Obj:=Bl 148 [.slice ad m cd,.int .u64 nx]
abbrev RX(ba:Nat)(a:Option Addr)(n c:Nat)(full:List Value)(br:Nat)(ad:Option Addr)(m cd:Nat)(nx:Int)(fd:List Value):List (Nat × Obj):=(ba,Bl 125 [.slice a n c])::(br,RDU ad m cd nx)::(ent ad 67 fd++ent a 43 full)
structure RP7 where
 i:Nat
 ad:Option Addr
 cd:Nat
 fd:List Value
structure Four where
 bx:Nat
 a:Option Addr
 c:Nat
 full:List Value
 bd:Nat
 b:Nat
 o:Obj
 ba:Nat
 ra:Option Addr
 rc:Nat
 rfull:List Value
 br:Nat
 ad:Option Addr
 cd:Nat
 fd:List Value
def Four.L(z:Four)(acs:List Ac)(ds:List Du)(nx:Int):List (Nat × Obj):=LX z.bx z.a acs.length z.c z.full z.bd z.b nx z.o++RX z.ba z.ra acs.length z.rc z.rfull z.br z.ad ds.length z.cd nx z.fd
structure Four.Ok(z:Four)(acs:List Ac)(ds:List Du):Prop where
 O:OS z.a acs.length z.c 2 z.full (acs.flatMap Dm)
 M:Ds .u64 (dm ds) z.o
 RO:OS z.ra acs.length z.rc 2 z.rfull (acs.flatMap Dm)
 RD:OS z.ad ds.length z.cd 7 z.fd (ds.flatMap CM)
def Amj(acs:List Ac)(ds:List Du)(nx:Int):Bool:=decide (EA acs=0) && decide (ofC ds nx=0)
def BothRes(w:World)(acs:List Ac)(ds:List Du)(nx:Int)(v:Value)(w':World):Prop :=
 (Amj acs ds nx=false/\v=.tuple #[.pointer none,.pointer none,.pointer none,.pointer none,.bool false]/\Ext [] w w') \/
  (Amj acs ds nx=true/\∃z:Four,v=.tuple #[ptr z.bx,ptr z.bd,ptr z.ba,ptr z.br,.bool true]/\z.Ok acs ds/\Ctx w [] w' (z.L acs ds nx))
theorem XR{α:Type}(B L R:List α):(B++(L++R)).Perm (L++(B++R)):=by
 classical exact List.perm_iff_count.2 fun x=>by simp only[List.count_append];omega
theorem Ctx.mid{w0 w w':World}{S:List Nat}{B L L' R:List (Nat × Obj)}(H:Ctx w0 S w (B++(L++R)))(H':Ctx w (L.map (·.1)) w' L'):Ctx w0 S w' (B++(L'++R)) :=
 (Ctx.back (H.perm (XR B L R)) H').perm (XR B L' R).symm
theorem Ctx.in'{w0 w:World}{S:List Nat}{B L R:List (Nat × Obj)}(H:Ctx w0 S w (B++(L++R))):Ctx w (L.map (·.1)) w L:=Ctx.lend (H.perm (XR B L R))
theorem LX.ac{bx:Nat}{a:Option Addr}{c:Nat}{full:List Value}{bd b:Nat}{nx:Int}{o:Obj}{acs:List Ac}{w0 w:World}{S:List Nat}(H:Ctx w0 S w (LX bx a acs.length c full bd b nx o))(O:OS a acs.length c 2 full (acs.flatMap Dm)):AcAt w 162 bx acs :=
 ⟨a,c,H.get at0,OS.rd O (fun x hx=>H.blk x (qai _ (qai _ (qai _ hx)))) (fun _ _=>rfl) (by decide)⟩
theorem LX.du{bx:Nat}{a:Option Addr}{n c:Nat}{full:List Value}{bd b:Nat}{nx:Int}{o:Obj}{ds:List Du}{w0 w:World}{S:List Nat}(H:Ctx w0 S w (LX bx a n c full bd b nx o))(hM:Ds .u64 (dm ds) o):DuAt w bd ds :=
 ⟨b,nx,o,H.get at1,H.get at2,hM⟩
theorem RX.ac{ba:Nat}{a:Option Addr}{c:Nat}{full:List Value}{br:Nat}{ad:Option Addr}{m cd:Nat}{nx:Int}{fd:List Value}{acs:List Ac}{w0 w:World}{S:List Nat}(H:Ctx w0 S w (RX ba a acs.length c full br ad m cd nx fd))(O:OS a acs.length c 2 full (acs.flatMap Dm)):AcAt w 125 ba acs :=
 ⟨a,c,H.get at0,OS.rd O (fun x hx=>H.blk x (qai _ (qai _ (qa0 _ hx)))) (fun _ _=>rfl) (by decide)⟩
theorem RX.du{ba:Nat}{a:Option Addr}{n c:Nat}{full:List Value}{br:Nat}{ad:Option Addr}{cd:Nat}{nx:Int}{fd:List Value}{ds:List Du}{w0 w:World}{S:List Nat}(H:Ctx w0 S w (RX ba a n c full br ad ds.length cd nx fd))(O:OS ad ds.length cd 7 fd (ds.flatMap CM)):RdAt w br ds :=
 ⟨ad,cd,nx,H.get at1,OS.rd O (fun x hx=>H.blk x (qai _ (qai _ (qao _ hx)))) (fun _ _=>rfl) (by decide)⟩
theorem ROff.old{w0 w:World}{S:List Nat}{L:List (Nat × Obj)}{q:RSl}{r:Rnd}(H:Ctx w0 S w L)(h:ROff q r (fun x=>x<w.heap.size)):ROff q r (·∈L.map (·.1)) :=
 h.mono fun x hx=>by
  obtain⟨y,hy,rfl⟩:=qah.1 hx;exact Bf (H.blk y hy)
structure RBnd(r:Rnd):Prop where
 N:I64 r.N
 es:r.es.length<=1000000
 ids:r.ids.length<=1000000
 fl:r.fl.length<=1000000
 pot:r.pot.length<=1000000
theorem Ag8{acs:List Ac}{ds:List Du}{net:Bool}{r:Rnd}(P:PlanR acs ds net r):RBnd r:=by
 obtain⟨h1,h2,-⟩:=GF.1 P.chk;obtain⟨g1,g2,g3,-⟩:=CB (Cw (ER h1).1).2.1;have g4:=(Cw (ER h1).1).1;have g5:=(Lo h2).1;refine⟨⟨by omega,by omega⟩,by omega,?_,by omega,by omega⟩;rw[P.ids,qak];have:(opn ds).length<=r.es.length:=by rw[P.es,Iq];omega
 omega
theorem Abn{bx bd b c:Nat}{a:Option Addr}{full:List Value}{o:Obj}{acs:List Ac}{ds:List Du}{nx:Int}{r:Rnd}{q:RSl}{w w0:World}{S:List Nat}{B R:List (Nat × Obj)}(ha:EA acs=0)(hd:ofC ds nx=0)(H:Ctx w0 S w (B++(LX bx a acs.length c full bd b nx o++R)))(O:OS a acs.length c 2 full (acs.flatMap Dm))(hM:Ds .u64 (dm ds) o)(RA:RAt w r q)(hoff:ROff q r (·∈(LX bx a acs.length c full bd b nx o).map (·.1)))(hr:RBnd r) :
  Ret prog 113 #[ptr bx,ptr bd,.agg (BD r q).toArray] w fun v w'=>v=.int .i64 (EU acs ds r)/\∃full' o',OS a acs.length c 2 full' ((Fs acs ds r).flatMap Dm)/\Ds .u64 (dm (Ep acs ds r)) o' /\
   Ext ((LX bx a acs.length c full bd b nx o).map (·.1)) w w'/\Ctx w0 S w' (B++(LX bx a acs.length c full' bd b nx o'++R)):=by
 refine Ret.mono (Agj ha hd w (Ctx.in' H) O hM RA hoff hr.N hr.es hr.ids hr.fl hr.pot) fun v w' h=>?_;obtain⟨h1,full',o',O',hM',H'⟩:=h;exact⟨h1,full',o',O',hM',H'.ext,Ctx.mid H H'⟩
theorem Zp{a:Option Addr}{t:TypeId}{f g:List Value}:(ent a t f).map (·.1)=(ent a t g).map (·.1):=by cases a <;> rfl
abbrev xA0:List Ac:=[⟨5,0⟩,⟨0,0⟩]
abbrev xA1:List Ac:=[⟨0,0⟩,⟨5,0⟩]
abbrev xD0:List Du:=[⟨1,0,1,9,1,1,false⟩]
abbrev xD1:List Du:=[⟨1,0,1,4,1,1,false⟩]
abbrev xE0:List Ed:=[⟨0,1,9,-1⟩,⟨2,0,5,0⟩,⟨0,2,4503599627370496,0⟩,⟨2,1,0,0⟩,⟨1,2,4503599627370496,0⟩]
theorem TE{l:List Int}(h:0<l.length:=by omega):l.take 1=[flE l 0]:=by
 cases l with
 |nil=>exact absurd h (by decide)
 |cons x l=>rfl
structure Lm where
 bl:Nat
 ba:Nat
 bd:Nat
 br:Nat
 b:Nat
 a:Option Addr
 c:Nat
 full:List Value
 o:Obj
 arch:List Value
abbrev LL(m:Lm)(s:Ld):List (Nat × Obj):=(m.bl,Bl 106 [ptr m.ba,ptr m.bd,ptr m.br,.int .i64 s.day])::(m.br,Bl 168 m.arch)::LX m.ba m.a s.acs.length m.c m.full m.bd m.b s.nx m.o
abbrev Di(m:Lm)(s:Ld):List Nat:=(LL m s).map fun x=>x.1
def KIn(w:World)(arch:List Value)(r:Rnd)(T:Nat->Prop):Prop :=
 ∃q,(∀j v,(BD r q)[j]?=some v->arch[(r.no % 4).toNat*8+j]?=some v)/\RAt w r q/\ROff q r T
structure LdIn(w:World)(m:Lm)(s:Ld)(T:Nat->Prop):Prop where
 O:OS m.a s.acs.length m.c 2 m.full (s.acs.flatMap Dm)
 M:Ds .u64 (dm s.ds) m.o
 ok:s.Ok
 len:m.arch.length=34
 n:m.arch[32]?=some (.int .u64 s.rn.length)
 no:m.arch[33]?=some (.int .u64 s.no)
 kept:∀r∈s.rn,KIn w m.arch r T
 own:∀x∈Di m s,T x
 low:∀x,T x->x<w.heap.size
abbrev Ci(k:Ak):List Value:=[.int .u8 k.kd,.int .i64 k.a,.int .i64 k.b,.int .i64 k.x,.int .i64 k.w,.int .i64 k.u,.int .u64 k.id]
theorem Ctx.acs7{w0 w w':World}{S:List Nat}{P:List (Nat × Obj)}{a:Option Addr}{t:TypeId}{full full':List Value}(H:Ctx w0 S w (P++ent a t full))(he:Ext ((ent a t full).map fun x=>x.1) w w')(hb:∀x∈ent a t full',w'.heap[x.1]?=some x.2):Ctx w0 S w' (P++ent a t full'):=by
 have h1:Ctx w ((ent a t full).map fun x=>x.1) w' (ent a t full'):=⟨he,hb,FM,fun x hx => .inl (by
  rw[Zp (f:=full) (g:=full')]
  exact qa8 (f:=fun x:Nat × Obj=>x.1) hx)⟩
 exact(Ctx.back H.comm h1).comm
theorem LdIn.turn{w w':World}{m m':Lm}{s s':Ld}{T:Nat->Prop}{S:List Nat}(I:LdIn w m s T)(he:Ext S w w')(hs:∀x∈S,T x)(O:OS m'.a s'.acs.length m'.c 2 m'.full (s'.acs.flatMap Dm))(M:Ds .u64 (dm s'.ds) m'.o)(ok:s'.Ok)(ha:m'.arch=m.arch)(hr:s'.rn=s.rn)(hn:s'.no=s.no)(hid:∀x∈Di m' s',(T x\/w.heap.size<=x)/\x<w'.heap.size) :
  LdIn w' m' s' (fun x=>T x\/x∈Di m' s') where
 O:=O
 M:=M
 ok:=ok
 len:=by rw[ha];exact I.len
 n:=by rw[ha,hr];exact I.n
 no:=by rw[ha,hn];exact I.no
 kept:=fun r h=>by
  rw[hr]at h;obtain⟨q,h1,h2,h3⟩:=I.kept r h;rw[ha];exact⟨q,h1,h2.ext he (h3.mono hs),(h3.or h2.lt).mono fun x hx=>hx.elim .inl fun hx=>(hid x hx).1⟩
 own:=fun x hx => .inr hx
 low:=fun x hx=>hx.elim (fun h=>qa3 (I.low x h) he.size) fun h=>(hid x h).2
def GS(w:World)(m:Lm)(s:Ld)(T:Nat->Prop)(k:Ak)(v:Value)(w':World):Prop :=
 ∃a n c full code l s' m',v=.tuple #[.slice a n c,.int .i64 code]/\OS a n c 1 full (l.map CQ)/\CI s k s' (rp l code)/\Ctx w (Di m s) w' (LL m' s'++ent a 2 full)/\(∀x∈ent a 2 full,w.heap.size<=x.1)/\LdIn w' m' s' (fun x=>T x\/x∈Di m' s')/\m'.bl=m.bl
theorem Es{w w1 w':World}{m m':Lm}{s s':Ld}{T:Nat->Prop}{k:Ak}{P:List (Nat × Obj)}{a:Option Addr}{n c:Nat}{code:Int}{l:List Int}(I:LdIn w m s T)(H:Ctx w (Di m s) w1 (P++LL m' s'))(F:Fresh w1 w' 2 1 (.slice a n c) (l.map CQ))(hst:CI s k s' (rp l code))(O:OS m'.a s'.acs.length m'.c 2 m'.full (s'.acs.flatMap Dm))(M:Ds .u64 (dm s'.ds) m'.o)(ok:s'.Ok)(ha:m'.arch=m.arch)(hr:s'.rn=s.rn)(hn:s'.no=s.no)(hbl:m'.bl=m.bl):GS w m s T k (.tuple #[.slice a n c,.int .i64 code]) w':=by
 obtain⟨a',n',c',full,hv,OF,hb⟩:=F.ex;cases hv;have H1:Ctx w (Di m s) w1 (LL m' s'):=H.right;have H2:=H1.callEnt F.ext hb FM;refine⟨a,n,c,full,code,l,s',m',rfl,OF,hst,H2,fun x hx=>qbe H1.size (hb x hx).2,I.turn H2.ext I.own O M ok ha hr hn fun x hx=>?_,hbl⟩;obtain⟨y,hy,rfl⟩:=qah.1 hx;exact⟨(H1.own y hy).imp_left (I.own _),Bf (H2.left.blk y hy)⟩
structure AkIn(k:Ak):Prop where
 kd:0<=k.kd/\k.kd<=255
 a:I64 k.a
 b:I64 k.b
 x:I64 k.x
 w:I64 k.w
 u:I64 k.u
 id:0<=k.id/\k.id<=18446744073709551615
theorem Hh{w0 w:World}{b:Nat}{t:TypeId}{l:List Value}{n:Nat}{L:List (Nat × Obj)}(H:Ctx w0 [] w ((b,Bl t l)::L))(hn:l.length=n):Fresh w0 w t 1 (.slice (some ⟨b,0,none⟩) n n) l:=by
 subst hn;refine⟨⟨some ⟨b,0,none⟩,l.length,l.length,l,rfl,⟨fun p hp=>?_,fun h=>?_,by rw[qcl],qan _,by rw[qcl,qbf]⟩,fun x hx=>?_⟩,H.ext⟩
 .cases hp;rfl
 .cases h
 .rw[qab.1 hx];exact⟨H.get at0,(H.own _ (qaj ..)).elim (fun h=>by cases h) id⟩
theorem PC{bl ba c:Nat}{v1 v2 v3:Value}{a:Option Addr}{acs:List Ac}(k e:Int)(w:World)(hl:w.heap[bl]?=some (Bl 106 [ptr ba,v1,v2,v3]))(hd:AcB ba a acs.length c w)(R:Rd w a 2 Dm acs)(hn:acs.length<=1000000:=by omega):
  Ret prog 103 #[ptr bl,.int .i64 k,.int .i64 e] w fun v w'=>∃a' c',v=.tuple #[.slice a' 2 c',.int .i64 (if e=0/\inA acs k=false then 10 else e)]/\Fresh w w' 2 1 (.slice a' 2 c') ((Sa acs k).map CQ):=by
 obtain⟨w0,rfl,H⟩:=qE w;refine A2 (fn:=f103) func103 U [.pointer (some ⟨bl,0,none⟩),.int .i64 k,.int .i64 e] U ?_;refine Ad (Az U (Af U (qA (Ad (A9 U (AP U (Ah Gn U (Ba Jf U ((H.old (An hl _) (by simp))) ?_))))))));refine Ae U (Am qB (PB a _ c acs k _ (H.ext.to hd (by simp)) (R.ext0 H.ext) U hn) U ?_);rintro v w ⟨rfl,hx16⟩;replace H:=H.call hx16;refine BN U (AF U U (AF U U (AX JC H ?_)));rintro b8 w - H;refine Bi DP U U U (by simp[AS]) H at0 U ?_;rintro w H;refine Ai U (qA (Ap (Ad (B9 (α:=Unit) 33030144 (fun _=>[(24,.bool (decide (e=0) && !inA acs k))]) (fun _ w'=>Ctx w0 [] w' [(b8,Bl 43 (Dm (DA acs k)))]) U ?_ ?_))))
 .refine Ae U (Cj U U (Au U (AE 21 U ?_ ?_)))
  .intro h1;replace h1:=AJ h1;refine Au U (B1 U (A8 U (.bool _) U (Ab ?_)));exact⟨rfl,(),rfl,⟨qaa Value.bool (by rw[qad];simp_all;try omega),trivial⟩,H⟩
  .intro h2;replace h2:=AK h2;refine Ag U (Ag U (AA U (.bool _) U (Ab ?_)));exact⟨rfl,(),rfl,⟨qaa Value.bool (by rw[qad];simp_all;try omega),trivial⟩,H⟩
 rintro - j24 w H;refine Av _ U ?_ ?_
 .intro h1;rw[qae,qam,qbr]at h1;rw[if_pos h1];refine Ay (Af U (qA (Ad (Ah Ex U (AG Bm U H at0 U (Ah Hn U (AG Bm U H at0 U (Dq [.int .i64 (DA acs k).ba,.int .i64 (DA acs k).re] AR Bt Eh H ?_))))))));rintro b29 w - H;refine Ae U (Az U (Af U (qA (A6 (BG (v1:=(.slice _ _ _)) (v2:=(.int _ _)) U U U U ?_)))));exact⟨_,_,rfl,Hh H rfl⟩
 .intro h1;rw[if_neg (fun h=>by rw[h.2,qal h.1]at h1;cases h1)];refine Aq (Aa (Ad (Ah Ex U (AG Bm U H at0 U (Ah Hn U (AG Bm U H at0 U (Dq [.int .i64 (DA acs k).ba,.int .i64 (DA acs k).re] AR Bt Eh H ?_)))))));rintro b29 w - H;refine Ae U (Az U (Af U (qA (A6 (BG (v1:=(.slice _ _ _)) (v2:=(.int _ _)) U U U U ?_)))));exact⟨_,_,rfl,Hh H rfl⟩
theorem Ag9{m:Lm}{s:Ld}{T:Nat->Prop}{k:Ak}(hk:k.kd=2)(hin:AkIn k)(w:World)(I:LdIn w m s T)(H0:Ctx w (Di m s) w (LL m s)) :
  Ret prog 55 #[ptr m.bl,.agg (Ci k).toArray] w (GS w m s T k):=by
 obtain⟨w0,rfl⟩:=qD w;obtain⟨bl,ba,bd,br,b,a,c,full,o,arch⟩:=m;obtain⟨S0,hS0⟩:=qD (Di ⟨bl,ba,bd,br,b,a,c,full,o,arch⟩ s);have H:Ctx w0 S0 w0 ((bl,Bl 106 [ptr ba,ptr bd,ptr br,.int .i64 s.day])::(br,Bl 168 arch)::(ba,Bl 162 [.slice a s.acs.length c])::(bd,Bl 165 (DU b s.nx))::(b,o)::ent a 43 full):=by rw[hS0];exact H0
 have hn16:=(Cr.1 I.ok.ac).1;obtain⟨hok,hlen,-⟩:=Zj I.ok.ac k.a k.x;have hoth:FI s k={ s with acs:=Fx s.acs k.a k.x }:=by unfold FI;rw[if_neg (by omega),if_pos hk]
 have hokS:({ s with acs:=Fx s.acs k.a k.x }:Ld).Ok:=by rw[<-hoth];exact Ky I.ok k hin.u.2
 have hstep:CI s k { s with acs:=Fx s.acs k.a k.x } (rp (Sa (Fx s.acs k.a k.x) k.a) (GG s.acs k.a k.x)):=by
  unfold CI;rw[if_neg (by omega)];exact⟨hoth.symm,by unfold Gg;rw[if_neg (by omega),if_pos hk]⟩
 have hcode:(if GG s.acs k.a k.x=0/\inA (Fx s.acs k.a k.x) k.a=false then 10 else GG s.acs k.a k.x)=GG s.acs k.a k.x:=by
  rw[if_neg];rintro⟨h1,h2⟩
  rcases Kw s.acs k.a k.x with⟨h3,-⟩|⟨-,h4,-⟩
  .exact h3 h1
  .have h5:inA (Fx s.acs k.a k.x) k.a=inA s.acs k.a:=by unfold inA;rw[hlen]
   rw[h5,h4]at h2;cases h2
 refine A2 (fn:=f55) func55 U [.pointer (some ⟨bl,0,none⟩),.agg (Ci k).toArray] U ?_;refine Ad (Bu (Ci k) (.agg _) U U H ?_);rintro b3 w - H;refine Az U (Af U (qA (C1 [([0,1,2,3,4,5,6,7,8,9,10],11),([],12),([13,14,15],16)] (fun z=>z.heap[b3]?=some (Bl 40 (Ci k))/\z.heap[bl]?=some (Bl 106 [ptr ba,ptr bd,ptr br,.int .i64 s.day])) [] Bs (⟨H.drew.get at0,H.drew.get at1⟩) ?_)));refine AO U U (BZ U (A1 GM U (B5 B6 U (fun _ hx=>(by rw[An hx.1];rfl)) ?_)));refine BZ U (Bp U (A1 Gn U (B5 Jf U (fun _ hx=>(by rw[An hx.2];rfl)) ?_)));refine A1 GM U (B5 B6 U (fun _ hx=>(by rw[An hx.1];rfl)) ?_);refine A1 Py U (B5 Bm U (fun _ hx=>(by rw[An hx.1];rfl)) ?_);refine Bb ?_;replace H:=H.drew;refine Am qB (Ag1 _ (H.get at3) I.O (fun y hy=>H.blk y (qa0 [_,_,_,_,_,_] hy)) I.ok.ac) U ?_
 rintro v w ⟨rfl,full',O',hb',he'⟩;replace H:Ctx w0 S0 w ((b3,Bl 40 (Ci k))::(bl,Bl 106 [ptr ba,ptr bd,ptr br,.int .i64 s.day])::(br,Bl 168 arch)::(ba,Bl 162 [.slice a (Fx s.acs k.a k.x).length c])::(bd,Bl 165 (DU b s.nx))::(b,o)::ent a 43 full'):=(by rw[hlen];exact Ctx.acs7 (P:=[_,_,_,_,_,_]) H he' hb');replace O':OS a (Fx s.acs k.a k.x).length c 2 full' ((Fx s.acs k.a k.x).flatMap Dm):=(by rw[hlen];exact O');refine Ab (BR (⟨H.get at0,H.get at1⟩) (AO U U ?_));refine Bb (Am qB (PC k.a _ _ (H.get at1) (H.get at3) (OS.rd (t:=43) O' (fun y hy=>H.blk y (qa0 [_,_,_,_,_,_] hy)) (fun _ _=>rfl) (by decide))) U ?_);rintro v w ⟨a',c',rfl,F⟩;rw[hcode];have H8:=H;replace H:=H.call F.ext;refine Ab (BR (⟨H.get at0,H.get at1⟩) (AO U U ?_))
 refine B7 U U (B7 U U (E7 U (Bb (Af U (Ab (BR (⟨H.get at0,H.get at1⟩) (BK (A6 (BG (v1:=(.slice _ _ _)) (v2:=(.int _ _)) U U U U ?_)))))))));subst hS0;exact Es (P:=[_]) (m':=⟨bl,ba,bd,br,b,a,c,full',o,arch⟩) (s':={ s with acs:=Fx s.acs k.a k.x }) I H8 F hstep O' I.M hokS U U U U
theorem Aha{m:Lm}{s:Ld}{T:Nat->Prop}{k:Ak}(hk:k.kd=3)(hin:AkIn k)(w:World)(I:LdIn w m s T)(H0:Ctx w (Di m s) w (LL m s)) :
  Ret prog 56 #[ptr m.bl,.agg (Ci k).toArray] w (GS w m s T k):=by
 obtain⟨w0,rfl⟩:=qD w;obtain⟨bl,ba,bd,br,b,a,c,full,o,arch⟩:=m;obtain⟨S0,hS0⟩:=qD (Di ⟨bl,ba,bd,br,b,a,c,full,o,arch⟩ s);have H:Ctx w0 S0 w0 ((bl,Bl 106 [ptr ba,ptr bd,ptr br,.int .i64 s.day])::(br,Bl 168 arch)::(ba,Bl 162 [.slice a s.acs.length c])::(bd,Bl 165 (DU b s.nx))::(b,o)::ent a 43 full):=by rw[hS0];exact H0
 have hn16:=(Cr.1 I.ok.ac).1;obtain⟨hok,hlen,-⟩:=Zk I.ok.ac k.a k.x;have hoth:FI s k={ s with acs:=Fy s.acs k.a k.x }:=by unfold FI;rw[if_neg (by omega),if_neg (by omega),if_pos hk]
 have hokS:({ s with acs:=Fy s.acs k.a k.x }:Ld).Ok:=by rw[<-hoth];exact Ky I.ok k hin.u.2
 have hstep:CI s k { s with acs:=Fy s.acs k.a k.x } (rp (Sa (Fy s.acs k.a k.x) k.a) (GH s.acs k.a k.x)):=by
  unfold CI;rw[if_neg (by omega)];exact⟨hoth.symm,by unfold Gg;rw[if_neg (by omega),if_neg (by omega),if_pos hk]⟩
 have hcode:(if GH s.acs k.a k.x=0/\inA (Fy s.acs k.a k.x) k.a=false then 10 else GH s.acs k.a k.x)=GH s.acs k.a k.x:=by
  rw[if_neg];rintro⟨h1,h2⟩
  rcases MB s.acs k.a k.x with⟨h3,-⟩|⟨-,h4,-⟩
  .exact h3 h1
  .have h5:inA (Fy s.acs k.a k.x) k.a=inA s.acs k.a:=by unfold inA;rw[hlen]
   rw[h5,h4]at h2;cases h2
 refine A2 (fn:=f56) func56 U [.pointer (some ⟨bl,0,none⟩),.agg (Ci k).toArray] U ?_;refine Ad (Bu (Ci k) (.agg _) U U H ?_);rintro b3 w - H;refine Az U (Af U (qA (C1 [([0,1,2,3,4,5,6,7,8,9,10],11),([],12),([13,14,15],16)] (fun z=>z.heap[b3]?=some (Bl 40 (Ci k))/\z.heap[bl]?=some (Bl 106 [ptr ba,ptr bd,ptr br,.int .i64 s.day])) [] Bs (⟨H.drew.get at0,H.drew.get at1⟩) ?_)));refine AO U U (BZ U (A1 GM U (B5 B6 U (fun _ hx=>(by rw[An hx.1];rfl)) ?_)));refine BZ U (Bp U (A1 Gn U (B5 Jf U (fun _ hx=>(by rw[An hx.2];rfl)) ?_)));refine A1 GM U (B5 B6 U (fun _ hx=>(by rw[An hx.1];rfl)) ?_);refine A1 Py U (B5 Bm U (fun _ hx=>(by rw[An hx.1];rfl)) ?_);refine Bb ?_;replace H:=H.drew;refine Am qB (Ag2 _ (H.get at3) I.O (fun y hy=>H.blk y (qa0 [_,_,_,_,_,_] hy)) I.ok.ac) U ?_
 rintro v w ⟨rfl,full',O',hb',he'⟩;replace H:Ctx w0 S0 w ((b3,Bl 40 (Ci k))::(bl,Bl 106 [ptr ba,ptr bd,ptr br,.int .i64 s.day])::(br,Bl 168 arch)::(ba,Bl 162 [.slice a (Fy s.acs k.a k.x).length c])::(bd,Bl 165 (DU b s.nx))::(b,o)::ent a 43 full'):=(by rw[hlen];exact Ctx.acs7 (P:=[_,_,_,_,_,_]) H he' hb');replace O':OS a (Fy s.acs k.a k.x).length c 2 full' ((Fy s.acs k.a k.x).flatMap Dm):=(by rw[hlen];exact O');refine Ab (BR (⟨H.get at0,H.get at1⟩) (AO U U ?_));refine Bb (Am qB (PC k.a _ _ (H.get at1) (H.get at3) (OS.rd (t:=43) O' (fun y hy=>H.blk y (qa0 [_,_,_,_,_,_] hy)) (fun _ _=>rfl) (by decide))) U ?_);rintro v w ⟨a',c',rfl,F⟩;rw[hcode];have H8:=H;replace H:=H.call F.ext;refine Ab (BR (⟨H.get at0,H.get at1⟩) (AO U U ?_))
 refine B7 U U (B7 U U (E7 U (Bb (Af U (Ab (BR (⟨H.get at0,H.get at1⟩) (BK (A6 (BG (v1:=(.slice _ _ _)) (v2:=(.int _ _)) U U U U ?_)))))))));subst hS0;exact Es (P:=[_]) (m':=⟨bl,ba,bd,br,b,a,c,full',o,arch⟩) (s':={ s with acs:=Fy s.acs k.a k.x }) I H8 F hstep O' I.M hokS U U U U
theorem Ako{m:Lm}{s:Ld}{T:Nat->Prop}{k:Ak}(hk:k.kd=4)(hin:AkIn k)(w:World)(I:LdIn w m s T)(H0:Ctx w (Di m s) w (LL m s)) :
  Ret prog 57 #[ptr m.bl,.agg (Ci k).toArray] w (GS w m s T k):=by
 obtain⟨w0,rfl⟩:=qD w;obtain⟨bl,ba,bd,br,b,a,c,full,o,arch⟩:=m;obtain⟨S0,hS0⟩:=qD (Di ⟨bl,ba,bd,br,b,a,c,full,o,arch⟩ s);have H:Ctx w0 S0 w0 ((bl,Bl 106 [ptr ba,ptr bd,ptr br,.int .i64 s.day])::(br,Bl 168 arch)::(ba,Bl 162 [.slice a s.acs.length c])::(bd,Bl 165 (DU b s.nx))::(b,o)::ent a 43 full):=by rw[hS0];exact H0
 have hn16:=(Cr.1 I.ok.ac).1;obtain⟨hok,hlen,-⟩:=Agk I.ok.ac k.a k.x;have hoth:FI s k={ s with acs:=Ih s.acs k.a k.x }:=by unfold FI;(iterate 3 rw[if_neg (by omega)]);rw[if_pos hk]
 have hokS:({ s with acs:=Ih s.acs k.a k.x }:Ld).Ok:=by rw[<-hoth];exact Ky I.ok k hin.u.2
 have hstep:CI s k { s with acs:=Ih s.acs k.a k.x } (rp (Sa (Ih s.acs k.a k.x) k.a) (Nv s.acs k.a k.x)):=by
  unfold CI;rw[if_neg (by omega)];exact⟨hoth.symm,by unfold Gg;(iterate 3 rw[if_neg (by omega)]);rw[if_pos hk]⟩
 have hcode:(if Nv s.acs k.a k.x=0/\inA (Ih s.acs k.a k.x) k.a=false then 10 else Nv s.acs k.a k.x)=Nv s.acs k.a k.x:=by
  rw[if_neg];rintro⟨h1,h2⟩
  rcases T0 s.acs k.a k.x with⟨h3,-⟩|⟨-,h4,-⟩
  .exact h3 h1
  .have h5:inA (Ih s.acs k.a k.x) k.a=inA s.acs k.a:=by unfold inA;rw[hlen]
   rw[h5,h4]at h2;cases h2
 refine A2 (fn:=f57) func57 U [.pointer (some ⟨bl,0,none⟩),.agg (Ci k).toArray] U ?_;refine Ad (Bu (Ci k) (.agg _) U U H ?_);rintro b3 w - H;refine Az U (Af U (qA (C1 [([0,1,2,3,4,5,6,7,8,9,10],11),([],12),([13,14,15],16)] (fun z=>z.heap[b3]?=some (Bl 40 (Ci k))/\z.heap[bl]?=some (Bl 106 [ptr ba,ptr bd,ptr br,.int .i64 s.day])) [] Bs (⟨H.drew.get at0,H.drew.get at1⟩) ?_)));refine AO U U (BZ U (A1 GM U (B5 B6 U (fun _ hx=>(by rw[An hx.1];rfl)) ?_)));refine BZ U (Bp U (A1 Gn U (B5 Jf U (fun _ hx=>(by rw[An hx.2];rfl)) ?_)));refine A1 GM U (B5 B6 U (fun _ hx=>(by rw[An hx.1];rfl)) ?_);refine A1 Py U (B5 Bm U (fun _ hx=>(by rw[An hx.1];rfl)) ?_);refine Bb ?_;replace H:=H.drew;refine Am qB (Akl _ (H.get at3) I.O (fun y hy=>H.blk y (qa0 [_,_,_,_,_,_] hy)) I.ok.ac) U ?_
 rintro v w ⟨rfl,full',O',hb',he'⟩;replace H:Ctx w0 S0 w ((b3,Bl 40 (Ci k))::(bl,Bl 106 [ptr ba,ptr bd,ptr br,.int .i64 s.day])::(br,Bl 168 arch)::(ba,Bl 162 [.slice a (Ih s.acs k.a k.x).length c])::(bd,Bl 165 (DU b s.nx))::(b,o)::ent a 43 full'):=(by rw[hlen];exact Ctx.acs7 (P:=[_,_,_,_,_,_]) H he' hb');replace O':OS a (Ih s.acs k.a k.x).length c 2 full' ((Ih s.acs k.a k.x).flatMap Dm):=(by rw[hlen];exact O');refine Ab (BR (⟨H.get at0,H.get at1⟩) (AO U U ?_));refine Bb (Am qB (PC k.a _ _ (H.get at1) (H.get at3) (OS.rd (t:=43) O' (fun y hy=>H.blk y (qa0 [_,_,_,_,_,_] hy)) (fun _ _=>rfl) (by decide))) U ?_);rintro v w ⟨a',c',rfl,F⟩;rw[hcode];have H8:=H;replace H:=H.call F.ext;refine Ab (BR (⟨H.get at0,H.get at1⟩) (AO U U ?_))
 refine B7 U U (B7 U U (E7 U (Bb (Af U (Ab (BR (⟨H.get at0,H.get at1⟩) (BK (A6 (BG (v1:=(.slice _ _ _)) (v2:=(.int _ _)) U U U U ?_)))))))));subst hS0;exact Es (P:=[_]) (m':=⟨bl,ba,bd,br,b,a,c,full',o,arch⟩) (s':={ s with acs:=Ih s.acs k.a k.x }) I H8 F hstep O' I.M hokS U U U U
theorem IV(w:World):Fresh w w 2 1 (.slice none 0 0) (([]:List Int).map CQ):=Fresh.nil (Ctx.start w []) _ _
theorem N3{bl ba c:Nat}{v1 v2 v3:Value}{a:Option Addr}{acs:List Ac}(k:Int)(w:World)(hl:w.heap[bl]?=some (Bl 106 [ptr ba,v1,v2,v3]))(hd:AcB ba a acs.length c w)(R:Rd w a 2 Dm acs)(hn:acs.length<=1000000:=by omega):
  Ret prog 81 #[ptr bl,.int .i64 k] w fun v w'=>v=.bool (inA acs k)/\Ext [] w w':=by
 obtain⟨w0,rfl,H⟩:=qE w;refine A2 (fn:=f81) func81 U [.pointer (some ⟨bl,0,none⟩),.int .i64 k] U ?_;refine Ad (Ai U (qA (Ad (A9 U (AP U (Ah Gn U (Ba Jf U ((H.old (An hl _) (by simp))) ?_)))))));refine Ae U (Am qB (PB a _ c acs k _ (H.ext.to hd (by simp)) (R.ext0 H.ext) U hn) U ?_);rintro v w ⟨rfl,hx16⟩;replace H:=H.call hx16;refine BN U (AF U U (AF U U (AX JC H ?_)));rintro b5 w - H;refine Bi DP U U U (by simp[AS]) H at0 U ?_;rintro w H;refine Ai U (qA (Ad (Au U (Ai U (qA (A6 (AD (v:=(.bool _)) U U U ?_)))))));exact⟨rfl,H.ext⟩
theorem Ahb{m:Lm}{s:Ld}{T:Nat->Prop}{k:Ak}(hk:k.kd=6)(hin:AkIn k)(w:World)(I:LdIn w m s T)(H0:Ctx w (Di m s) w (LL m s)) :
  Ret prog 59 #[ptr m.bl,.agg (Ci k).toArray] w (GS w m s T k):=by
 obtain⟨w0,rfl⟩:=qD w;obtain⟨bl,ba,bd,br,b,a,c,full,o,arch⟩:=m;obtain⟨S0,hS0⟩:=qD (Di ⟨bl,ba,bd,br,b,a,c,full,o,arch⟩ s);have H:Ctx w0 S0 w0 ((bl,Bl 106 [ptr ba,ptr bd,ptr br,.int .i64 s.day])::(br,Bl 168 arch)::(ba,Bl 162 [.slice a s.acs.length c])::(bd,Bl 165 (DU b s.nx))::(b,o)::ent a 43 full):=by rw[hS0];exact H0
 have hn16:=(Cr.1 I.ok.ac).1;have hbdb:bd≠b:=H.ne (i:=3) (j:=4) rfl rfl (by decide);have hoth:FI s k={ s with ds:=Jy s.ds k.id true }:=by unfold FI;(iterate 5 rw[if_neg (by omega)]);rw[if_pos hk]
 have hokS:({ s with ds:=Jy s.ds k.id true }:Ld).Ok:=by rw[<-hoth];exact Ky I.ok k hin.u.2
 have hstep:CI s k { s with ds:=Jy s.ds k.id true } (rp [] (Nz s.ds k.id true)):=by
  unfold CI;rw[if_neg (by omega)];exact⟨hoth.symm,by unfold Gg;(iterate 5 rw[if_neg (by omega)]);rw[if_pos hk]⟩
 refine A2 (fn:=f59) func59 U [.pointer (some ⟨bl,0,none⟩),.agg (Ci k).toArray] U ?_;refine Ad (Bu (Ci k) (.agg _) U U H ?_);rintro b3 w - H;refine Az U (Af U (qA (C1 [([0,1,2,3,4,5],6),([7],8)] (fun z=>z.heap[b3]?=some (Bl 40 (Ci k))/\z.heap[bl]?=some (Bl 106 [ptr ba,ptr bd,ptr br,.int .i64 s.day])) [6,8] Bs (⟨H.drew.get at0,H.drew.get at1⟩) ?_)));refine AO U U (BZ U (Bp U (A1 F7 U (B5 Gk U (fun _ hx=>(by rw[An hx.2];rfl)) ?_))));refine A1 LH U (B5 BL U (fun _ hx=>(by rw[An hx.1];rfl)) ?_);refine Bb ?_;replace H:=H.drew;refine Am qB (Akm _ (H.get at4) (H.get at5) I.M hbdb I.ok.du) U ?_;rintro v w ⟨rfl,o',hM',H7⟩;replace H:=Ctx.mid (B:=[_,_,_,_,_]) (L:=[_]) H H7;refine Ab (BH U (AO U U ?_));refine E7 U (Bb (Af U (Ab (BH U (BK (A6 (BG (v1:=(.slice _ _ _)) (v2:=(.int _ _)) U U U U ?_)))))));subst hS0
 exact Es (P:=[_]) (m':=⟨bl,ba,bd,br,b,a,c,full,o',arch⟩) (s':={ s with ds:=Jy s.ds k.id true }) I H (IV _) hstep I.O hM' hokS U U U U
theorem Wb{m:Lm}{s:Ld}{T:Nat->Prop}{k:Ak}(hk:k.kd=7)(hin:AkIn k)(w:World)(I:LdIn w m s T)(H0:Ctx w (Di m s) w (LL m s)) :
  Ret prog 60 #[ptr m.bl,.agg (Ci k).toArray] w (GS w m s T k):=by
 obtain⟨w0,rfl⟩:=qD w;obtain⟨bl,ba,bd,br,b,a,c,full,o,arch⟩:=m;obtain⟨S0,hS0⟩:=qD (Di ⟨bl,ba,bd,br,b,a,c,full,o,arch⟩ s);have H:Ctx w0 S0 w0 ((bl,Bl 106 [ptr ba,ptr bd,ptr br,.int .i64 s.day])::(br,Bl 168 arch)::(ba,Bl 162 [.slice a s.acs.length c])::(bd,Bl 165 (DU b s.nx))::(b,o)::ent a 43 full):=by rw[hS0];exact H0
 have hn16:=(Cr.1 I.ok.ac).1;have hbdb:bd≠b:=H.ne (i:=3) (j:=4) rfl rfl (by decide);have hoth:FI s k={ s with ds:=Jy s.ds k.id false }:=by unfold FI;(iterate 6 rw[if_neg (by omega)]);rw[if_pos hk]
 have hokS:({ s with ds:=Jy s.ds k.id false }:Ld).Ok:=by rw[<-hoth];exact Ky I.ok k hin.u.2
 have hstep:CI s k { s with ds:=Jy s.ds k.id false } (rp [] (Nz s.ds k.id false)):=by
  unfold CI;rw[if_neg (by omega)];exact⟨hoth.symm,by unfold Gg;(iterate 6 rw[if_neg (by omega)]);rw[if_pos hk]⟩
 refine A2 (fn:=f60) func60 U [.pointer (some ⟨bl,0,none⟩),.agg (Ci k).toArray] U ?_;refine Ad (Bu (Ci k) (.agg _) U U H ?_);rintro b3 w - H;refine Az U (Af U (qA (C1 [([0,1,2,3,4,5],6),([7],8)] (fun z=>z.heap[b3]?=some (Bl 40 (Ci k))/\z.heap[bl]?=some (Bl 106 [ptr ba,ptr bd,ptr br,.int .i64 s.day])) [6,8] Bs (⟨H.drew.get at0,H.drew.get at1⟩) ?_)));refine AO U U (BZ U (Bp U (A1 F7 U (B5 Gk U (fun _ hx=>(by rw[An hx.2];rfl)) ?_))));refine A1 LH U (B5 BL U (fun _ hx=>(by rw[An hx.1];rfl)) ?_);refine Bb ?_;replace H:=H.drew;refine Am qB (XQ _ (H.get at4) (H.get at5) I.M hbdb I.ok.du) U ?_;rintro v w ⟨rfl,o',hM',H7⟩;replace H:=Ctx.mid (B:=[_,_,_,_,_]) (L:=[_]) H H7;refine Ab (BH U (AO U U ?_));refine E7 U (Bb (Af U (Ab (BH U (BK (A6 (BG (v1:=(.slice _ _ _)) (v2:=(.int _ _)) U U U U ?_)))))));subst hS0
 exact Es (P:=[_]) (m':=⟨bl,ba,bd,br,b,a,c,full,o',arch⟩) (s':={ s with ds:=Jy s.ds k.id false }) I H (IV _) hstep I.O hM' hokS U U U U
theorem XS{m:Lm}{s:Ld}{T:Nat->Prop}{k:Ak}(hk:k.kd=8)(hin:AkIn k)(w:World)(I:LdIn w m s T)(H0:Ctx w (Di m s) w (LL m s)) :
  Ret prog 61 #[ptr m.bl,.agg (Ci k).toArray] w (GS w m s T k):=by
 obtain⟨w0,rfl⟩:=qD w;obtain⟨bl,ba,bd,br,b,a,c,full,o,arch⟩:=m;obtain⟨S0,hS0⟩:=qD (Di ⟨bl,ba,bd,br,b,a,c,full,o,arch⟩ s);have H:Ctx w0 S0 w0 ((bl,Bl 106 [ptr ba,ptr bd,ptr br,.int .i64 s.day])::(br,Bl 168 arch)::(ba,Bl 162 [.slice a s.acs.length c])::(bd,Bl 165 (DU b s.nx))::(b,o)::ent a 43 full):=by rw[hS0];exact H0
 have hn16:=(Cr.1 I.ok.ac).1;have hbdb:bd≠b:=H.ne (i:=3) (j:=4) rfl rfl (by decide);have hoth:FI s k={ s with ds:=UC s.ds k.id }:=by unfold FI;(iterate 7 rw[if_neg (by omega)]);rw[if_pos hk]
 have hokS:({ s with ds:=UC s.ds k.id }:Ld).Ok:=by rw[<-hoth];exact Ky I.ok k hin.u.2
 have hstep:CI s k { s with ds:=UC s.ds k.id } (rp [] (RZ s.ds k.id)):=by
  unfold CI;rw[if_neg (by omega)];exact⟨hoth.symm,by unfold Gg;(iterate 7 rw[if_neg (by omega)]);rw[if_pos hk]⟩
 refine A2 (fn:=f61) func61 U [.pointer (some ⟨bl,0,none⟩),.agg (Ci k).toArray] U ?_;refine Ad (Bu (Ci k) (.agg _) U U H ?_);rintro b3 w - H;refine Az U (Af U (qA (C1 [([0,1,2,3,4,5],6),([7],8)] (fun z=>z.heap[b3]?=some (Bl 40 (Ci k))/\z.heap[bl]?=some (Bl 106 [ptr ba,ptr bd,ptr br,.int .i64 s.day])) [6,8] Bs (⟨H.drew.get at0,H.drew.get at1⟩) ?_)));refine AO U U (BZ U (Bp U (A1 F7 U (B5 Gk U (fun _ hx=>(by rw[An hx.2];rfl)) ?_))));refine A1 LH U (B5 BL U (fun _ hx=>(by rw[An hx.1];rfl)) ?_);refine Bb ?_;replace H:=H.drew;refine Am qB (Abl _ (H.get at4) (H.get at5) I.M hbdb I.ok.du) U ?_;rintro v w ⟨rfl,o',hM',H7⟩;replace H:=Ctx.mid (B:=[_,_,_,_,_]) (L:=[_]) H H7;refine Ab (BH U (AO U U ?_));refine E7 U (Bb (Af U (Ab (BH U (BK (A6 (BG (v1:=(.slice _ _ _)) (v2:=(.int _ _)) U U U U ?_)))))));subst hS0
 exact Es (P:=[_]) (m':=⟨bl,ba,bd,br,b,a,c,full,o',arch⟩) (s':={ s with ds:=UC s.ds k.id }) I H (IV _) hstep I.O hM' hokS U U U U
theorem Ahc{m:Lm}{s:Ld}{T:Nat->Prop}{k:Ak}(hk:k.kd=12)(_:AkIn k)(w:World)(I:LdIn w m s T)(H0:Ctx w (Di m s) w (LL m s)) :
  Ret prog 64 #[ptr m.bl,.agg (Ci k).toArray] w (GS w m s T k):=by
 obtain⟨w0,rfl⟩:=qD w;obtain⟨bl,ba,bd,br,b,a,c,full,o,arch⟩:=m;obtain⟨S0,hS0⟩:=qD (Di ⟨bl,ba,bd,br,b,a,c,full,o,arch⟩ s);have H:Ctx w0 S0 w0 ((bl,Bl 106 [ptr ba,ptr bd,ptr br,.int .i64 s.day])::(br,Bl 168 arch)::(ba,Bl 162 [.slice a s.acs.length c])::(bd,Bl 165 (DU b s.nx))::(b,o)::ent a 43 full):=by rw[hS0];exact H0
 have hn16:=(Cr.1 I.ok.ac).1;have hbdb:bd≠b:=H.ne (i:=3) (j:=4) rfl rfl (by decide)
 have hstep:CI s k s (rp (Sa s.acs k.a) (if(0:Int)=0/\inA s.acs k.a=false then 10 else 0)):=by
  unfold CI;rw[if_neg (by omega)];have hR:Gg s k=if inA s.acs k.a=true then⟨0,Sa s.acs k.a⟩else⟨10,[]⟩:=by unfold Gg;(iterate 9 rw[if_neg (by omega)]);rw[if_pos hk]
  refine⟨by unfold FI;iterate 9 rw[if_neg (by omega)],?_⟩;rw[hR]
  cases inA s.acs k.a with
  |true=>rfl
  |false=>rfl
 refine A2 (fn:=f64) func64 U [.pointer (some ⟨bl,0,none⟩),.agg (Ci k).toArray] U ?_;refine Ad (Bu (Ci k) (.agg _) U U H ?_);rintro b3 w - H;refine Az U (Af U (qA (Ad (A9 U (Ah GM U (AG B6 U H at0 U (Am qB (PC k.a _ _ (H.get at1) (H.get at3) (OS.rd (t:=43) I.O (fun y hy=>H.blk y (qa0 [_,_,_,_,_,_] hy)) (fun _ _=>rfl) (by decide))) U ?_)))))));rintro v w ⟨a',c',rfl,F⟩;have H8:=H;replace H:=H.call F.ext;refine AF U U (AF U U (Az U (Af U (qA (A6 (BG (v1:=(.slice _ _ _)) (v2:=(.int _ _)) U U U U ?_))))));subst hS0;exact Es (P:=[_]) (m':=⟨bl,ba,bd,br,b,a,c,full,o,arch⟩) (s':=s) I H8 F hstep I.O I.M I.ok U U U U
def OpnR(w0:World)(S0:List Nat)(w:World)(s:Ld)(arch:List Value)(b3:Nat)(e3:List Value)(bl ba bd br b c:Nat)(a:Option Addr)(full:List Value)(o:Obj)(i' code:Int):Prop :=
 (16<=s.acs.length/\code=6/\Ctx w0 S0 w ((b3,Bl 40 e3)::(bl,Bl 106 [ptr ba,ptr bd,ptr br,.int .i64 s.day])::(br,Bl 168 arch)::LX ba a s.acs.length c full bd b s.nx o)) \/
 (s.acs.length<16/\i'=(s.acs.length:Int)/\code=0/\∃a' c' full',OS a' (s.acs++[a00]).length c' 2 full' ((s.acs++[a00]).flatMap Dm)/\Ctx w0 S0 w ((b3,Bl 40 e3)::(bl,Bl 106 [ptr ba,ptr bd,ptr br,.int .i64 s.day])::(br,Bl 168 arch)::LX ba a' (s.acs++[a00]).length c' full' bd b s.nx o))
theorem Ahd{w0 w w':World}{S0:List Nat}{s:Ld}{arch:List Value}{b3 bl ba bd br b c:Nat}{e3:List Value}{a:Option Addr}{full:List Value}{o:Obj}{v:Value}(H:Ctx w0 S0 w ((b3,Bl 40 e3)::(bl,Bl 106 [ptr ba,ptr bd,ptr br,.int .i64 s.day])::(br,Bl 168 arch)::LX ba a s.acs.length c full bd b s.nx o))(h:(16<=s.acs.length->v=.tuple #[.int .i64 0,.int .i64 6]/\Ctx w ((AL ba (bd,Bl 165 (DU b s.nx)) (b,o) a s.acs.length c full).map fun x=>x.1) w' (AL ba (bd,Bl 165 (DU b s.nx)) (b,o) a s.acs.length c full)) /\
   (s.acs.length<16->v=.tuple #[.int .i64 (s.acs.length:Int),.int .i64 0]/\∃a' c' full',OS a' (s.acs++[a00]).length c' 2 full' ((s.acs++[a00]).flatMap Dm)/\Ctx w ((AL ba (bd,Bl 165 (DU b s.nx)) (b,o) a s.acs.length c full).map fun x=>x.1) w' (AL ba (bd,Bl 165 (DU b s.nx)) (b,o) a' (s.acs++[a00]).length c' full'))) :
  ∃i' code,v=.tuple #[.int .i64 i',.int .i64 code]/\OpnR w0 S0 w' s arch b3 e3 bl ba bd br b c a full o i' code:=by
 have hb:∀{L':List (Nat × Obj)},Ctx w ((AL ba (bd,Bl 165 (DU b s.nx)) (b,o) a s.acs.length c full).map fun x=>x.1) w' L'->Ctx w0 S0 w' ([(b3,Bl 40 e3),(bl,Bl 106 [ptr ba,ptr bd,ptr br,.int .i64 s.day]),(br,Bl 168 arch)]++L'):=fun{L'} h1=>(Ctx.back (L1:=AL ba (bd,Bl 165 (DU b s.nx)) (b,o) a s.acs.length c full) (L2:=[_,_,_]) (H.comm (L:=[_,_,_])) h1).comm
 rcases qap s.acs.length 16 with h16|h16
 .obtain⟨rfl,a',c',full',O',H1⟩:=h.2 h16;exact⟨_,_,rfl,.inr ⟨h16,rfl,rfl,a',c',full',O',hb H1⟩⟩
 .obtain⟨rfl,H1⟩:=h.1 h16;exact⟨_,_,rfl,.inl ⟨h16,rfl,hb H1⟩⟩
theorem Ahe{m:Lm}{s:Ld}{T:Nat->Prop}{k:Ak}(hk:k.kd=1)(hin:AkIn k)(w:World)(I:LdIn w m s T)(H0:Ctx w (Di m s) w (LL m s)) :
  Ret prog 54 #[ptr m.bl,.agg (Ci k).toArray] w (GS w m s T k):=by
 obtain⟨w0,rfl⟩:=qD w;obtain⟨bl,ba,bd,br,b,a,c,full,o,arch⟩:=m;obtain⟨S0,hS0⟩:=qD (Di ⟨bl,ba,bd,br,b,a,c,full,o,arch⟩ s);have H:Ctx w0 S0 w0 ((bl,Bl 106 [ptr ba,ptr bd,ptr br,.int .i64 s.day])::(br,Bl 168 arch)::(ba,Bl 162 [.slice a s.acs.length c])::(bd,Bl 165 (DU b s.nx))::(b,o)::ent a 43 full):=by rw[hS0];exact H0
 have hn16:=(Cr.1 I.ok.ac).1;have hbdb:bd≠b:=H.ne (i:=3) (j:=4) rfl rfl (by decide)
 have hstep:∀l,(s.acs.length<16->l=[(s.acs.length:Int)])->CI s k (FI s k) (rp l (if s.acs.length<16 then 0 else 6)):=fun l hl=>by
  unfold CI;rw[if_neg (by omega)];refine⟨rfl,?_⟩;unfold Gg;rw[if_pos hk]
  by_cases h:s.acs.length<16
  .rw[if_pos h,hl h]
  .rw[if_neg h,VU (by decide),VU (by decide)]
 have hokS:=Ky I.ok k hin.u.2;have hoth:FI s k=if s.acs.length<16 then{ s with acs:=s.acs++[a00] }else s:=by unfold FI;rw[if_pos hk]
 refine A2 (fn:=f54) func54 U [.pointer (some ⟨bl,0,none⟩),.agg (Ci k).toArray] U ?_;refine Ad (Bu (Ci k) (.agg _) U U H ?_);rintro b3 w - H;refine Az U (Af U (qA (Ad (A9 U (AP U (Ah Gn U (AG Jf U H at1 U ?_)))))));have HL:=Ctx.lend (L1:=AL ba (bd,Bl 165 (DU b s.nx)) (b,o) a s.acs.length c full) (L2:=[(b3,Bl 40 (Ci k)),(bl,Bl 106 [ptr ba,ptr bd,ptr br,.int .i64 s.day]),(br,Bl 168 arch)]) (H.comm (L:=[_,_,_]));refine Am qB (Abi HL I.O) U ?_;rintro v w hres;obtain⟨i',code,rfl,hr⟩:∃i' code,v=.tuple #[.int .i64 i',.int .i64 code]/\OpnR w0 S0 w s arch b3 (Ci k) bl ba bd br b c a full o i' code:=Ahd H hres;refine BN U (AF U U (AF U U (Af U (Af U (qA (Ad (Ae U ?_)))))));have H:=Ctx.start w [];refine Cs [.int .i64 i'] (.int .i64 i') AR Bt Eh U U U U H ?_;rintro b17 w2 - H17
 refine Ae U (Az U (Af U (qA (A6 (BG (v1:=(.slice _ _ _)) (v2:=(.int _ _)) U U U U ?_)))));subst hS0
 rcases hr with⟨h16,rfl,H1⟩|⟨h16,rfl,rfl,a',c',full',O',H1⟩
 .rw[hoth,if_neg (by omega)]at hokS hstep;rw[if_neg (by omega)]at hstep;exact Es (P:=[_]) (m':=⟨bl,ba,bd,br,b,a,c,full,o,arch⟩) (s':=s) (l:=[i']) I H1 (Hh (n:=1) (l:=[CQ i']) H17 U) (hstep [i'] fun h=>by omega) I.O I.M I.ok U U U U
 .rw[hoth,if_pos h16]at hokS hstep;rw[if_pos h16]at hstep;exact Es (P:=[_]) (m':=⟨bl,ba,bd,br,b,a',c',full',o,arch⟩) (s':={ s with acs:=s.acs++[a00] }) (l:=[(s.acs.length:Int)]) I H1 (Hh (n:=1) (l:=[CQ (s.acs.length:Int)]) H17 U) (hstep [_] fun _=>rfl) O' I.M hokS U U U U
theorem Akp{m:Lm}{s:Ld}{T:Nat->Prop}{k:Ak}(hk:k.kd=5)(hin:AkIn k)(w:World)(I:LdIn w m s T)(H0:Ctx w (Di m s) w (LL m s)) :
  Ret prog 58 #[ptr m.bl,.agg (Ci k).toArray] w (GS w m s T k):=by
 obtain⟨w0,rfl⟩:=qD w;obtain⟨bl,ba,bd,br,b,a,c,full,o,arch⟩:=m;obtain⟨S0,hS0⟩:=qD (Di ⟨bl,ba,bd,br,b,a,c,full,o,arch⟩ s);have H:Ctx w0 S0 w0 ((bl,Bl 106 [ptr ba,ptr bd,ptr br,.int .i64 s.day])::(br,Bl 168 arch)::(ba,Bl 162 [.slice a s.acs.length c])::(bd,Bl 165 (DU b s.nx))::(b,o)::ent a 43 full):=by rw[hS0];exact H0
 have hn16:=(Cr.1 I.ok.ac).1;have hbdb:bd≠b:=H.ne (i:=3) (j:=4) rfl rfl (by decide);have hS:FI s k=if(inA s.acs k.a && inA s.acs k.b)=true/\s.day<=k.u then{ s with ds:=Oq s.ds s.nx k.a k.b k.x k.w k.u,nx:=QW s.ds s.nx k.a k.b k.x k.w k.u }else s:=by unfold FI;(iterate 4 rw[if_neg (by omega)]);rw[if_pos hk]
 have hR:Gg s k=if(inA s.acs k.a && inA s.acs k.b)=false then⟨10,[]⟩else if k.u<s.day then⟨1,[]⟩else rp [IntKind.i64.wrap s.nx] (Kx s.ds s.nx k.a k.b k.x k.w k.u):=by unfold Gg;(iterate 4 rw[if_neg (by omega)]);rw[if_pos hk]
 have hstep:∀s' p,FI s k=s'->Gg s k=p->CI s k s' p:=fun s' p h1 h2=>by
  unfold CI;rw[if_neg (by omega)];exact⟨h1.symm,h2.symm⟩
 have hokS:=Ky I.ok k hin.u.2;obtain⟨-,hnx,-,-⟩:=D3 I.ok.du;have hw:IntKind.i64.wrap s.nx=s.nx:=Dj (show(-9223372036854775808:Int)<=s.nx by omega) (show s.nx<=(9223372036854775807:Int)by omega);refine A2 (fn:=f58) func58 U [.pointer (some ⟨bl,0,none⟩),.agg (Ci k).toArray] U ?_;refine Ad (Bu (Ci k) (.agg _) U U H ?_);rintro b3 w - H;refine Az U (Af U (qA (Ap (Ax (Ad (B9 (α:=Unit) 2096896 (fun _=>[(8,.bool (!(inA s.acs k.a && inA s.acs k.b)))]) (fun _ w'=>Ctx w0 S0 w' ([(b3,Bl 40 (Ci k)),(bl,Bl 106 [ptr ba,ptr bd,ptr br,.int .i64 s.day]),(br,Bl 168 arch),(ba,Bl 162 [.slice a s.acs.length c]),(bd,Bl 165 (DU b s.nx)),(b,o)]++ent a 43 full)) U ?_ ?_))))))
 .refine A9 U (Ah GM U (AG B6 U H at0 U (Am qB (N3 k.a _ (H.get at1) (H.get at3) (OS.rd (t:=43) I.O (fun y hy=>H.blk y (qa0 [_,_,_,_,_,_] hy)) (fun _ _=>rfl) (by decide))) U ?_)));rintro v w ⟨rfl,hxb⟩;replace H:=H.call hxb;refine B1 U (Au U (AE 14 U ?_ ?_))
  .intro h1;replace h1:=Bv h1;refine Ag U (Ag U (Ag U (Ag U (Ag U (A8 U (.bool _) U (Ai U (Ab ?_)))))));exact⟨rfl,(),rfl,⟨qaa Value.bool (by cases h1:inA s.acs k.a <;> cases h2:inA s.acs k.b <;> simp_all),trivial⟩,H⟩
  .intro h2;replace h2:=Bw h2;refine A9 U (Ah Um U (AG B6 U H at0 U (Am qB (N3 k.b _ (H.get at1) (H.get at3) (OS.rd (t:=43) I.O (fun y hy=>H.blk y (qa0 [_,_,_,_,_,_] hy)) (fun _ _=>rfl) (by decide))) U ?_)));rintro v w ⟨rfl,hxb⟩;replace H:=H.call hxb;refine B1 U (AA U (.bool _) U (Ai U (Ab ?_)));exact⟨rfl,(),rfl,⟨qaa Value.bool (by cases h1:inA s.acs k.a <;> cases h2:inA s.acs k.b <;> simp_all),trivial⟩,H⟩
 rintro - j8 w H;refine Av _ U ?_ ?_
 .intro h1;replace h1:=Bv h1;replace h1:(inA s.acs k.a && inA s.acs k.b)=false:=by revert h1;cases(inA s.acs k.a && inA s.acs k.b) <;> simp
  refine Ad (Az U (Af U (qA (A6 (A5 (Al (BG (v1:=(.slice _ _ _)) (v2:=(.int _ _)) U U U U ?_)))))));subst hS0;exact Es (P:=[_]) (m':=⟨bl,ba,bd,br,b,a,c,full,o,arch⟩) (s':=s) (l:=[]) (code:=10) I H (IV _) (hstep _ _ (by rw[hS,if_neg (by rw[h1];simp)]) (by rw[hR,if_pos h1];rfl)) I.O I.M I.ok U U U U
 .intro h1;replace h1:=Bw h1;replace h1:(inA s.acs k.a && inA s.acs k.b)=true:=by revert h1;cases(inA s.acs k.a && inA s.acs k.b) <;> simp
  refine CN (fun x=>x=_) Bs U (A3 Nb U (BS Bm U (by rintro _ rfl;exact H.drew) at0 U ?_));refine BO U (Bh U (A3 Lc U (BS Bm U (by rintro _ rfl;exact H.drew) at1 U ?_)));refine K8 U U (J6 U U (BM ?_));rintro _ rfl;replace H:=H.drew;refine Av _ U ?_ ?_
  .intro h2;replace h2:=AJ h2;refine Ad (Az U (Af U (qA (A6 (A5 (Al (BG (v1:=(.slice _ _ _)) (v2:=(.int _ _)) U U U U ?_)))))));subst hS0;exact Es (P:=[_]) (m':=⟨bl,ba,bd,br,b,a,c,full,o,arch⟩) (s':=s) (l:=[]) (code:=1) I H (IV _) (hstep _ _ (by rw[hS,if_neg (fun h=>by omega)]) (by rw[hR,if_neg (by rw[h1];decide),if_pos h2];rfl)) I.O I.M I.ok U U U U
  .intro h2;replace h2:=AK h2;rw[hS,if_pos ⟨h1,by omega⟩]at hokS;obtain⟨y,hy,hy0⟩:∃y,(if Kx s.ds s.nx k.a k.b k.x k.w k.u=0 then s.nx else 0)=y/\0<=y/\y<=4611686018427387904:=⟨_,rfl,by split <;> omega,by split <;> omega⟩
   have hst:CI s k { s with ds:=Oq s.ds s.nx k.a k.b k.x k.w k.u,nx:=QW s.ds s.nx k.a k.b k.x k.w k.u } (rp [y] (Kx s.ds s.nx k.a k.b k.x k.w k.u)):=hstep _ _ (by rw[hS,if_pos ⟨h1,by omega⟩]) (by
    rw[hR,if_neg (by rw[h1];decide),if_neg h2,hw]
    by_cases h0:Kx s.ds s.nx k.a k.b k.x k.w k.u=0
    .rw[if_pos h0]at hy;rw[hy]
    .rw[VU h0,VU h0])
   refine Aq (A7 (Aa (C1 [([0,1,2,3,4,5,6,7,8,9,10,11,12,13],14),([15,16,17,18],19)] (fun z=>z.heap[b3]?=some (Bl 40 (Ci k))/\z.heap[bl]?=some (Bl 106 [ptr ba,ptr bd,ptr br,.int .i64 s.day])) [14,19] Bs (⟨H.drew.get at0,H.drew.get at1⟩) ?_)));refine AO U U (BZ U (Bp U (A1 F7 U (B5 Gk U (fun _ hx=>(by rw[An hx.2];rfl)) ?_))));refine A1 GM U (B5 B6 U (fun _ hx=>(by rw[An hx.1];rfl)) ?_);refine A1 Um U (B5 B6 U (fun _ hx=>(by rw[An hx.1];rfl)) ?_);refine A1 Py U (B5 Bm U (fun _ hx=>(by rw[An hx.1];rfl)) ?_);refine A1 Ai2 U (B5 Bm U (fun _ hx=>(by rw[An hx.1];rfl)) ?_);refine A1 Nb U (B5 Bm U (fun _ hx=>(by rw[An hx.1];rfl)) ?_);refine Bb ?_;replace H:=H.drew;refine Am qB (Ag7 k.a k.b k.x k.w k.u _ (H.get at4) (H.get at5) I.M hbdb I.ok.du) U ?_;rintro v w ⟨rfl,o',hM',H7⟩;rw[hy]
   replace H:=Ctx.mid (B:=[_,_,_,_]) (L:=[_,_]) H H7;refine Ab (BH U (AO U U ?_));refine Ek U (B7 U U (B7 U U (LD U U (Bb (Af U (Ab (BH U (BK (Ad (Ae U ?_))))))))));refine H6 U U FD Xs ?_;have H17:=Ctx.start w [];refine Cs [.int .i64 y] (.int .i64 y) AR Bt Eh U U U U H17 ?_;rintro b49 w2 - H17;refine Ae U (Az U (Af U (qA (A6 (BG (v1:=(.slice _ _ _)) (v2:=(.int _ _)) U U U U ?_)))));subst hS0;exact Es (P:=[_]) (m':=⟨bl,ba,bd,br,b,a,c,full,o',arch⟩) (s':={ s with ds:=Oq s.ds s.nx k.a k.b k.x k.w k.u,nx:=QW s.ds s.nx k.a k.b k.x k.w k.u }) (l:=[y]) I H (Hh (n:=1) (l:=[CQ y]) H17 U) hst I.O hM' hokS U U U U
theorem Ahf{m:Lm}{s:Ld}{T:Nat->Prop}{k:Ak}(hk:k.kd=9)(hin:AkIn k)(w:World)(I:LdIn w m s T)(H0:Ctx w (Di m s) w (LL m s)) :
  Ret prog 62 #[ptr m.bl,.agg (Ci k).toArray] w (GS w m s T k):=by
 obtain⟨w0,rfl⟩:=qD w;obtain⟨bl,ba,bd,br,b,a,c,full,o,arch⟩:=m;obtain⟨S0,hS0⟩:=qD (Di ⟨bl,ba,bd,br,b,a,c,full,o,arch⟩ s);have H:Ctx w0 S0 w0 ((bl,Bl 106 [ptr ba,ptr bd,ptr br,.int .i64 s.day])::(br,Bl 168 arch)::(ba,Bl 162 [.slice a s.acs.length c])::(bd,Bl 165 (DU b s.nx))::(b,o)::ent a 43 full):=by rw[hS0];exact H0
 have hn16:=(Cr.1 I.ok.ac).1;have hbdb:bd≠b:=H.ne (i:=3) (j:=4) rfl rfl (by decide);have hS:FI s k=if s.day<=k.u then{ s with day:=k.u,ds:=Ot s.ds k.u }else s:=by unfold FI;(iterate 8 rw[if_neg (by omega)]);rw[if_pos hk]
 have hR:Gg s k=if k.u<s.day then⟨3,[]⟩else⟨0,[((s.ds.length - (Ot s.ds k.u).length:Nat):Int)]⟩:=by unfold Gg;(iterate 8 rw[if_neg (by omega)]);rw[if_pos hk]
 have hstep:∀s' p,FI s k=s'->Gg s k=p->CI s k s' p:=fun s' p h1 h2=>by
  unfold CI;rw[if_neg (by omega)];exact⟨h1.symm,h2.symm⟩
 have hokS:=Ky I.ok k hin.u.2;refine A2 (fn:=f62) func62 U [.pointer (some ⟨bl,0,none⟩),.agg (Ci k).toArray] U ?_;refine Ad (Bu (Ci k) (.agg _) U U H ?_);rintro b3 w - H;refine Az U (Af U (qA (Ap (CN (fun x=>x=_) Bs U ?_))));refine A3 Nb U (BS Bm U (by rintro _ rfl;exact H.drew) at0 U ?_);refine BO U (Bh U (A3 Lc U (BS Bm U (by rintro _ rfl;exact H.drew) at1 U ?_)));refine K8 U U (BM ?_);rintro _ rfl;replace H:=H.drew;refine Av _ U ?_ ?_
 .intro h1;replace h1:=AJ h1;refine Ad (Az U (Af U (qA (A6 (Al (BG (v1:=(.slice _ _ _)) (v2:=(.int _ _)) U U U U ?_))))));subst hS0;exact Es (P:=[_]) (m':=⟨bl,ba,bd,br,b,a,c,full,o,arch⟩) (s':=s) (l:=[]) (code:=3) I H (IV _) (hstep _ _ (by rw[hS,if_neg (by omega)]) (by rw[hR,if_pos h1];rfl)) I.O I.M I.ok U U U U
 .intro h1;replace h1:=AK h1;rw[hS,if_pos (by omega)]at hokS;refine Aq (Aa (Ad (A9 U (Ah Nb U (AG Bm U H at0 U (AP U (Ah Lc U (Cz (.int _ _) Bt U U U H at1 (by(simp;done)) ?_))))))));rintro w H;refine qA (EB 6 Bs U U ?_);refine BO U (Bh U (A3 F7 U (BS Gk U (by rintro _ rfl;exact H.drew) at1 U ?_)));refine A3 Nb U (BS Bm U (by rintro _ rfl;exact H.drew) at0 U ?_);refine BM ?_;replace H:=H.drew;refine Am qB (Abm (u:=k.u) _ (H.get at4) (H.get at5) I.M hbdb I.ok.du) U ?_;rintro v w ⟨o',hM',H7,a7,c7,rfl⟩;replace H:=Ctx.mid (B:=[_,_,_,_,_]) (L:=[_]) H H7;refine AU BA U ?_;have H17:=Ctx.start w [];refine Cs [.int .i64 ((s.ds.length - (Ot s.ds k.u).length:Nat):Int)] (.int .i64 _) AR Bt Eh U U U U H17 ?_;rintro b26 w2 - H17;refine Az U (Af U (qA (A6 (BG (v1:=(.slice _ _ _)) (v2:=(.int _ _)) U U U U ?_))))
  subst hS0;exact Es (P:=[_]) (m':=⟨bl,ba,bd,br,b,a,c,full,o',arch⟩) (s':={ s with day:=k.u,ds:=Ot s.ds k.u }) (l:=[((s.ds.length - (Ot s.ds k.u).length:Nat):Int)]) (code:=0) I H (Hh (n:=1) (l:=[CQ ((s.ds.length - (Ot s.ds k.u).length:Nat):Int)]) H17 U) (hstep _ _ (by rw[hS,if_pos (by omega)]) (by rw[hR,if_neg h1];rfl)) I.O hM' hokS U U U U
theorem Zq(b:Bool)(w:World):Ret prog 119 #[.bool b] w fun v w'=>v=.int .i64 (Mp b)/\w=w':=by
 obtain⟨w0,rfl⟩:=qD w;refine A2 (fn:=f119) func119 U [.bool b] U (Ad (Af U (qA (Ap (Ad (Au U (qA (Av _ U ?_ ?_))))))))
 .intro h1;refine Ad (Af U (qA (A6 (Al (AD (v:=(.int _ _)) U U U ?_)))));exact⟨by rw[show b=true by simpa using h1];rfl,rfl⟩
 .intro h1;refine Aq (Aa (Ad (Af U (qA (A6 (AD (v:=(.int _ _)) U U U ?_))))));exact⟨by rw[show b=false by simpa using h1];rfl,rfl⟩
theorem Akq{m:Lm}{s:Ld}{T:Nat->Prop}{k:Ak}(hk:k.kd=14)(_:AkIn k)(w:World)(I:LdIn w m s T)(H0:Ctx w (Di m s) w (LL m s)) :
  Ret prog 66 #[ptr m.bl,.agg (Ci k).toArray] w (GS w m s T k):=by
 obtain⟨w0,rfl⟩:=qD w;obtain⟨bl,ba,bd,br,b,a,c,full,o,arch⟩:=m;obtain⟨S0,hS0⟩:=qD (Di ⟨bl,ba,bd,br,b,a,c,full,o,arch⟩ s);have H:Ctx w0 S0 w0 ((bl,Bl 106 [ptr ba,ptr bd,ptr br,.int .i64 s.day])::(br,Bl 168 arch)::(ba,Bl 162 [.slice a s.acs.length c])::(bd,Bl 165 (DU b s.nx))::(b,o)::ent a 43 full):=by rw[hS0];exact H0
 have hn16:=(Cr.1 I.ok.ac).1;have hbdb:bd≠b:=H.ne (i:=3) (j:=4) rfl rfl (by decide);have hR0:Dn s.ds k.id=none->Gg s k=⟨11,[]⟩:=fun h=>by unfold Gg;(iterate 11 rw[if_neg (by omega)]);rw[if_pos hk,h]
 have hR1:∀d,Dn s.ds k.id=some d->Gg s k=⟨0,[d.fr,d.to,d.am,d.we,d.un,Mp d.held]⟩:=fun d h=>by unfold Gg;(iterate 11 rw[if_neg (by omega)]);rw[if_pos hk,h]
 have hS:FI s k=s:=by unfold FI;iterate 9 rw[if_neg (by omega)]
 have hstep:∀p,Gg s k=p->CI s k s p:=fun p h2=>by
  unfold CI;rw[if_neg (by omega)];exact⟨hS.symm,h2.symm⟩
 have hD:Np s.ds k.id=(Dn s.ds k.id).getD d00:=rfl;refine A2 (fn:=f66) func66 U [.pointer (some ⟨bl,0,none⟩),.agg (Ci k).toArray] U ?_;refine Ad (Bu (Ci k) (.agg _) U U H ?_);rintro b3 w - H;refine Az U (Af U (qA (Eo 262080 (α:=Nat) (fun z=>[(6,ptr z),(7,.bool (Dn s.ds k.id).isSome)]) (fun z w'=>Ctx w0 S0 w' ((z,Bl 67 (CM (Np s.ds k.id)))::(b3,Bl 40 (Ci k))::(bl,Bl 106 [ptr ba,ptr bd,ptr br,.int .i64 s.day])::(br,Bl 168 arch)::(ba,Bl 162 [.slice a s.acs.length c])::(bd,Bl 165 (DU b s.nx))::(b,o)::ent a 43 full)) U ?_ ?_)))
 .skip
  refine PS (.two [0,1,2,3,4,5] 6 (.one [7,8,9] 10 (.one [] 11 (.one [] 12 .stop))) 10 (.one [] 6 (.one [7,8,9] 11 (.one [] 12 .stop)))) (fun z=>z.heap[b3]?=some (Bl 40 (Ci k))/\z.heap[bl]?=some (Bl 106 [ptr ba,ptr bd,ptr br,.int .i64 s.day])) Bs (⟨H.drew.get at0,H.drew.get at1⟩) ?_;refine Jq U U U (BZ U (Bp U (A1 F7 U (B5 Gk U (fun _ hx=>(by rw[An hx.2];rfl)) ?_))));refine A1 LH U (B5 BL U (fun _ hx=>(by rw[An hx.1];rfl)) ?_);refine Bb ?_;replace H:=H.drew;refine⟨?_,?_⟩
  .skip
   refine Am qB (U7 _ (H.get at4) (H.get at5) I.M) U ?_;rintro v w ⟨rfl,hx15⟩;replace H:=H.call hx15;refine Ab (Ck (by exact⟨H.get at0,H.get at1⟩) ?_);refine Cg U U (Ek U (B7 U U (B7 U U (Bb (AX DR H ?_)))));rintro b6 w - H;refine Ab (Ck (by exact⟨H.get at1,H.get at2⟩) ?_);refine Cg U U (Bb (Bi BC U U U (by exact Dt _) H at0 U ?_));rintro w H;refine Ab (Ck (by exact⟨H.get at1,H.get at2⟩) ?_);refine Cg U U (Bb (Ai U (Ab (Ck (by exact⟨H.get at1,H.get at2⟩) ?_))));refine EG (Aa ?_);exact⟨b6,rfl,⟨rfl,rfl,trivial⟩,H⟩
  .skip
   refine AX DR H ?_;rintro b6 w - H;refine Ab (Ck (by exact⟨H.get at1,H.get at2⟩) ?_);refine Cg U U (Bb (Am qB (U7 _ (H.get at5) (H.get at6) I.M) U ?_));rintro v w ⟨rfl,hx15⟩;replace H:=H.call hx15;refine Ab (Ck (by exact⟨H.get at1,H.get at2⟩) ?_);refine Cg U U (Ek U (B7 U U (B7 U U (Bb (Bi BC U U U (by exact Dt _) H at0 U ?_)))));rintro w H;refine Ab (Ck (by exact⟨H.get at1,H.get at2⟩) ?_);refine Cg U U (Bb (Ai U (Ab (Ck (by exact⟨H.get at1,H.get at2⟩) ?_))));refine EG (Aa ?_);exact⟨b6,rfl,⟨rfl,rfl,trivial⟩,H⟩
 .rintro b6 j7 w H;refine Ap (Ad (Au U (B1 U (qA (Av _ U ?_ ?_)))))
  .intro h1;replace h1:=Bv h1
   have hf:Dn s.ds k.id=none:=by cases hh:Dn s.ds k.id with|none=>rfl|some d=>rw[hh]at h1;cases h1
   refine Ad (Az U (Af U (qA (A6 (Al (BG (v1:=(.slice _ _ _)) (v2:=(.int _ _)) U U U U ?_))))));subst hS0;exact Es (P:=[_,_]) (m':=⟨bl,ba,bd,br,b,a,c,full,o,arch⟩) (s':=s) (l:=[]) (code:=11) I H (IV _) (hstep _ (by rw[hR0 hf];rfl)) I.O I.M I.ok U U U U
  .intro h1;replace h1:=Bw h1
   obtain⟨d,hf⟩:∃d,Dn s.ds k.id=some d:=by cases hh:Dn s.ds k.id with|some d=>exact⟨d,rfl⟩|none=>rw[hh]at h1;cases h1
   rw[hD,hf]at H
   change Ctx w0 S0 w ((b6,Bl 67 (CM d))::(b3,Bl 40 (Ci k))::(bl,Bl 106 [ptr ba,ptr bd,ptr br,.int .i64 s.day])::(br,Bl 168 arch)::(ba,Bl 162 [.slice a s.acs.length c])::(bd,Bl 165 (DU b s.nx))::(b,o)::ent a 43 full)at H
   refine Aq (Aa (C1 [([0,1,2,3,4,5,6,7,8,9,10,11],12),([],13),([14],15)] (fun z=>z.heap[b6]?=some (Bl 67 (CM d))) [] Bs (H.drew.get at0) ?_));refine AO U U (A1 Dk U (B5 B6 U (fun _ hx=>(by rw[An hx];rfl)) ?_));refine A1 D7 U (B5 B6 U (fun _ hx=>(by rw[An hx];rfl)) ?_);refine A1 Dl U (B5 Bm U (fun _ hx=>(by rw[An hx];rfl)) ?_);refine A1 Hs U (B5 Bm U (fun _ hx=>(by rw[An hx];rfl)) ?_);refine A1 Nc U (B5 Bm U (fun _ hx=>(by rw[An hx];rfl)) ?_);refine A1 F6 U (B5 HI U (fun _ hx=>(by rw[An hx];rfl)) ?_);refine Bb ?_;replace H:=H.drew;refine Am qB (Zq d.held _) U ?_;rintro v w ⟨rfl,rfl⟩;refine Ab (BR (H.get at0) (AO U U ?_));refine Bb (Dq ([d.fr,d.to,d.am,d.we,d.un,Mp d.held].map CQ) AR Bt Eh (Ctx.start _ []) ?_);rintro b33 w2 - H17;refine Ab (BR (H17.ext.to (H.get at0) (by simp)) ?_)
   refine AO U U (E7 U (Bb (Af U (Ab (BR (H17.ext.to (H.get at0) (by simp)) ?_)))));refine BK (A6 (BG (v1:=(.slice _ _ _)) (v2:=(.int _ _)) U U U U ?_));subst hS0;exact Es (P:=[_,_]) (m':=⟨bl,ba,bd,br,b,a,c,full,o,arch⟩) (s':=s) (l:=[d.fr,d.to,d.am,d.we,d.un,Mp d.held]) (code:=0) I H (Hh (n:=6) H17 U) (hstep _ (by rw[hR1 d hf];rfl)) I.O I.M I.ok U U U U
theorem N4{α:Type}{enc:α->List Value}{s:Nat}{t:TypeId}{xs:List α}{w w':World}{v:Value}(F:Fresh w w' t s v (xs.flatMap enc))(hs:∀x∈xs,(enc x).length=s)(h0:0<s:=by decide):∃a c,v=.slice a xs.length c/\Rd w' a s enc xs/\(xs≠[]->w.heap.size<=(adr a).block)/\xs.length<=c/\Ext [] w w':=by
 obtain⟨a,n,c,f,rfl,O,hb⟩:=F.ex;obtain rfl:=O.numN hs h0;refine⟨a,c,rfl,OS.rd O (fun x hx=>(hb x hx).1) hs h0,fun hne=>?_,O.le,F.ext⟩;obtain⟨q,rfl⟩:=O.form (qbv.2 hne);exact(hb (q,Bl t f) (qab.2 U)).2
theorem Ahg(l:List Int):∀v∈l.map HY,AS v=true:=fun v hv=>by
 obtain⟨x,_,rfl⟩:=qah.1 hv;rfl
theorem Abo(a:Option Addr)(n c:Nat)(xs:List Int)(w:World)(R:Rd w a 1 U1 xs)(hn:xs.length=n)(hm:n<=1000000000:=by omega):
  Ret prog 164 #[.slice a n c] w fun v w'=>Fresh w w' 28 1 v (xs.map HY):=by
 subst hn;obtain⟨w0,rfl,H⟩:=qE w;refine A2 (fn:=f164) func164 U [.slice a xs.length c] U (Ad (Az U (qA (Ap (Ad (Ao U (Iu U BA U (qA (Av _ U ?_ ?_)))))))))
 .intro h1;have ha:a=none:=by simpa using h1
  subst ha
  have hxs:xs=[]:=by
   cases xs with
   |nil=>rfl
   |cons x xs=>obtain⟨b,o,h⟩:=R.some' (by simp);cases h
  subst hxs;refine Ad (Az U (qA (A6 (Al (AD (v:=(.slice _ _ _)) U U U ?_)))));exact Fresh.nil H _ _
 .intro h1;refine Aq (Aa (Ad (Hd BA Bx H ?_)));rintro b5 w H O;refine Ao U (Hb U BA BA Bx Yz Qy U (xs.map HY) U U H O (by simp) (Ahg xs) (Rd.app1 (f:=HY) (R.ext0 H.ext)) ?_);rintro a7 c7 full7 w H O;refine Az U (qA (A6 (AD (v:=(.slice _ _ _)) U U U ?_)));exact H.fresh O
theorem Abp(es:List Ed):(es.flatMap CJ).length=es.length*4:=by
 induction es with
 |nil=>rfl
 |cons e es ih =>
  rw[qcc,qat,ih];show 4+es.length*4=(es.length+1)*4;omega
theorem Abq(es:List Ed):∀v∈es.flatMap CJ,AS v=true:=fun v hv=>by
 obtain⟨e,_,he⟩:=qel.1 hv;simp only[CJ,qag,qar,or_false]at he
 rcases he with rfl|rfl|rfl|rfl <;> rfl
theorem Abr(a:Option Addr)(n c:Nat)(es:List Ed)(w:World)(R:Rd w a 4 CJ es)(hn:es.length=n)(hm:n<=1000000000:=by omega):
  Ret prog 165 #[.slice a n c] w fun v w'=>Fresh w w' 59 4 v (es.flatMap CJ):=by
 subst hn;obtain⟨w0,rfl,H⟩:=qE w;refine A2 (fn:=f165) func165 U [.slice a es.length c] U (Ad (Az U (qA (Ap (Ad (Ao U (Iu U CU U (qA (Av _ U ?_ ?_)))))))))
 .intro h1;have ha:a=none:=by simpa using h1
  subst ha
  have hxs:es=[]:=by
   cases es with
   |nil=>rfl
   |cons x xs=>obtain⟨b,o,h⟩:=R.some' (by simp);cases h
  subst hxs;refine Ad (Az U (qA (A6 (Al (AD (v:=(.slice _ _ _)) U U U ?_)))));exact Fresh.nil H _ _
 .intro h1;refine Aq (Aa (Ad (Hd CU CW H ?_)));rintro b5 w H O;refine Ao U (Hb U CU CU CW Ac4 GY U (es.flatMap CJ) U U H O (Abp es) (Abq es) ((R.ext0 H.ext).app (fun _ _=>rfl) (by omega)) ?_);rintro a7 c7 full7 w H O;refine Az U (qA (A6 (AD (v:=(.slice _ _ _)) U U U ?_)));exact H.fresh O
theorem Zr(r:Rnd)(q:RSl)(w:World)(RA:RAt w r q)(hr:RBnd r):Ret prog 135 #[.agg (BD r q).toArray] w fun v w'=>v=.bool (Oo r)/\Ext [] w w':=by
 obtain⟨w0,rfl,H⟩:=qE w;obtain⟨ck,hck⟩:=qD (Fk r.N r.es r.fl r.pot);have hmr:Oo r=(ck && (decide (r.ids.length<=64) && decide (0<=r.day))):=by unfold Oo;rw[<-hck]
 refine A2 (fn:=f135) func135 U [.agg (BD r q).toArray] U (Ad (Bu (BD r q) (.agg _) U U H ?_));rintro b1 w - H;refine Ai U (qA (Ad (Ah Ey U (Ca _ CG C2 U U ((CS (b:=b1) (t:=55) (l:=BD r q) (H.get at0) 4 [.int .i64 r.N,.slice q.aE r.es.length q.cE] U)) ?_))));refine Ah Gc U (Ca _ SV Nd U U ((CS (b:=b1) (t:=55) (l:=BD r q) (H.get at0) 6 [.slice q.aF r.fl.length q.cF,.slice q.aP r.pot.length q.cP] U)) ?_);refine Am qB (Vx r.N q.aE q.aF q.aP _ q.cE _ q.cF _ q.cP r.es r.fl r.pot _ (RA.E.ext0 H.ext) U hr.N (RA.F.ext0 H.ext) U (by have:=hr.fl;omega) (RA.P.ext0 H.ext) U (by have:=hr.pot;omega)) U ?_;rintro v w ⟨rfl,hx14⟩;rw[<-hck];replace H:=H.call hx14;refine Au U (AE 8 U ?_ ?_)
 .intro h1;refine Ah GN U (AG KA U H at0 U (AU BA U (Ib U U (A8 U (.bool _) U (Au U (AE 14 U ?_ ?_))))))
  .intro h2;replace h2:=AJ h2;refine Ah Pz U (AG Bm U H at0 U (Cq U U (A8 U (.bool _) U (Ai U (qA (A6 (AD (v:=(.bool _)) U U U ?_)))))));exact⟨qaa Value.bool (by rw[hmr,qad];simp_all;try omega),H.ext⟩
  .intro h3;replace h3:=AK h3;refine Ag U (Ag U (Ag U (AA U (.bool _) U (Ai U (qA (A6 (AD (v:=(.bool _)) U U U ?_)))))));exact⟨qaa Value.bool (by rw[hmr,qad];simp_all;try omega),H.ext⟩
 .intro h4;refine Ag U (Ag U (Ag U (Ag U (AA U (.bool _) U (Au U (Ag U (Ag U (Ag U (AA U (.bool _) U ?_)))))))));refine Ai U (qA (A6 (AD (v:=(.bool _)) U U U ?_)));exact⟨qaa Value.bool (by rw[hmr,qad];simp_all;try omega),H.ext⟩
theorem UF(r:Rnd)(q:RSl)(w:World)(RA:RAt w r q)(hr:RBnd r):Ret prog 101 #[.agg (BD r q).toArray] w fun v w'=>Ext [] w w'/\∃q',v=.agg (BD r q').toArray/\RAt w' r q'/\ROff q' r (fun x=>x<w.heap.size):=by
 obtain⟨w0,rfl,H⟩:=qE w;have b1':=hr.ids;have b2':=hr.es;have b3':=hr.fl;have b4':=hr.pot;refine A2 (fn:=f101) func101 U [.agg (BD r q).toArray] U (Ad (Bu (BD r q) (.agg _) U U H ?_));rintro b1 w - H;refine AX GA H ?_;rintro b2 w - H;refine qA (C1 [([0,1,3,4,5],2),([7],6),([],8),([9,10],11)] (fun z=>z.heap[b1]?=some (Bl 55 (BD r q))) [8,11] Bs (H.drew.get at1) ?_);refine AO U U (A1 GN U (B5 KA U (fun _ hx=>(by rw[An hx];rfl)) ?_));refine A1 Ey U (A1 C8 U (B5 DO U (fun _ hx=>(by rw[An hx];rfl)) ?_));refine Bb ?_;replace H:=H.drew;refine Am qB (Abo _ _ _ r.ids _ (RA.I.ext0 H.ext) U) U ?_;rintro v w F;obtain⟨a5,n5,c5,f5,rfl,O5,hb5⟩:=F.ex;obtain rfl:=O5.num;replace H:Ctx w0 [] w ((b2,Bl 55 rnd0)::(b1,Bl 55 (BD r q))::ent a5 28 f5):=H.callEnt F.ext hb5 FM
 refine Ab (BR (H.get at1) (AO U U ?_));refine A1 GN U (Bb (Am qB (Abr _ _ _ r.es _ (RA.E.ext0 H.ext) U) U ?_));rintro v w F;obtain⟨a9,n9,c9,f9,rfl,O9,hb9⟩:=F.ex;obtain rfl:=O9.numN (fun _ _=>rfl) (by decide);replace H:Ctx w0 [] w ((b2,Bl 55 rnd0)::(b1,Bl 55 (BD r q))::(ent a5 28 f5++ent a9 59 f9)):=H.callEnt F.ext hb9 FM;refine Ab (BR (H.get at1) (AO U U ?_));refine Bb (Cz (.slice _ _ _) Amb U U U H at1 (by(simp;done)) ?_);rintro w H;refine Ab (BH U (AO U U ?_));refine A1 Ey U (A1 C8 U (Bb (Cz (.slice _ _ _) Amc U U U H at1 (by(simp;done)) ?_)));rintro w H;refine Ab (BH U (BK ?_))
 change Ctx w0 [] w ((b2,Bl 55 rnd0)::(b1,Bl 55 (BD r ⟨a5,c5,a9,c9,q.aF,q.cF,q.aP,q.cP⟩))::(ent a5 28 f5++ent a9 59 f9))at H
 refine C1 [([0,1,2,4,5,6],3),([],7),([8,9],10)] (fun z=>z.heap[b1]?=some (Bl 55 (BD r ⟨a5,c5,a9,c9,q.aF,q.cF,q.aP,q.cP⟩))) [10] Bs (H.drew.get at1) ?_;refine AO U U (A1 Gc U (A1 Ho U (B5 Cc U (fun _ hx=>(by rw[An hx];rfl)) ?_)));refine A1 Gc U (A1 Kh U (B5 Cc U (fun _ hx=>(by rw[An hx];rfl)) ?_));refine Bb ?_;replace H:=H.drew;refine Am qB (Oh _ _ _ r.fl _ (RA.F.ext0 H.ext) U) U ?_;rintro v w F;obtain⟨a6,n6,c6,f6,rfl,O6,hb6⟩:=F.ex;obtain rfl:=O6.num;replace H:Ctx w0 [] w ((b2,Bl 55 rnd0)::(b1,Bl 55 (BD r ⟨a5,c5,a9,c9,q.aF,q.cF,q.aP,q.cP⟩))::(ent a5 28 f5++ent a9 59 f9++ent a6 2 f6)):=H.callEnt F.ext hb6 FM;refine Ab (BR (H.get at1) (AO U U ?_));refine Bb (Am qB (Oh _ _ _ r.pot _ (RA.P.ext0 H.ext) U) U ?_);rintro v w F;obtain⟨a7,n7,c7,f7,rfl,O7,hb7⟩:=F.ex;obtain rfl:=O7.num
 replace H:Ctx w0 [] w ((b2,Bl 55 rnd0)::(b1,Bl 55 (BD r ⟨a5,c5,a9,c9,q.aF,q.cF,q.aP,q.cP⟩))::(ent a5 28 f5++ent a9 59 f9++ent a6 2 f6++ent a7 2 f7)):=H.callEnt F.ext hb7 FM;refine Ab (BR (H.get at1) (AO U U ?_));refine Qf [.slice a6 r.fl.length c6,.slice a7 r.pot.length c7] U Al7 Y7 (A1 Gc U (Bb (Il U Nd U U U (by simp[AS]) H at1 (show 0+6+2<=8 by decide) ?_)));rintro w H;refine Ab (BH U (BK ?_))
 change Ctx w0 [] w ((b2,Bl 55 rnd0)::(b1,Bl 55 (BD r ⟨a5,c5,a9,c9,a6,c6,a7,c7⟩))::(ent a5 28 f5++ent a9 59 f9++ent a6 2 f6++ent a7 2 f7))at H
 refine Ad (BV Gm Dv U H at1 U (Bi Dv U U U (by simp[AS]) H at0 U ?_));rintro w H;refine qA (A6 (Kb U U U Gm Dv H at0 U ?_));have hm:∀x,x∈ent a5 28 f5++ent a9 59 f9++ent a6 2 f6++ent a7 2 f7->w.heap[x.1]?=some x.2/\w0.heap.size<=x.1:=fun x hx=>⟨H.blk x (qa0 [_,_] hx),(H.own x (qa0 [_,_] hx)).elim (fun h=>by cases h) id⟩
 have hoff:∀{t:TypeId} {a:Option Addr} {n c s:Nat} {f l:List Value},OS a n c s f l->(∀x∈ent a t f,w0.heap.size<=x.1)->0<n->¬(adr a).block<w0.heap.size:=fun{t a n c s f l} O h hn=>by
  obtain⟨q,rfl⟩:=O.form hn;have:=h (q,Bl t f) (qab.2 rfl);exact Nat.not_lt.2 this
 have m5:∀x∈ent a5 28 f5,_:=fun x hx=>hm x (qao _ (qao _ (qao _ hx)));have m9:∀x∈ent a9 59 f9,_:=fun x hx=>hm x (qao _ (qao _ (qa0 _ hx)));have m6:∀x∈ent a6 2 f6,_:=fun x hx=>hm x (qao _ (qa0 _ hx));have m7:∀x∈ent a7 2 f7,_:=fun x hx=>hm x (qa0 _ hx)
 exact⟨H.ext,⟨a5,c5,a9,c9,a6,c6,a7,c7⟩,rfl,⟨O5.rd1 fun x hx=>(m5 x hx).1,OS.rd O9 (fun x hx=>(m9 x hx).1) (fun _ _=>rfl) (by decide),O6.rd1 fun x hx=>(m6 x hx).1,O7.rd1 fun x hx=>(m7 x hx).1,O6.le⟩,
  ⟨fun h=>hoff O5 (fun x hx=>(m5 x hx).2) (qbv.2 h),fun h=>hoff O9 (fun x hx=>(m9 x hx).2) (qbv.2 h),fun h=>hoff O6 (fun x hx=>(m6 x hx).2) (qbv.2 h),fun h=>hoff O7 (fun x hx=>(m7 x hx).2) (qbv.2 h)⟩⟩
theorem UG:∀{vs l:List Value} {i j:Nat},i+vs.length<=j->(over l i vs)[j]?=l[j]?
 | [],_,_,_,_=>rfl
 |v::vs,l,i,j,h=>by
  have h1:i+1+vs.length<=j:=by rw[qa6]at h;omega
  show(over (l.set i v) (i+1) vs)[j]?=_;rw[UG h1,qbo (by omega)]
theorem UH:∀{vs l:List Value} {i j:Nat},j<i->(over l i vs)[j]?=l[j]?
 | [],_,_,_,_=>rfl
 |v::vs,l,i,j,h=>by
  show(over (l.set i v) (i+1) vs)[j]?=_;rw[UH (by omega),qbo (by omega)]
theorem Zs:∀{vs l:List Value} {i j:Nat},i+vs.length<=l.length->j<vs.length->(over l i vs)[i+j]?=vs[j]?
 | [],_,_,_,_,h=>by cases h
 |v::vs,l,i,0,h,_=>by
  show(over (l.set i v) (i+1) vs)[i+0]?=_;rw[UH (by omega),qdx,qc1 (by rw[qa6]at h;omega)];rfl
 |v::vs,l,i,j+1,h,hj=>by
  show(over (l.set i v) (i+1) vs)[i+(j+1)]?=vs[j]?;rw[show i+(j+1)=i+1+j by omega];exact Zs (by rw[qb4];rw[qa6]at h;omega) (by rw[qa6]at hj;omega)
def JR(arch:List Value)(n:Nat)(r:Rnd)(q:RSl):List Value:=((over arch ((r.no % 4).toNat*8) (BD r q)).set 32 (.int .u64 ((min (n+1) 4:Nat):Int))).set 33 (.int .u64 r.no)
theorem Akr{w:World}{b1 b2:Nat}{o1 o2:Obj}(h1:w.heap[b1]?=some o1)(h2:w.heap[b2]?=some o2)(hne:b1≠b2:=by omega):Ctx w [b1,b2] w [(b1,o1),(b2,o2)] :=
 ⟨Ext.refl _ _,fun y hy=>by
  simp only[qag,qar,or_false]at hy
  rcases hy with rfl|rfl
  .exact h1
  .exact h2,by simp only[qbb,qab,forall_eq,qar,false_implies,implies_true,List.Pairwise.nil,and_true];exact hne,fun y hy=>by
  simp only[qag,qar,or_false]at hy
  rcases hy with rfl|rfl
  .exact .inl (qaj ..)
  .exact .inl (qai _ (qaj ..))⟩
theorem Zt{br n:Nat}{arch:List Value}(r:Rnd)(q:RSl)(w:World)(RA:RAt w r q)(hr:RBnd r)(h0:w.heap[br]?=some (Bl 168 arch))(hl:arch.length=34)(hn:arch[32]?=some (.int .u64 n))(hn4:n<=4)(hno:0<=r.no/\r.no<=4611686018427387904) :
  Ret prog 136 #[ptr br,.agg (BD r q).toArray] w fun _ w'=>∃q',Ctx w [br] w' [(br,Bl 168 (JR arch n r q'))]/\RAt w' r q'/\ROff q' r (fun x=>x<w.heap.size):=by
 obtain⟨w0,rfl,H⟩:=qE w;refine A2 (fn:=f136) func136 U [.pointer (some ⟨br,0,none⟩),.agg (BD r q).toArray] U ?_;refine Ad (Bu (BD r q) (.agg _) U U H ?_);rintro b3 w - H;refine qA ?_;have h3:0<=r.no % 4/\r.no % 4<4:=⟨qdb _ (by decide),qdc _ (by decide)⟩;refine C1 [([0,1,2,3,4,6,7],5),([8],9)] (fun z=>z.heap[b3]?=some (Bl 55 (BD r q))) [9] Bs (H.drew.get at0) (AO U U ?_);refine BZ U (A1 Io U (B5 BL U (fun _ hx=>(by rw[An hx];rfl)) ?_));refine All U U U (by omega) (by omega) ?_;refine GX _ Gm Dv U U (fun _ hx=>(CS (b:=b3) (t:=55) (l:=BD r q) hx 0 (BD r q) rfl)) (Bp U (A1 Qs U (Bb ?_)));replace H:=H.drew;have hx3:=H.ext;have hlb3:=Bf (H.get at0);have hb3:w0.heap.size<=b3:=(H.own _ (qaj ..)).elim (fun h=>by cases h) id;have hlbr:=Bf h0
 refine Am qB (UF r q _ (RA.ext0 H.ext) hr) U ?_;rintro v w ⟨hx9,q',rfl,RA',hoff⟩;obtain⟨w9,rfl⟩:=qD w;have hE9:=hx3.trans hx9;replace H:Ctx w9 [br,b3] w9 [(br,Bl 168 arch),(b3,Bl 55 (BD r q))]:=Akr (hE9.to h0 (by simp)) (hx9.to (H.get at0) (by simp));refine Ab (BR (H.get at1) (AO U U ?_));refine Qd U Xc Dv U U (Bb (Il U Dv U U U (by simp[AS]) H at0 (by omega) ?_));rintro w H;refine Ab (BH U (BK ?_));rw[show 0+0+(r.no % 4).toNat*8=(r.no % 4).toNat*8 by omega]at H;obtain⟨A,hA⟩:=qD (over arch ((r.no % 4).toNat*8) (BD r q'));rw[<-hA]at H;have hAl:A.length=34:=by rw[hA,DY];exact hl
 have hAn:A[32]?=some (.int .u64 n):=by rw[hA,UG (by show(r.no % 4).toNat*8+8<=32;omega)];exact hn
 refine ET [([0,1,2,3,4,8,9],5),([6,7,10,11],12),([13,14],15)] (fun z=>z.heap[b3]?=some (Bl 55 (BD r q))) [] Bs (H.drew.get at1) (AO U U ?_);refine BZ U (BZ U (BZ U (Bp U (A1 JB U (A1 Io U (B5 BL U (fun _ hx=>(by rw[An hx];rfl)) ?_))))));refine Bb ?_;replace H:=H.drew;refine Ba BL U ((by rw[An (H.get at0)];exact hAn)) ?_;refine Ab (BR (H.get at1) (AO U U ?_));refine NK U U U (Aco U U U ?_);refine Bp U (A1 JB U (Bb (Cz (.int _ _) Bx U U U H at0 (by(simp;omega)) ?_)));rintro w H;refine Ab (BR (H.get at1) (AO U U ?_));refine Bp U (A1 FV U (Bb (Cz (.int _ _) Bx U U U H at0 (by(simp;omega)) ?_)));rintro w H;refine Ab (BR (H.get at1) (BK (Dd U U ?_)));have hs3:=hx3.size;refine⟨q',?_,RA'.ext H.ext (hoff.mono fun x hx=>?_),hoff.mono fun x hx=>qa3 hx hs3⟩
 .have h9:JR arch n r q'=(A.set (0+32) (.int .u64 (min ((n:Int)+1) 4))).set (0+33) (.int .u64 r.no):=by
   unfold JR;rw[<-hA,show((min (n+1) 4:Nat):Int)=min ((n:Int)+1) 4 by omega]
  rw[h9]
  exact⟨(hE9.mono (S':=[br]) (by simp)).then H.ext (fun x hx=>by
   simp only[qag,qar,or_false]at hx
   rcases hx with rfl|rfl
   .exact .inl (qab.2 U)
   .exact .inr hb3),fun y hy=>by rw[qab.1 hy];exact H.get at0,by simp,fun y hy=>by rw[qab.1 hy];exact .inl (qab.2 rfl)⟩
 .simp only[qag,qar,or_false]at hx
  rcases hx with rfl|rfl
  .exact qa3 hlbr hs3
  .exact hlb3
theorem RAt.no{w:World}{r:Rnd}{q:RSl}(h:RAt w r q)(k d:Int):RAt w { r with no:=k,day:=d } q:=⟨h.I,h.E,h.F,h.P,h.fc⟩
theorem ROff.no{r:Rnd}{q:RSl}{S:Nat->Prop}(h:ROff q r S)(k d:Int):ROff q { r with no:=k,day:=d } S:=⟨h.I,h.E,h.F,h.P⟩
theorem RBnd.no{r:Rnd}(h:RBnd r)(k d:Int):RBnd { r with no:=k,day:=d }:=⟨h.N,h.es,h.ids,h.fl,h.pot⟩
theorem Aks{br n:Nat}{no:Int}{arch:List Value}(r:Rnd)(q:RSl)(w:World)(RA:RAt w r q)(hr:RBnd r)(h0:w.heap[br]?=some (Bl 168 arch))(hl:arch.length=34)(hn:arch[32]?=some (.int .u64 n))(hno:arch[33]?=some (.int .u64 no))(hn4:n<=4)(hb:0<=no/\no<4611686018427387904)(hm:Oo r=true) :
  Ret prog 115 #[ptr br,.agg (BD r q).toArray] w fun v w'=>v=.tuple #[.int .u64 (no+1),.int .i64 0]/\∃q',Ctx w [br] w' [(br,Bl 168 (JR arch n { r with no:=no+1 } q'))]/\RAt w' { r with no:=no+1 } q'/\ROff q' { r with no:=no+1 } (fun x=>x<w.heap.size):=by
 obtain⟨w0,rfl,H⟩:=qE w;have hlbr:=Bf h0;refine A2 (fn:=f115) func115 U [.pointer (some ⟨br,0,none⟩),.agg (BD r q).toArray] U ?_;refine Ad (Bu (BD r q) (.agg _) U U H ?_);rintro b3 w - H;refine Af U (Af U (qA (Ap (Ax (Ad (A9 U (C7 NW U ?_)))))));refine Ai U (qA (Av _ U ?_ ?_))
 .intro h1;cases h1
 .intro h1;refine Ad (BV Gm Dv U H at0 U (Am qB (Zr r q _ (RA.ext0 H.ext) hr) U ?_));rintro v w ⟨rfl,hx11⟩;replace H:=H.call hx11;rw[hm];refine B1 U (Ai U (qA (Av _ U ?_ ?_)))
  .intro h2;replace h2:=Bv h2;cases h2
  .intro h2;replace h2:=Bw h2;refine Ad (A9 U (AP U (Ah FV U (Ba BL U ((by rw[An (H.ext.to h0 (by simp))];exact hno)) ?_))));refine Cq U U (Ai U (qA (Av _ U ?_ ?_)))
   .intro h3;replace h3:=AJ h3;omega
   .intro h3;replace h3:=AK h3;refine Aq (A7 (Aa (Ad (A9 U (AP U (Ah FV U (Ba BL U ((by rw[An (H.ext.to h0 (by simp))];exact hno)) ?_)))))));refine EE U U (Ah Io U (Cz (.int _ _) Bx U U U H at0 (by(simp;done)) ?_));rintro w H;refine qA (Ad (A9 U (BV Gm Dv U H at0 U ?_)));have hb3:w0.heap.size<=b3:=(H.own _ (qaj ..)).elim (fun h=>by cases h) id;refine Am qB (Zt (n:=n) (arch:=arch) { r with no:=no+1 } q _ ((RA.ext0 H.ext).no (no+1) r.day) (hr.no (no+1) r.day) (H.ext.to h0 (by simp)) hl hn hn4 (by dsimp only;omega)) U ?_;rintro v w ⟨q',H2,RA',hoff⟩;have hx27:=H.ext;have hl27:=Bf (H.get at0);have h27:=H2.ext.to (H.get at0) (by rw[qab];omega);have H:=Ctx.start1 h27;refine qA (Ad (Ah Io U (AG BL U H at0 U (Af U (Af U (qA (A6 (BG (v1:=(.int _ _)) (v2:=(.int _ _)) U U U U ?_))))))))
    have hsz:=hx27.size;exact⟨rfl,q',⟨(hx27.mono (by simp)).trans H2.ext,H2.blk,H2.nd,fun y hy=>by rw[qab.1 hy];exact .inl (qab.2 rfl)⟩,RA',hoff.mono fun x hx=>qa3 hx hsz⟩
theorem Ahh{br:Nat}{no:Int}{arch:List Value}(w:World)(h0:w.heap[br]?=some (Bl 168 arch))(hno:arch[33]?=some (.int .u64 no)) :
  Ret prog 53 #[ptr br] w fun v w'=>v=.int .u64 no/\Ext [] w w':=by
 obtain⟨w0,rfl,H⟩:=qE w;refine A2 (fn:=f53) func53 U [.pointer (some ⟨br,0,none⟩)] U ?_;refine Ad (Af U (qA (Ap (Ad (A9 U (C7 NW U ?_))))));refine qA (Av _ U ?_ ?_)
 .intro h1;cases h1
 .intro h1;refine Aq (Aa (Ad (A9 U (AP U (Ah FV U (Ba BL U ((by rw[An (H.ext.to h0 (by simp))];exact hno)) ?_))))));refine Af U (qA (A6 (AD (v:=(.int _ _)) U U U ?_)));exact⟨rfl,H.ext⟩
end Go.Proofs.YtdagmpmdcgedcaaGreat
