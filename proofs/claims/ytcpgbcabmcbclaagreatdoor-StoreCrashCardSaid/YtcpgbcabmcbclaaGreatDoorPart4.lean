/- Part 4 of the proof. -/
import Derived.Test.YtcpgbcabmcbclaaGreatDoorPart3
import Derived.Lib.Bytealg
import Derived.Ground.GgzProg
import Derived.Ground.SlgmProg
set_option maxRecDepth 20000
set_option maxHeartbeats 2000000
namespace Go.Proofs.YtcpgbcabmcbclaaGreatDoor
open Go.GV Go.Proofs.Tryz
attribute [local irreducible] AB W Wq Wt
def GF(b:List UInt8):UInt8:=(b[0]?).getD 0
def KF(b:List UInt8):Nat:=numN ((b.drop 1).take 2)
def IR(b:List UInt8):List UInt8:=(b.drop 3).take 505
def CR(b:List UInt8):List UInt8:=(IR b).take (KF b)
def Qn(b:List UInt8):Bool := !decide ((GF b).toNat=0) && (decide (KF b<=505) && QB ((IR b).drop (KF b)))
def Fd(b:List UInt8):Int:=bif !(decide (b.length=512) && IQ b)then 9 else bif Qn b then 0 else 5
def NR(b:List UInt8)(w:World)(v:Value)(w':World):Prop :=
 (Fd b≠0/\v=.tuple #[.int .u8 0,.slice none 0 0,.int .i64 (Fd b)]/\Ext [] w w') \/
 (Fd b=0/\∃s,v=.tuple #[bv (GF b),s,.int .i64 0]/\Fresh w w' 5 1 s ((CR b).map bv))
theorem Aly{b:List UInt8}(h:(!(decide (b.length=512) && IQ b))=true):Fd b=9:=by rw[Fd,h];rfl
theorem Wc{b:List UInt8}(h:(decide (b.length=512) && IQ b)=true)(h5:Qn b=false):Fd b=5:=by rw[Fd,h,h5];rfl
theorem Ab0{b:List UInt8}(h:(decide (b.length=512) && IQ b)=true)(h5:Qn b=true):Fd b=0:=by rw[Fd,h,h5];rfl
theorem Ain{b:List UInt8}(h:b.length=512):(IR b).length=505:=by simp[IR,h]
theorem Alz{b:List UInt8}(h:b.length=512):b[0]?=some (GF b):=by
 obtain⟨x,hx⟩:=AO (l:=b) (i:=0);rw[GF,hx];rfl
theorem Wd(a:Option Addr)(c n:Nat)(b:List UInt8)(w:World)(R:Rd w a 1 B8 b)(hn:b.length=n)(hc:b.length<=c)(hm:n<=9223372036854775799:=by omega):
  Ret prog 106 #[.slice a n c] w fun v w'=>NR b w v w':=by
 subst hn;obtain⟨w0,rfl,H⟩:=qE w;refine A6 (fn:=f106) func106 U [.slice a b.length c] U ?_;refine Ad (Ac U (Ak U (Ac U (qA (Aq (Ad (BE (α:=Unit) 130560 (fun _=>[(16,.bool (!(decide (b.length=512) && IQ b)))]) (fun _ w'=>Ctx w0 [] w' []) U ?_ ?_)))))))
 .refine Aj U (AP AX U (Ba U U (AA U (AR 12 U ?_ ?_))))
  .intro h1;replace h1:=Bu h1;refine Ag U (Ag U (Ag U (AN U (.bool _) U (Ab ?_))));exact⟨rfl,(),rfl,⟨qab Value.bool (by rw[qar];simp_all;try omega),trivial⟩,H⟩
  .intro h2;replace h2:=Bv h2;refine Aj U (Ai qB (Xu a c b _ (R.ext0 H.ext) hc) U ?_);rintro v w ⟨rfl,rfl⟩;refine BX U (AK U (.bool _) U (Ab ?_));exact⟨rfl,(),rfl,⟨qab Value.bool (by rw[qar];simp_all;try omega),trivial⟩,H⟩
 rintro - j16 w H;refine Au _ U ?_ ?_
 .intro h1;replace h1:=Cz h1;have he:=Aly (b:=b) (by rw[h1];rfl);refine Ad (Ac U (Ak U (Ac U (qA (Ax (Ao (CX (v1:=(.int _ _)) (v2:=(.slice _ _ _)) (v3:=(.int _ _)) U U U U U ?_)))))));exact .inl ⟨by rw[he];decide,by rw[he],H.ext⟩
 .intro h1;replace h1:=C0 h1;have hlr:(decide (b.length=512) && IQ b)=true:=h1;simp only[qao,qap]at h1;obtain⟨h512,hright⟩:=h1;have hrl:=Ain h512;have hk:=Alz h512;have hkb:=HG (GF b)
  have hnb:KF b<65536:=by
   have:=Kr ((b.drop 1).take 2);have h2:((b.drop 1).take 2).length=2:=by rw[qa0,qbg];omega
   rw[h2]at this;exact this
  have hte:Dj b 1 2=0:=by
   unfold Dj;rw[qal (show(1:Int)<=(b.length:Int)by omega),qal (show(2:Int)<=(b.length:Int) - 1 by omega)];rfl
  have htv:Gi b 1 2=.tuple #[.int .u64 (KF b:Int),.int .i64 3,.int .i64 0]:=by rw[Gi,hte];rfl
  have R8:Rd w0 (EL a c 3 1) 1 B8 (IR b):=(R.cut 3 c hc).take 505;refine Ap (Aa (Ad (Aj U (Ai qB (Hd a c b.length b 1 2 _ (R.ext0 H.ext) U hc) U ?_))));rintro v w ⟨rfl,hx⟩;rw[htv];replace H:=H.call hx;refine AQ U (Ah U U (Ah U U (Ah U U (Ac U (Ac U (Ac U (qA (Ad (Aj U ?_)))))))));refine Ae U (Aj U (AP AX U (BB U U ?_)));refine J8 U AX CT U U U ?_;rw[show((b.length:Int) - 4).toNat - ((3:Int)).toNat=505 from by omega];refine Ak U (qA (Aq (AE (Aq (Ad (Aj U (AY R AX CT U U (hn:=by rfl) ?_)))))));refine Be QA U ((R.ext0 H.ext).one (f:=bv) hk) (B6 U U (An U (qA (DC 29 U ?_ ?_))))
  .intro h2;replace h2:=AV h2;have he:=Wc hlr (by rw[Qn,qal (show(GF b).toNat=0 by omega)];rfl);refine Ap (Aa (EA U (Ad (Ac U (Ak U (Ac U (qA (Ax (AL (Ao (CX (v1:=(.int _ _)) (v2:=(.slice _ _ _)) (v3:=(.int _ _)) U U U U U ?_)))))))))));exact .inl ⟨by rw[he];decide,by rw[he],H.ext⟩
  .intro h2;replace h2:=AW h2;refine Av (Ae U (Aj U (AP AX U (DP U Ge Hn ?_))));refine BZ U U (An U (qA (DC 29 U ?_ ?_)))
   .intro h3;replace h3:=AV h3;have he:=Wc hlr (by rw[Qn,qag (show ¬KF b<=505 by omega)];simp);refine Ad (Ac U (Ak U (Ac U (qA (Ax (AL (Ao (CX (v1:=(.int _ _)) (v2:=(.slice _ _ _)) (v3:=(.int _ _)) U U U U U ?_))))))));exact .inl ⟨by rw[he];decide,by rw[he],H.ext⟩
   .intro h3;replace h3:=AW h3;have hcut:=(R8.ext0 H.ext).cut (KF b) (c - 3) (by omega);refine Ad (Aj U (Ae U (F8 AX CT U U ?_)));refine Ai qB (Alw _ (c - 3 - KF b) (505 - KF b) ((IR b).drop (KF b)) _ hcut (by rw[qbg];omega) (by rw[qbg];omega)) U ?_;rintro v w ⟨⟨a',n',c',rfl,hz,hle⟩,rfl⟩;refine AP AX U (BZ U U ?_);rw[show decide ((0:Int)<(n':Int)) = !QB ((IR b).drop (KF b))from by rw[<-hz];exact decide_eq_decide.2 (by omega)];refine An U (qA (Au _ U ?_ ?_))
    .intro h4;have hz4:QB ((IR b).drop (KF b))=false:=by simpa using h4
     have he:=Wc hlr (by rw[Qn,hz4];simp);refine Ad (Ac U (Ak U (Ac U (qA (Ax (AL (Ao (CX (v1:=(.int _ _)) (v2:=(.slice _ _ _)) (v3:=(.int _ _)) U U U U U ?_))))))));exact .inl ⟨by rw[he];decide,by rw[he],H.ext⟩
    .intro h4;have hz4:QB ((IR b).drop (KF b))=true:=by simpa using h4
     have he:=Ab0 hlr (by rw[Qn,hz4,qag (show ¬(GF b).toNat=0 by omega),qal (show KF b<=505 by omega)];rfl);obtain⟨wS,rfl⟩:=qD w;refine Ap (AF (Aa (BR [([0,1,2,3,4,5],6),([7,8],9)] (fun x=>Ext [] wS x) [] mixed (Ext.drew [] wS) ?_)));refine AC U U (BF U (Cr R AX CT U U (hn:=by rfl) ?_));refine BG QA U (fun _ hx=>(R.ext0 (H.ext.trans hx)).one (f:=bv) hk) (BF U (B9 U (Hr U AX CT U U ?_)));refine AU ?_;replace H:=H.drew;refine Ai qB (JM (EL a c 3 1) (c - 3) (KF b) (CR b) _ ((R8.ext0 H.ext).take (KF b)) (by rw[CR,qa0];omega)) U ?_;rintro v w ⟨F,-⟩;obtain⟨a52,n52,c52,full52,rfl,-⟩:=F.ex;refine Ab (Bc ((Ext.drew [] wS).trans F.ext) (AC U U ?_))
     refine Uz U U (Iv U U (AU (Ac U (Ab (Bc ((Ext.drew [] wS).trans F.ext) (B1 (Ax (CX (v1:=(.int _ _)) (v2:=(.slice _ _ _)) (v3:=(.int _ _)) U U U U U ?_))))))));exact .inr ⟨he,_,rfl,Fresh.since F H.ext⟩
theorem Aio(l:List UInt8):QB l=true↔l=List.replicate l.length 0:=by
 rw[QB,qb0,List.eq_replicate_iff];simp
theorem Aip{s:Nat}(hs:s<4294967296):HL (le4 s)=s:=by
 unfold le4;simp only[List.range,List.range.loop,qay,qbn,HL,UInt8.toNat_ofNat'];omega
theorem Fresh.newB{w w':World}{t:Nat}{s:Value}{xs:List UInt8}(h:Fresh w w' t 1 s (xs.map bv)):∃a c,s=.slice a xs.length c/\Rd w' a 1 B8 xs/\xs.length<=c/\(xs=[]\/w.heap.size<=(adr a).block):=by
 obtain⟨a,n,c,full,rfl,O,hb⟩:=h.ex;have hn:=O.num;subst hn;have R:Rd w' a 1 B8 xs:=O.rd1 (t:=t) fun x hx=>(hb x hx).1;refine⟨a,c,rfl,R,O.le,?_⟩
 by_cases h0:xs=[]
 .exact .inl h0
 .obtain⟨b,o,rfl⟩:=R.some' h0;exact .inr (hb _ (qaa.2 U)).2
theorem Rd.newer{w w':World}{a:Option Addr}{xs:List UInt8}{n:Nat}{S:List Nat}(R:Rd w a 1 B8 xs)(hn:xs=[]\/n<=(adr a).block)(he:Ext S w w')(hS:∀x∈S,x<n):Rd w' a 1 B8 xs:=by
 rcases hn with rfl|hn
 .exact Rd.nil
 .exact R.ext he fun h=>absurd (hS _ h) (by omega)
abbrev DX:List UInt8->List UInt8->Int:=Go.Lib.compareBytes
theorem Mi:∀a:List UInt8,DX a a=0
 | []=>rfl
 |x::a=>by
  show(if x<x then _ else if x<x then _ else DX a a)=0;rw[if_neg (UInt8.lt_irrefl x),if_neg (UInt8.lt_irrefl x)];exact Mi a
theorem GH(x y:UInt8)(a b:List UInt8):DX (x::a) (y::b)=if x<y then -1 else if y<x then 1 else DX a b:=rfl
theorem Ks:∀a b:List UInt8,DX a b = -1\/DX a b=0\/DX a b=1
 | [],[] => .inr (.inl rfl)
 | [],_::_ => .inl rfl
 |_::_,[] => .inr (.inr rfl)
 |x::a,y::b=>by
  rw[GH]
  split
  .exact .inl U
  .split
   .exact .inr (.inr U)
   .exact Ks a b
theorem NS:∀{a b:List UInt8},DX a b=0->a=b
 | [],[],_=>rfl
 | [],_::_,h=>by cases h
 |_::_,[],h=>by cases h
 |x::a,y::b,h=>by
  rw[GH]at h
  split at h
  .cases h
  .rename_i h1
   split at h
   .cases h
   .rename_i h2
    rw[NS h,show x=y from UInt8.le_antisymm (UInt8.not_lt.1 h2) (UInt8.not_lt.1 h1)]
theorem UK:∀a b:List UInt8,DX b a = - DX a b
 | [],[]=>rfl
 | [],_::_=>rfl
 |_::_,[]=>rfl
 |x::a,y::b=>by
  rw[GH,GH]
  by_cases h:x<y
  .rw[if_pos h,if_neg (fun h2=>UInt8.lt_irrefl x (UInt8.lt_trans h h2)),if_pos h];rfl
  .rw[if_neg h]
   by_cases h2:y<x
   .rw[if_pos h2,if_pos h2,if_neg h]
   .rw[if_neg h2,if_neg h2,if_neg h];exact UK a b
def ltB(a b:List UInt8):Prop:=DX a b = -1
instance (a b:List UInt8):Decidable (ltB a b):=inferInstanceAs (Decidable (DX a b = -1))
theorem Hw(a:List UInt8):¬ltB a a:=fun h=>by rw[ltB,Mi]at h;cases h
theorem ER:∀{a b c:List UInt8},ltB a b->ltB b c->ltB a c
 | [],[],_,h,_=>by cases h
 | [],_::_,[],_,h=>by cases h
 | [],_::_,_::_,_,_=>rfl
 |_::_,[],_,h,_=>by cases h
 |_::_,_::_,[],_,h=>by cases h
 |x::a,y::b,z::c,h1,h2=>by
  unfold ltB at h1 h2 |-;rw[GH]at h1 h2 |-
  by_cases hxy:x<y
  .by_cases hyz:y<z
   .rw[if_pos (UInt8.lt_trans hxy hyz)]
   .rw[if_neg hyz]at h2
    by_cases hzy:z<y
    .rw[if_pos hzy]at h2;cases h2
    .have:y=z:=UInt8.le_antisymm (UInt8.not_lt.1 hzy) (UInt8.not_lt.1 hyz)
     subst this;rw[if_pos hxy]
  .rw[if_neg hxy]at h1
   by_cases hyx:y<x
   .rw[if_pos hyx]at h1;cases h1
   .rw[if_neg hyx]at h1
    have:x=y:=UInt8.le_antisymm (UInt8.not_lt.1 hyx) (UInt8.not_lt.1 hxy)
    subst this
    by_cases hyz:x<z
    .rw[if_pos hyz]
    .rw[if_neg hyz]at h2 |-
     by_cases hzy:z<x
     .rw[if_pos hzy]at h2;cases h2
     .rw[if_neg hzy]at h2 |-;exact ER h1 h2
theorem Fl{a b:List UInt8}(h:ltB a b):¬ltB b a:=fun h2=>Hw a (ER h h2)
theorem Aiq{a b:List UInt8}:DX a b=1↔ltB b a:=by
 unfold ltB;rw[UK a b];omega
theorem Mj(a b:List UInt8):ltB a b\/a=b\/ltB b a:=by
 rcases Ks a b with h|h|h
 .exact .inl h
 .exact .inr (.inl (NS h))
 .exact .inr (.inr (Aiq.1 h))
theorem Hx{a b:List UInt8}(h:ltB a b):a≠b:=fun e=>Hw b (e ▸ h)
theorem We{a b:List UInt8}:DX a b<=0↔¬ltB b a:=by
 rw[<-Aiq];rcases Ks a b with h|h|h <;> omega
theorem Ju{a b:List UInt8}:DX a b<0↔ltB a b:=by
 unfold ltB;rcases Ks a b with h|h|h <;> omega
theorem Ab1{a b:List UInt8}:0<=DX a b↔¬ltB a b:=by
 rw[<-Ju];omega
theorem Air{a b c:List UInt8}(h1:ltB a b)(h2:¬ltB c b):ltB a c:=by
 rcases Mj b c with h|h|h
 .exact ER h1 h
 .exact h ▸ h1
 .exact absurd h h2
abbrev Pr:=List UInt8 × List UInt8
def Rising(L:List Pr):Prop:=L.Pairwise fun x y=>ltB x.1 y.1
def HO(L:List Pr)(k v:List UInt8):List Pr:=L.filter (fun p=>decide (ltB p.1 k))++(k,v)::L.filter (fun p=>decide (ltB k p.1))
def JA(L:List Pr)(k:List UInt8):List Pr:=L.filter fun p => !decide (p.1=k)
def DQ(L:List Pr)(k:List UInt8):Option (List UInt8):=(L.find? fun p=>decide (p.1=k)).map (·.2)
theorem Er{α:Type}{f:α->Bool}{l:List α}(h:∀x∈l,f x=true):l.filter f=l:=List.filter_eq_self.2 h
theorem FG{α:Type}{f:α->Bool}{l:List α}(h:∀x∈l,f x=false):l.filter f=[]:=List.filter_eq_nil_iff.2 fun x hx=>by rw[h x hx];simp
theorem Ais{A L B:List Pr}{k v:List UInt8}(hA:∀p∈A,ltB p.1 k)(hB:∀p∈B,ltB k p.1):HO (A++(L++B)) k v=A++(HO L k v++B):=by
 have f1:B.filter (fun p=>decide (ltB p.1 k))=[]:=FG fun p hp=>qag (Fl (hB p hp));have f2:A.filter (fun p=>decide (ltB k p.1))=[]:=FG fun p hp=>qag (Fl (hA p hp));have f3:A.filter (fun p=>decide (ltB p.1 k))=A:=Er fun p hp=>qal (hA p hp);have f4:B.filter (fun p=>decide (ltB k p.1))=B:=Er fun p hp=>qal (hB p hp);unfold HO;rw[qbq,qbq,qbq,qbq,f1,f2,f3,f4,qa3,qa7,qa1,qa1,qbx]
theorem Ait{A L B:List Pr}{k:List UInt8}(hA:∀p∈A,ltB p.1 k)(hB:∀p∈B,ltB k p.1):JA (A++(L++B)) k=A++(JA L k++B):=by
 have f1:A.filter (fun p => !decide (p.1=k))=A:=Er fun p hp=>by rw[qag (Hx (hA p hp))];rfl
 have f2:B.filter (fun p => !decide (p.1=k))=B:=Er fun p hp=>by rw[qag (fun e=>Hx (hB p hp) e.symm)];rfl
 unfold JA;rw[qbq,qbq,f1,f2]
theorem Aiu{A L B:List Pr}{k:List UInt8}(hA:∀p∈A,ltB p.1 k)(hB:∀p∈B,ltB k p.1):DQ (A++(L++B)) k=DQ L k:=by
 have f1:A.find? (fun p=>decide (p.1=k))=none:=qed.2 fun p hp=>by simpa using Hx (hA p hp)
 have f2:B.find? (fun p=>decide (p.1=k))=none:=qed.2 fun p hp=>by simpa using fun e=>Hx (hB p hp) e.symm
 unfold DQ;rw[qee,qee,f1,f2,Option.none_or,Option.or_none]
theorem Xx{L:List Pr}{k v:List UInt8}{p:Pr}(h:p∈HO L k v):p=(k,v)\/p∈L:=by
 unfold HO at h
 rcases qau.1 h with h|h
 .exact .inr ((qbk.1 h).1)
 .rcases qac.1 h with h|h
  .exact .inl h
  .exact .inr ((qbk.1 h).1)
theorem Xy{L:List Pr}{k:List UInt8}{p:Pr}(h:p∈JA L k):p∈L:=(qbk.1 h).1
theorem GI{L:List Pr}(h:Rising L)(k v:List UInt8):Rising (HO L k v):=by
 unfold Rising HO;rw[qca];refine⟨h.sublist qeu,?_,fun x hx y hy=>?_⟩
 .rw[qbh];exact⟨fun y hy=>by simpa using(qbk.1 hy).2,h.sublist qeu⟩
 .have h1:ltB x.1 k:=by simpa using(qbk.1 hx).2
  rcases qac.1 hy with rfl|hy
  .exact h1
  .exact ER h1 (by simpa using(qbk.1 hy).2)
theorem HP{L:List Pr}(h:Rising L)(k:List UInt8):Rising (JA L k):=h.sublist qeu
theorem Xz(L:List Pr)(k v:List UInt8)(_:Rising L):(HO L k v).length<=L.length+1:=by
 unfold HO
 have:∀L:List Pr,(L.filter fun p=>decide (ltB p.1 k)).length+(L.filter fun p=>decide (ltB k p.1)).length<=L.length:=by
  intro L
  induction L with
  |nil=>exact qae _
  |cons p L ih =>
   have ih:=ih;rw[qbm,qbm,qaw]
   by_cases h1:ltB p.1 k
   .rw[qal h1,qag (Fl h1)];simp only[if_true,qdn,if_false,qaw];omega
   .rw[qag h1];simp only[qdn,if_false]
    split
    .rw[qaw];omega
    .omega
 rw[qan,qaw,<-qcl];exact Nat.succ_le_succ (this L)
theorem X0(L:List Pr)(k:List UInt8):(JA L k).length<=L.length:=qev ..
theorem ET{L:List Pr}(h:Rising L){k v:List UInt8}:DQ L k=some v↔(k,v)∈L:=by
 unfold DQ
 induction L with
 |nil=>simp
 |cons p L ih =>
  have hp:=(qbh.1 h);rw[qda]
  by_cases e:p.1=k
  .rw[qal e];simp only[qbc,qbb,qac];constructor
   .rintro rfl;exact .inl (by rw[<-e])
   .rintro(h1|h1)
    .rw[<-h1]
    .exact absurd (e:p.1=k) (Hx (hp.1 _ h1))
  .rw[qag e];simp only[qac];rw[ih hp.2];exact⟨.inr,fun h1=>h1.elim (fun h1=>absurd (by rw[<-h1]) e) id⟩
theorem UL{L:List Pr}{k:List UInt8}(h:DQ L k=none):JA L k=L:=by
 refine Er fun p hp=>?_;unfold DQ at h;rw[Option.map_eq_none_iff,qed]at h
 simpa using h p hp
theorem Rising.append{A B:List Pr}:Rising (A++B)↔Rising A/\Rising B/\∀x∈A,∀y∈B,ltB x.1 y.1:=qca
theorem Ad2(n k:Nat):Bq n (k+1)=Bq (n / 256) k++[UInt8.ofNat n]:=by
 unfold Bq;rw[List.range_succ,qaz]
 congr 1
 .refine qc0 fun i hi=>?_;have hi':=qdc.1 hi;rw[Nat.div_div_eq_div_mul,show(256:Nat)=2 ^ 8 from rfl,<-Nat.pow_add]
  congr 3
  omega
 .simp
theorem Fm(k:Nat):∀n,numN (Bq n k)=n % 256 ^ k:=by
 induction k with
 |zero=>intro n;simp[Bq,numN,Nat.mod_one]
 |succ k ih =>
  intro n;rw[Ad2,UJ,ih];have h1:(UInt8.ofNat n).toNat=n % 256:=by simp[UInt8.toNat_ofNat']
  rw[h1,qea,qd9 (256 ^ k) 256,Nat.mod_mul];omega
theorem ZJ(k:UInt8){l:List UInt8}(h:l.length<=505):IQ (DT k l)=true:=by
 have hl:=FF (k:=k) h;have hh:=S5 (k:=k) h;unfold IQ;rw[hl];have h1:(DT k l).take (512 - 4)=HN k l:=by unfold DT;rw[show 512 - 4=508 from rfl];exact Qm hh
 have h2:(DT k l).drop (512 - 4)=le4 (VX (HN k l)).toNat:=by
  unfold DT;rw[qef (by omega),qb7 (by omega),qa7]
 rw[h1,h2,Aip (VX (HN k l)).isLt];simp
theorem Ml(k:UInt8)(l:List UInt8):GF (DT k l)=k:=rfl
theorem X6(k:UInt8){l:List UInt8}(h:l.length<=505):KF (DT k l)=l.length:=by
 unfold KF
 have h1:((DT k l).drop 1).take 2=Bq l.length 2:=by
  unfold DT HN;rw[qbx,List.drop_one,List.tail_cons,qa1,qcs (Nat.le_of_eq (AZ _ _).symm),qa6 (Nat.le_of_eq (AZ _ _))]
 rw[h1,Fm,qa9 (by omega)]
theorem UM(k:UInt8){l:List UInt8}(h:l.length<=505):IR (DT k l)=l++List.replicate (505 - l.length) 0:=by
 unfold IR DT HN
 have h1:(k::(Bq l.length 2++(l++List.replicate (505 - l.length) 0))++le4 (VX (k::(Bq l.length 2++(l++List.replicate (505 - l.length) 0)))).toNat) =
   (k::Bq l.length 2)++((l++List.replicate (505 - l.length) 0)++le4 (VX (k::(Bq l.length 2++(l++List.replicate (505 - l.length) 0)))).toNat):=by simp
 rw[h1,qef (by simp[AZ]),qb7 (by simp[AZ]),qa7,qcs (by simp;omega),qa6 (by simp;omega)]
theorem JN(k:UInt8){l:List UInt8}(h:l.length<=505):CR (DT k l)=l:=by
 rw[CR,UM k h,X6 k h,qcs (qae _),qa6 (qae _)]
theorem Mm{k:UInt8}{l:List UInt8}(hk:k.toNat≠0)(h:l.length<=505):Fd (DT k l)=0:=by
 refine Ab0 ?_ ?_
 .rw[FF h,ZJ k h];rfl
 .unfold Qn;rw[Ml,X6 k h,UM k h,qef (qae _),qb7 (qae _),qa7,qag hk,qal h,(Aio _).2 (by simp)];rfl
structure It where
 key:List UInt8
 val:List UInt8
 page:Nat
def CK(inner:Bool)(x:It):Nat:=bif inner then 6+x.key.length else 4+x.key.length+x.val.length
def Bd(inner:Bool)(l:List It):Nat:=(l.map (CK inner)).sum
def Fe(inner:Bool)(x:It):List UInt8:=bif inner then Bq x.page 4++(Bq x.key.length 2++x.key)else Bq x.key.length 2++x.key++(Bq x.val.length 2++x.val)
def HQ(inner:Bool)(l:List It):List UInt8:=Bq l.length 2++l.flatMap (Fe inner)
def HR(inner:Bool)(l:List It):UInt8:=if inner=true/\l≠[]then 3 else 2
theorem UN(inner:Bool)(x:It):(Fe inner x).length=CK inner x:=by
 cases inner <;> simp[Fe,CK,AZ] <;> omega
theorem flat_len(inner:Bool)(l:List It):(l.flatMap (Fe inner)).length=Bd inner l:=by
 induction l with
 |nil=>rfl
 |cons x l ih=>rw[qcc,qan,UN,ih];rfl
theorem Mn(inner:Bool)(l:List It):(HQ inner l).length=2+Bd inner l:=by rw[HQ,qan,AZ,flat_len]
theorem BA(inner:Bool)(a b:List It):Bd inner (a++b)=Bd inner a+Bd inner b:=by simp[Bd]
theorem Da(inner:Bool)(x:It)(b:List It):Bd inner (x::b)=CK inner x+Bd inner b:=by simp[Bd]
def tbO(b:List UInt8)(at':Nat):Option (List UInt8 × Nat) :=
 if Dj b at' 2=0 then(if at'+2+numN ((b.drop at').take 2)<=b.length then some ((b.drop (at'+2)).take (numN ((b.drop at').take 2)),at'+2+numN ((b.drop at').take 2))else none)else none
def Nh(inner:Bool)(b:List UInt8)(at':Nat):Option (It × Nat) :=
 if inner=true then
  (if Dj b at' 4=0 then(match tbO b (at'+4)with
   |some (k,n)=>some (⟨k,[],numN ((b.drop at').take 4)⟩,n)
   |none=>none)else none)
 else match tbO b at' with
  |some (k,n)=>(match tbO b n with
   |some (v,m)=>some (⟨k,v,0⟩,m)
   |none=>none)
  |none=>none
def Ft(inner:Bool)(b:List UInt8):Nat->Nat->Option (List It × Nat)
 |0,at'=>some ([],at')
 |n+1,at'=>match Nh inner b at' with
  |none=>none
  |some (x,m)=>match Ft inner b n m with
   |none=>none
   |some (l,e)=>some (x::l,e)
def XA(inner:Bool)(b:List UInt8):Option (List It × Nat)->Option (Bool × List It)
 |some r=>if r.2=b.length/\r.1≠[]then some (inner,r.1)else none
 |none=>none
def Eu(b:List UInt8):Option (Bool × List It) :=
 if Fd b=0/\Dj (CR b) 0 2=0/\((GF b).toNat=2\/(GF b).toNat=3)then
  XA (decide ((GF b).toNat=3)) (CR b) (Ft (decide ((GF b).toNat=3)) (CR b) (numN ((CR b).take 2)) 2)
 else none
theorem Ab2{b:List UInt8}{at':Nat}{k:Nat}(hk:HM k=true:=by decide):Dj b (at':Int) (k:Int)=0↔at'+k<=b.length:=by
 unfold Dj;rw[hk]
 by_cases h1:at'<=b.length
 .rw[qal (show(0:Int)<=(at':Int)by omega),qal (show(at':Int)<=(b.length:Int)by omega)]
  by_cases h2:at'+k<=b.length
  .rw[qal (show(k:Int)<=(b.length:Int) - (at':Int)by omega)];simp[h2]
  .rw[qag (show ¬(k:Int)<=(b.length:Int) - (at':Int)by omega)];simp[h2]
 .rw[qag (show ¬(at':Int)<=(b.length:Int)by omega)];simp;omega
theorem Ab3{b:List UInt8}{at':Nat}:Dj b (at':Int) 2=0↔at'+2<=b.length:=Ab2 (k:=2)
theorem Al0{b:List UInt8}{at':Nat}:Dj b (at':Int) 4=0↔at'+4<=b.length:=Ab2 (k:=4)
theorem S8{α:Type}{a b:List α}{n:Nat}(h:a.length=n):(a++b).drop n=b:=by subst h;simp
theorem NT{α:Type}{a b:List α}{n:Nat}(h:a.length=n):(a++b).take n=a:=by subst h;simp
theorem NU{A s B:List UInt8}{at':Nat}(ha:A.length=at')(hs:s.length<65536):tbO (A++(Bq s.length 2++(s++B))) at'=some (s,at'+2+s.length):=by
 have e1:(A++(Bq s.length 2++(s++B))).drop at'=Bq s.length 2++(s++B):=S8 ha;have e2:(Bq s.length 2++(s++B)).take 2=Bq s.length 2:=NT (AZ ..);have e3:numN (Bq s.length 2)=s.length:=by rw[Fm];exact qa9 (by omega)
 have e4:(A++(Bq s.length 2++(s++B))).drop (at'+2)=s++B:=by
  rw[<-qa1];exact S8 (by rw[qan,AZ,ha])
 have e5:(A++(Bq s.length 2++(s++B))).length=at'+2+s.length+B.length:=by simp[AZ,ha];omega
 unfold tbO;rw[if_pos (Ab3.2 (by omega)),e1,e2,e3,if_pos (by omega),e4,NT rfl]
def OkI(inner:Bool)(x:It):Prop:=x.key.length<65536/\x.val.length<65536/\x.page<4294967296/\(if inner=true then x.val=[]else x.page=0)
theorem Ad3{inner:Bool}{x:It}(hx:OkI inner x){A B:List UInt8}{at':Nat}(ha:A.length=at'):Nh inner (A++(Fe inner x++B)) at'=some (x,at'+CK inner x):=by
 obtain⟨hk,hv,hp,hc⟩:=hx;obtain⟨key,val,page⟩:=x
 cases inner with
 |true =>
  simp only[if_true]at hc;subst hc;have e0:A++(Fe true ⟨key,[],page⟩++B)=A++(Bq page 4++(Bq key.length 2++(key++B))):=by simp[Fe]
  have e1:(A++(Bq page 4++(Bq key.length 2++(key++B)))).drop at'=Bq page 4++(Bq key.length 2++(key++B)):=S8 ha;have e2:(Bq page 4++(Bq key.length 2++(key++B))).take 4=Bq page 4:=NT (AZ ..);have e3:numN (Bq page 4)=page:=by rw[Fm];exact qa9 (by omega)
  have e4:tbO (A++(Bq page 4++(Bq key.length 2++(key++B)))) (at'+4)=some (key,at'+4+2+key.length):=by
   rw[<-qa1];exact NU (by rw[qan,AZ,ha]) hk
  have e5:(A++(Bq page 4++(Bq key.length 2++(key++B)))).length=at'+6+key.length+B.length:=by simp[AZ,ha];omega
  unfold Nh;rw[e0,if_pos rfl,if_pos (Al0.2 (by omega)),e4];simp only[e1,e2,e3,CK,cond_true];rw[show at'+4+2+key.length=at'+(6+key.length)by omega]
 |false =>
  simp only[qdn,if_false]at hc;subst hc;have e0:A++(Fe false ⟨key,val,0⟩++B)=A++(Bq key.length 2++(key++(Bq val.length 2++(val++B)))):=by simp[Fe]
  have e1:=NU (s:=key) (B:=Bq val.length 2++(val++B)) ha hk
  have e2:tbO (A++(Bq key.length 2++(key++(Bq val.length 2++(val++B))))) (at'+2+key.length)=some (val,at'+2+key.length+2+val.length):=by
   rw[show A++(Bq key.length 2++(key++(Bq val.length 2++(val++B))))=(A++(Bq key.length 2++key))++(Bq val.length 2++(val++B))by simp];exact NU (by simp[AZ,ha];omega) hv
  unfold Nh;rw[e0,if_neg (by simp),e1];simp only[e2,CK,cond_false];rw[show at'+2+key.length+2+val.length=at'+(4+key.length+val.length)by omega]
theorem NV{inner:Bool}:∀{l:List It} (_:∀x∈l,OkI inner x) {A:List UInt8} {at':Nat} (_:A.length=at'),Ft inner (A++l.flatMap (Fe inner)) l.length at'=some (l,at'+Bd inner l)
 | [],_,A,at',_=>rfl
 |x::l,hl,A,at',ha=>by
  have h1:=Ad3 (hl x (qaf ..)) (B:=l.flatMap (Fe inner)) ha;have h2:=NV (l:=l) (fun y hy=>hl y (qai _ hy)) (A:=A++Fe inner x) (at':=at'+CK inner x) (by rw[qan,UN,ha]);rw[qa1]at h2;rw[qcc,qaw];unfold Ft;rw[h1];simp only[h2,Da];rw[qcl]
theorem ZK{inner:Bool}{l:List It}(hl:∀x∈l,OkI inner x)(hne:l≠[])(ht:Bd inner l<=503):Eu (DT (HR inner l) (HQ inner l))=some (inner,l):=by
 have hbl:=Mn inner l;have hk:(HR inner l).toNat=if inner=true then 3 else 2:=by unfold HR;cases inner <;> simp[hne] <;> rfl
 have hk0:(HR inner l).toNat≠0:=by rw[hk];split <;> omega
 have o1:=Mm (k:=HR inner l) (l:=HQ inner l) hk0 (by omega);have o2:=Ml (HR inner l) (HQ inner l);have hb:=JN (HR inner l) (l:=HQ inner l) (by omega)
 have hlen:l.length<=Bd inner l:=by
  have:∀l:List It,l.length<=Bd inner l:=by
   intro l
   induction l with
   |nil=>exact qae _
   |cons x l ih =>
    have h1:1<=CK inner x:=by
     cases inner
     .simp only[CK,cond_false];omega
     .simp only[CK,cond_true];omega
    rw[Da,qaw];omega
  exact this l
 have hd:decide ((HR inner l).toNat=3)=inner:=by rw[hk];cases inner <;> rfl
 unfold Eu;rw[o2,hb];have ht2:(HQ inner l).take 2=Bq l.length 2:=NT (AZ ..);have hn:numN (Bq l.length 2)=l.length:=by rw[Fm];exact qa9 (by omega)
 have hp:=NV hl (A:=Bq l.length 2) (at':=2) (AZ ..);rw[if_pos ⟨o1,(Ab3 (b:=HQ inner l) (at':=0)).2 (by omega),by rw[hk];split <;> simp⟩,ht2,hn,hd];rw[show HQ inner l=Bq l.length 2++l.flatMap (Fe inner)from rfl,hp];show(if _ then _ else _)=_;rw[if_pos ⟨by rw[<-Mn];rfl,hne⟩]
abbrev Byt:=List UInt8
structure Dev where
 B:List (Byt × List Byt)
 left:Int
 on:Bool
def stands(p:Byt × List Byt):Byt:=p.2.getLast?.getD p.1
def zeros:Byt:=List.replicate 512 0
def Dev.goes(A:Dev):Bool:=decide (A.left=0)
def Dev.less(A:Dev):Dev:=if A.left=0 then{ A with on:=false }else if A.left = -1 then A else{ A with left:=A.left - 1 }
def Aiv(n:Int):Int:=bif decide (n<1) || decide (4096<n)then 1 else 0
def Fu(n:Nat):Dev:=⟨List.replicate n (zeros,[]),-1,true⟩
def Dev.has(A:Dev)(k:Int):Bool:=decide (0<=k) && decide (k<A.B.length)
def GK(A:Dev)(k:Int):Int:=bif A.on then(bif A.has k then 0 else 1)else 8
def GL(A:Dev)(k:Int):Byt:=bif decide (GK A k=0)then stands (A.B.getD k.toNat (zeros,[]))else[]
def Dt(A:Dev)(k:Int)(b:Byt):Int:=bif A.on then(bif A.has k && decide (b.length=512)then(bif A.goes then 8 else 0)else 1)else 8
def Pi(A:Dev)(k:Nat)(b:Byt):Dev:={ A with B:=A.B.modify k fun p=>(p.1,p.2++[b]) }
def CE(A:Dev)(k:Int)(b:Byt):Dev:=bif A.on && (A.has k && decide (b.length=512))then(bif A.goes then A.less else Pi A.less k.toNat b)else A
def Du(A:Dev):Int:=bif A.on then(bif A.goes then 8 else 0)else 8
def Ig(A:Dev):Dev:={ A with B:=A.B.map fun p=>(stands p,[]) }
def Cp(A:Dev):Dev:=bif A.on then(bif A.goes then A.less else Ig A.less)else A
def Ni(A:Dev):Int:=bif A.on then 0 else 8
def IU(A:Dev)(n:Int):Dev:=bif A.on then{ A with left:=max n (-1) }else A
def MF(A:Dev):Dev:={ A with on:=false }
def Pj(p:Byt × List Byt)(x:Nat):Byt:=if x=0 then p.1 else p.2.getD (x - 1) p.1
def MO(p:Byt × List Byt)(picks:List Int):Nat:=match picks with | []=>0|x::_=>(max x 0).toNat % (p.2.length+1)
def Es:List (Byt × List Byt)->List Int->List (Byt × List Byt)
 | [],_=>[]
 |p::l,picks=>if p.2=[]then(p.1,[])::Es l picks else(Pj p (MO p picks),[])::Es l picks.tail
def onE(A:Dev):Int:=bif A.on then 3 else 0
def onD(A:Dev)(picks:List Int):Dev:=bif A.on then A else⟨Es A.B picks,-1,true⟩
structure Wf(A:Dev):Prop where
 lo:1<=A.B.length
 hi:A.B.length<=4096
 left : -1<=A.left
 left2:A.left<=9223372036854775807
 sure:∀p∈A.B,p.1.length=512
 loose:∀p∈A.B,∀b∈p.2,b.length=512
def Few(A:Dev)(m:Nat):Prop:=∀p∈A.B,p.2.length<=m
theorem NW{α:Type}{l:List α}{i:Nat}{d:α}(h:i<l.length:=by omega):l.getD i d∈l:=by
 rw[qa8,qbd h];exact List.getElem_mem h
theorem Li{α:Type}{l:List α}{f:α->α}{i:Nat}{x:α}(h:x∈l.modify i f):x∈l\/∃y∈l,x=f y:=by
 induction l generalizing i with
 |nil=>simp at h
 |cons a l ih =>
  cases i with
  |zero =>
   rw[List.modify_zero_cons,qac]at h
   rcases h with rfl|h
   .exact .inr ⟨a,qaf ..,rfl⟩
   .exact .inl (qai _ h)
  |succ i =>
   rw[qfa,qac]at h
   rcases h with rfl|h
   .exact .inl (qaf ..)
   .rcases ih h with h|⟨y,hy,rfl⟩
    .exact .inl (qai _ h)
    .exact .inr ⟨y,qai _ hy,rfl⟩
theorem Gs(A:Dev):A.less.B=A.B:=by
 unfold Dev.less
 split
 .rfl
 .split <;> rfl
theorem Wg{A:Dev}(h:Wf A):Wf A.less:=by
 have h1:=h.left;have h2:=h.left2;unfold Dev.less
 split
 .exact⟨h.lo,h.hi,h.left,h.left2,h.sure,h.loose⟩
 .split
  .exact h
  .exact⟨h.lo,h.hi,by dsimp only;omega,by dsimp only;omega,h.sure,h.loose⟩
theorem Kt{A:Dev}(h:Wf A){p:Byt × List Byt}(hp:p∈A.B):(stands p).length=512:=by
 unfold stands
 cases hl:p.2.getLast? with
 |none=>exact h.sure p hp
 |some b=>exact h.loose p hp b (List.mem_of_getLast? hl)
theorem Al1{A:Dev}(h:Wf A){k:Nat}{b:Byt}(hb:b.length=512):Wf (Pi A k b):=by
 refine⟨by simpa[Pi]using h.lo,by simpa[Pi]using h.hi,h.left,h.left2,fun p hp=>?_,fun p hp x hx=>?_⟩
 .rcases Li hp with hp|⟨y,hy,rfl⟩
  .exact h.sure p hp
  .exact h.sure y hy
 .rcases Li hp with hp|⟨y,hy,rfl⟩
  .exact h.loose p hp x hx
  .simp only[qau,qaa]at hx
   rcases hx with hx|rfl
   .exact h.loose y hy x hx
   .exact hb
theorem Aiw{A:Dev}(h:Wf A):Wf (Ig A):=by
 refine⟨by simpa[Ig]using h.lo,by simpa[Ig]using h.hi,h.left,h.left2,fun p hp=>?_,fun p hp x hx=>?_⟩
 .obtain⟨y,hy,rfl⟩:=qah.1 hp;exact Kt h hy
 .obtain⟨y,hy,rfl⟩:=qah.1 hp;simp at hx
theorem Aix{A:Dev}(h:Wf A){p:Byt × List Byt}(hp:p∈A.B)(x:Nat):(Pj p x).length=512:=by
 unfold Pj
 split
 .exact h.sure p hp
 .rw[qa8]
  cases hx:p.2[x - 1]? with
  |none=>exact h.sure p hp
  |some b=>exact h.loose p hp b (qad hx)
theorem GM(l:List (Byt × List Byt))(picks:List Int):(Es l picks).length=l.length:=by
 induction l generalizing picks with
 |nil=>rfl
 |cons p l ih=>unfold Es;split <;> simp[ih]
theorem Pm{l:List (Byt × List Byt)}{picks:List Int}{q:Byt × List Byt}(h:q∈Es l picks):q.2=[]/\∃p∈l,∃x,q.1=Pj p x:=by
 induction l generalizing picks with
 |nil=>simp[Es]at h
 |cons p l ih =>
  unfold Es at h
  split at h
  .rw[qac]at h
   rcases h with rfl|h
   .exact⟨rfl,p,qaf ..,0,rfl⟩
   .obtain⟨h1,y,hy,h2⟩:=ih h;exact⟨h1,y,qai _ hy,h2⟩
  .rw[qac]at h
   rcases h with rfl|h
   .exact⟨rfl,p,qaf ..,_,rfl⟩
   .obtain⟨h1,y,hy,h2⟩:=ih h;exact⟨h1,y,qai _ hy,h2⟩
theorem Apu{n:Nat}(h1:1<=n:=by omega)(h2:n<=4096:=by omega):Wf (Fu n):=by
 refine⟨by simpa[Fu]using h1,by simpa[Fu]using h2,by show(-1:Int) <= -1;omega,by show(-1:Int)<=_;omega,fun p hp=>?_,fun p hp x hx=>?_⟩
 .rw[(qeg.1 hp).2];exact qba
 .rw[(qeg.1 hp).2]at hx;cases hx
theorem Apv{A:Dev}(h:Wf A)(n:Int)(hn:n<=9223372036854775807):Wf (IU A n):=by
 unfold IU;cases A.on
 .exact h
 .exact⟨h.lo,h.hi,by show(-1:Int)<=max n (-1);omega,by show max n (-1)<=(_:Int);omega,h.sure,h.loose⟩
theorem Apw{A:Dev}(h:Wf A):Wf (MF A):=⟨h.lo,h.hi,h.left,h.left2,h.sure,h.loose⟩
theorem on_wf{A:Dev}(h:Wf A)(picks:List Int):Wf (onD A picks):=by
 unfold onD;cases A.on
 .refine⟨by show 1<=(Es A.B picks).length;rw[GM];exact h.lo,by show(Es A.B picks).length<=4096;rw[GM];exact h.hi,by show(-1:Int) <= -1;omega,by show(-1:Int)<=_;omega,fun p hp=>?_,fun p hp x hx=>?_⟩
  .obtain⟨_,y,hy,x,hx⟩:=Pm hp;rw[hx];exact Aix h hy x
  .rw[(Pm hp).1]at hx;cases hx
 .exact h
theorem Few.mono{A:Dev}{m m':Nat}(h:Few A m)(hm:m<=m'):Few A m':=fun p hp=>qav (h p hp) hm
theorem JP{A:Dev}{m:Nat}(h:Few A m):Few A.less m:=fun p hp=>h p (by rwa [Gs]at hp)
theorem Hy{A:Dev}{m:Nat}(h:Few A m)(k:Int)(b:Byt):Few (CE A k b) (m+1):=by
 unfold CE;cases A.on && (A.has k && decide (b.length=512))
 .exact h.mono (by omega)
 .cases A.goes
  .intro p hp
   rcases Li hp with hp|⟨y,hy,rfl⟩
   .have:=JP h p hp;omega
   .have:=JP h y hy;simp only[qan,qbu];omega
  .exact(JP h).mono (by omega)
theorem I0{A:Dev}{m:Nat}(h:Few A m):Few (Cp A) m:=by
 unfold Cp;cases A.on
 .exact h
 .cases A.goes
  .intro p hp;obtain⟨y,_,rfl⟩:=qah.1 hp;exact qak _
  .exact JP h
def All2{α β:Type}(R:α->β->Prop)(xs:List α)(ys:List β):Prop:=xs.length=ys.length/\∀(i:Nat) (x:α) (y:β),xs[i]?=some x->ys[i]?=some y->R x y
def BytesAt(w:World)(role:Nat->Nat)(v:Value)(s:Byt):Prop:=∃a c,v=.slice a 512 c/\Rd w a 1 B8 s/\s.length=512/\role (adr a).block=4/\512<=c
def SureAt(w:World)(role:Nat->Nat)(v:Value)(s:Byt):Prop:=(v=.slice none 0 0/\s=zeros)\/BytesAt w role v s
def LooseAt(w:World)(role:Nat->Nat)(k:Nat)(v:Value)(l:List Byt):Prop :=
 ∃a n c full vs,v=.slice a n c/\OS a n c 1 full vs/\(∀x∈ent a 24 full,w.heap[x.1]?=some x.2/\role x.1=5+k)/\All2 (BytesAt w role) vs l
def DB(n bs bm:Nat)(left:Int)(on:Bool):List Value:=[.slice (some ⟨bs,0,none⟩) n n,.map (some bm),.int .i64 left,.bool (!on)]
def TD:Nat:=72
def nilS:Value := .slice none 0 0
structure DevR(w:World)(bd:Nat)(A:Dev)(role:Nat->Nat)(bs bm:Nat)(sv:List Value)(m:List (Int × Value))(o:Obj):Prop where
 lt:∀x,role x≠0->x<w.heap.size
 rd:role bd=1
 rs:role bs=2
 rm:role bm=3
 hd:w.heap[bd]?=some (Bl TD (DB A.B.length bs bm A.left A.on))
 hs:w.heap[bs]?=some (Bl 24 sv)
 hm:w.heap[bm]?=some o
 hM:Ki .i64 m o
 nd:(m.map (·.1)).Nodup
 keys:∀k v,EV m k=some v->∃i:Nat,k=i/\i<A.B.length
 len:sv.length=A.B.length
 part:∀i p,A.B[i]?=some p->(∃v,sv[i]?=some v/\SureAt w role v p.1)/\LooseAt w role i ((EV m i).getD nilS) p.2/\((EV m i).isSome=true↔p.2≠[])
 wf:Wf A
def DevAt(w:World)(bd:Nat)(A:Dev)(F:Nat->Prop):Prop:=∃role bs bm sv m o,DevR w bd A role bs bm sv m o/\∀x,role x≠0->F x
def Turn(F:Nat->Prop)(w w':World):Prop:=∃S,(∀x∈S,F x)/\Ext S w w'
def grow(F:Nat->Prop)(w w':World):Nat->Prop:=fun x=>F x\/(w.heap.size<=x/\x<w'.heap.size)
theorem Turn.size{F:Nat->Prop}{w w':World}(h:Turn F w w'):w.heap.size<=w'.heap.size:=let ⟨_,_,h⟩:=h;h.size
theorem Turn.of{F:Nat->Prop}{w w':World}{S:List Nat}(h:Ext S w w')(hS:∀x∈S,F x):Turn F w w':=⟨S,hS,h⟩
theorem Turn.of0{F:Nat->Prop}{w w':World}(h:Ext [] w w'):Turn F w w':=⟨[],by simp,h⟩
theorem Turn.trans{F G:Nat->Prop}{a b c:World}(h:Turn F a b)(k:Turn G b c)(hG:∀x,G x->F x\/a.heap.size<=x):Turn F a c:=by
 obtain⟨S,hS,h⟩:=h;obtain⟨T,hT,k⟩:=k
 classical
 refine⟨S++T.filter (fun x=>decide (x<a.heap.size)),fun x hx=>?_,(h.mono (by intro x hx;simp[hx])).then k fun x hx=>?_⟩
 .rw[qau,qbk]at hx
  rcases hx with hx|⟨hx,hlt⟩
  .exact hS x hx
  .rcases hG x (hT x hx)with h|h
   .exact h
   .rw[qap]at hlt;omega
 .by_cases hlt:x<a.heap.size
  .exact .inl (qax _ (qbk.2 ⟨hx,qal hlt⟩))
  .exact .inr (by omega)
theorem BytesAt.keep{w w':World}{role role':Nat->Nat}{v:Value}{s:Byt}{S:List Nat}(h:BytesAt w role v s)(hx:Ext S w w')(hS:∀x∈S,role x≠4)(hr:∀x,role x=4->role' x=4):BytesAt w' role' v s:=by
 obtain⟨a,c,rfl,R,hl,h4,hc⟩:=h;exact⟨a,c,rfl,R.ext hx fun h=>hS _ h h4,hl,hr _ h4,hc⟩
theorem SureAt.keep{w w':World}{role role':Nat->Nat}{v:Value}{s:Byt}{S:List Nat}(h:SureAt w role v s)(hx:Ext S w w')(hS:∀x∈S,role x≠4)(hr:∀x,role x=4->role' x=4):SureAt w' role' v s :=
 h.elim .inl fun h => .inr (h.keep hx hS hr)
theorem LooseAt.keep{w w':World}{role role':Nat->Nat}{k:Nat}{v:Value}{l:List Byt}{S:List Nat}(h:LooseAt w role k v l)(hx:Ext S w w')(hS:∀x∈S,role x≠4/\role x≠5+k)(hr:∀x,role x=4->role' x=4)(hr5:∀x,role x=5+k->role' x=5+k):LooseAt w' role' k v l:=by
 obtain⟨a,n,c,full,vs,rfl,O,hb,h2,h3⟩:=h;refine⟨a,n,c,full,vs,rfl,O,fun x hx'=>?_,h2,fun i x y h4 h5=>(h3 i x y h4 h5).keep hx (fun x h=>(hS x h).1) hr⟩;obtain⟨h6,h7⟩:=hb x hx';exact⟨by rw[hx.block x.1 (Al h6) fun h=>(hS _ h).2 h7];exact h6,hr5 _ h7⟩
theorem DevAt.keep{w w':World}{bd:Nat}{A:Dev}{F:Nat->Prop}(h:DevAt w bd A F){S:List Nat}(hx:Ext S w w')(hS:∀x∈S,¬F x):DevAt w' bd A F:=by
 obtain⟨role,bs,bm,sv,m,o,D,hF⟩:=h;have hS':∀x∈S,role x=0:=fun x hx=>Classical.byContradiction fun h=>hS x hx (hF x h)
 have hb:∀{b:Nat} {o:Obj},w.heap[b]?=some o->role b≠0->w'.heap[b]?=some o:=fun{b o} h1 h2=>by
  rw[hx.block b (Al h1) fun h=>h2 (hS' b h)];exact h1
 refine⟨role,bs,bm,sv,m,o,⟨fun x h=>qas (D.lt x h) hx.size,D.rd,D.rs,D.rm,hb D.hd (by rw[D.rd];decide),hb D.hs (by rw[D.rs];decide),hb D.hm (by rw[D.rm];decide),D.hM,D.nd,D.keys,D.len,fun i p hp=>?_,D.wf⟩,hF⟩;obtain⟨⟨v,h1,h2⟩,h3,h4⟩:=D.part i p hp;exact⟨⟨v,h1,h2.keep hx (fun x h=>by rw[hS' x h];decide) fun _ h=>h⟩,h3.keep hx (fun x h=>by rw[hS' x h];omega) (fun _ h=>h) (fun _ h=>h),h4⟩
theorem DevAt.keep0{w w':World}{bd:Nat}{A:Dev}{F:Nat->Prop}(h:DevAt w bd A F)(hx:Ext [] w w'):DevAt w' bd A F:=h.keep hx (by simp)
theorem DevAt.mono{w:World}{bd:Nat}{A:Dev}{F G:Nat->Prop}(h:DevAt w bd A F)(hG:∀x,F x->G x):DevAt w bd A G :=
 let ⟨role,bs,bm,sv,m,o,D,hF⟩:=h;⟨role,bs,bm,sv,m,o,D,fun x hx=>hG x (hF x hx)⟩
theorem DevAt.wf{w:World}{bd:Nat}{A:Dev}{F:Nat->Prop}(h:DevAt w bd A F):Wf A:=let ⟨_,_,_,_,_,_,D,_⟩:=h;D.wf
@[simp] theorem DB_len (n bs bm:Nat) (left:Int) (on:Bool):(DB n bs bm left on).length=4:=rfl
def ptr(b:Nat):Value := .pointer (some ⟨b,0,none⟩)
theorem DevR.turn{w w':World}{bd:Nat}{A A':Dev}{role:Nat->Nat}{bs bm:Nat}{sv:List Value}{m:List (Int × Value)}{o:Obj}(D:DevR w bd A role bs bm sv m o)(hx:Ext [bd] w w')(hd:w'.heap[bd]?=some (Bl TD (DB A'.B.length bs bm A'.left A'.on)))(hB:A'.B=A.B)(wf:Wf A'):DevR w' bd A' role bs bm sv m o:=by
 have hb:∀{b:Nat} {o:Obj},w.heap[b]?=some o->role b≠1->w'.heap[b]?=some o:=fun{b o} h1 h2=>by
  rw[hx.block b (Al h1) fun h=>h2 (by rw[qaa.1 h];exact D.rd)];exact h1
 refine⟨fun x h=>qas (D.lt x h) hx.size,D.rd,D.rs,D.rm,hd,hb D.hs (by rw[D.rs];decide),hb D.hm (by rw[D.rm];decide),D.hM,D.nd,fun k v h=>by rw[hB];exact D.keys k v h,by rw[hB];exact D.len,fun i p hp=>?_,wf⟩;rw[hB]at hp;obtain⟨⟨v,h1,h2⟩,h3,h4⟩:=D.part i p hp;have hs:∀x∈[bd],role x=1:=fun x h=>by rw[qaa.1 h];exact D.rd
 exact⟨⟨v,h1,h2.keep hx (fun x h=>by rw[hs x h];decide) fun _ h=>h⟩,h3.keep hx (fun x h=>by rw[hs x h];omega) (fun _ h=>h) (fun _ h=>h),h4⟩
theorem SC{w:World}{bd n bs bm:Nat}{left:Int}{on:Bool}(h:w.heap[bd]?=some (Bl TD (DB n bs bm left on))) :
  Ret prog 59 #[ptr bd] w fun v w'=>v=.int .i64 (bif on then 0 else 8)/\w=w':=by
 obtain⟨w0,rfl⟩:=qD w;have H:=Ctx.start1 h;refine A6 (fn:=f59) func59 U [.pointer (some ⟨bd,0,none⟩)] U ?_;refine Ad (Ac U (qA (Aq (AE (Ad (Am U (BW MM U ?_)))))));refine An U (qA (Bz U (Ad (Am U (A8 U (Af Mf U (AH Gf U H at0 U (An U (qA ?_)))))))));refine Au _ U ?_ ?_
 .intro h1;refine Ad (Ac U (qA (Ax (AL (Ao (AG (v:=(.int _ _)) U U U ?_))))));exact⟨by cases on <;> simp_all,rfl⟩
 .intro h2;refine Ap (AF (Aa (Ad (Ac U (qA (Ax (AG (v:=(.int _ _)) U U U ?_)))))));exact⟨by cases on <;> simp_all,rfl⟩
theorem Ab4{w:World}{bd n bs bm:Nat}{left:Int}{on:Bool}(k:Int)(h:w.heap[bd]?=some (Bl TD (DB n bs bm left on))) :
  Ret prog 105 #[ptr bd,.int .i64 k] w fun v w'=>v=.bool (decide (0<=k) && decide (k<n))/\w=w':=by
 obtain⟨w0,rfl⟩:=qD w;have H:=Ctx.start1 h;refine A6 (fn:=f105) func105 U [.pointer (some ⟨bd,0,none⟩),.int .i64 k] U ?_;refine Ad (An U (qA (Ad (Ae U (IE U U (AA U (AR 7 U ?_ ?_)))))))
 .intro h1;replace h1:=AV h1;refine Ae U (Am U (A8 U (Af NL U (AH U9 U H at0 U (AP EX U (Bn U U (AN U (.bool _) U (An U (qA ?_)))))))));refine Ax (AG (v:=(.bool _)) U U U ?_);exact⟨qab Value.bool (by simp_all;try omega),rfl⟩
 .intro h2;replace h2:=AW h2;refine Ag U (Ag U (Ag U (Ag U (Ag U (Ag U (Ag U (AK U (.bool _) U (An U (qA ?_)))))))));refine Ax (AG (v:=(.bool _)) U U U ?_);exact⟨qab Value.bool (by simp_all;try omega),rfl⟩
theorem He{w:World}{bd n bs bm:Nat}{left:Int}{on:Bool}(h:w.heap[bd]?=some (Bl TD (DB n bs bm left on))) :
  Ret prog 71 #[ptr bd] w fun v w'=>v=.int .i64 n/\w=w':=by
 obtain⟨w0,rfl⟩:=qD w;have H:=Ctx.start1 h;refine A6 (fn:=f71) func71 U [.pointer (some ⟨bd,0,none⟩)] U ?_;refine Ad (Ac U (qA (Aq (Ad (Am U (BW MM U ?_))))));refine qA (Bz U (Ap (Aa (Ad (Am U (A8 U (Af NL U (AH U9 U H at0 U (AP EX U (Ac U ?_))))))))));refine qA (Ax (AG (v:=(.int _ _)) U U U ?_));exact⟨rfl,rfl⟩
theorem Pn{w:World}{bd n bs bm:Nat}{left:Int}{on:Bool}(h:w.heap[bd]?=some (Bl TD (DB n bs bm left on))) :
  Ret prog 28 #[ptr bd] w fun v w'=>v=.bool on/\w=w':=by
 obtain⟨w0,rfl⟩:=qD w;have H:=Ctx.start1 h;refine A6 (fn:=Tryz.f28) func28 U [.pointer (some ⟨bd,0,none⟩)] U ?_;refine Ad (An U (qA (Ad (Am U (LZ U MM U ?_)))));refine AA U (Am U (A8 U (Af Mf U (AH Gf U H at0 U (BX U (AN U (.bool _) U (An U (qA (Ax (AG (v:=(.bool _)) U U U ?_))))))))));exact⟨qab Value.bool (Bool.not_not on),rfl⟩
theorem SD{w:World}{bd:Nat}{A:Dev}{role:Nat->Nat}{bs bm:Nat}{sv:List Value}{m:List (Int × Value)}{o:Obj}(D:DevR w bd A role bs bm sv m o) :
  Ret prog 95 #[ptr bd] w fun v w'=>v=.int .i64 (bif A.goes then 8 else 0)/\DevR w' bd A.less role bs bm sv m o/\Ext [bd] w w':=by
 obtain⟨w0,rfl⟩:=qD w;have H:=Ctx.start1 D.hd;have h1:=D.wf.left;have h2:=D.wf.left2;refine A6 (fn:=f95) func95 U [.pointer (some ⟨bd,0,none⟩)] U ?_;refine Ad (Ac U (qA (Aq (Ad (Am U (A8 U (Af NM U (AH DW U H at0 U (qA ?_)))))))));refine AE (Ad (B6 U U (An U (qA (Au _ U ?_ ?_)))))
 .intro h3;replace h3:=AV h3;have hl:A.less=A:=by unfold Dev.less;rw[if_neg (by omega),if_pos (by omega)]
  refine Ap (AF (Aa (Ad (Ac U (qA (Ax (AG (v:=(.int _ _)) U U U ?_)))))));exact⟨by rw[Dev.goes,qag (by omega)];rfl,by rw[hl];exact D,H.ext⟩
 .intro h3;replace h3:=AW h3;refine Ad (B6 U U (An U (qA (Au _ U ?_ ?_))))
  .intro h4;replace h4:=AV h4;have hl:A.less=⟨A.B,A.left,false⟩:=by unfold Dev.less;rw[if_pos (by omega)]
   refine Ad (Am U (A8 U (Af Mf U (Bf (.bool _) Ah8 U U U H at0 (by(simp;done)) ?_))));rintro w H;refine qA (Ad (Ac U (qA (Ax (AL (Ao (AG (v:=(.int _ _)) U U U ?_)))))));exact⟨by rw[Dev.goes,qal (by omega)];rfl,D.turn H.ext (by rw[hl];exact H.get at0) (Gs A) (Wg D.wf),H.ext⟩
  .intro h4;replace h4:=AW h4;have hl:A.less=⟨A.B,A.left - 1,A.on⟩:=by unfold Dev.less;rw[if_neg (by omega),if_neg (by omega)]
   refine Av (Am U (A8 U (Af NM U (AH DW U H at0 U (BB U U ?_)))));refine A8 U (Af NM U (Bf (.int _ _) Hv U U U H at0 (by(simp;done)) ?_));rintro w H;refine Ab (AF (Aa (Ad (Ac U (qA (Ax (AG (v:=(.int _ _)) U U U ?_)))))));exact⟨by rw[Dev.goes,qag (by omega)];rfl,D.turn H.ext (by rw[hl];exact H.get at0) (Gs A) (Wg D.wf),H.ext⟩
theorem Al2{w:World}{bd:Nat}{A:Dev}{F:Nat->Prop}(n:Int)(hn:n<=9223372036854775807)(DA:DevAt w bd A F) :
  Ret prog 27 #[ptr bd,.int .i64 n] w fun v w'=>v=.int .i64 (Ni A)/\DevAt w' bd (IU A n) F/\Turn F w w':=by
 obtain⟨w0,rfl⟩:=qD w;obtain⟨role,bs,bm,sv,m,o,D,hF⟩:=DA;have hFd:∀x∈[bd],F x:=fun x h=>hF x (by rw[qaa.1 h,D.rd];decide);have H:=Ctx.start1 D.hd;refine A6 (fn:=f27) func27 U [.pointer (some ⟨bd,0,none⟩),.int .i64 n] U ?_;refine Ad (Ac U (qA (Ad (Am U (Ai qB (SC (H.get at0)) U ?_)))));rintro v w ⟨rfl,rfl⟩;refine Ac U (qA (Aq (Ad (Ae U (B6 U U (qA (Au _ U ?_ ?_)))))))
 .intro h1;replace h1:=AV h1;have ho:A.on=true:=by cases h:A.on <;> simp_all
  refine Av (Am U (Ae U (N9 U U U ?_)));refine A8 U (Af NM U (Bf (.int _ _) Hv U U U H at0 (by(simp;done)) ?_));rintro w H;refine qA (Ad (Ae U (Ac U (qA (Ax (AG (v:=(.int _ _)) U U U ?_))))));refine⟨by rw[Ni,ho],⟨role,bs,bm,sv,m,o,D.turn H.ext ?_ (by rw[IU,ho];rfl) (Apv D.wf n hn),hF⟩,.of H.ext hFd⟩;rw[IU,ho];have h2:=H.get at0;rw[ho]at h2;exact h2
 .intro h1;replace h1:=AW h1;have ho:A.on=false:=by cases h:A.on <;> simp_all
  refine Ap (Aa (Ad (Ae U (Ac U (qA (Ax (AG (v:=(.int _ _)) U U U ?_)))))));exact⟨by rw[Ni,ho],⟨role,bs,bm,sv,m,o,by rw[IU,ho];exact D,hF⟩,.of H.ext hFd⟩
theorem Al3{w:World}{bd:Nat}{A:Dev}{F:Nat->Prop}(DA:DevAt w bd A F) :
  Ret prog 17 #[ptr bd] w fun v w'=>v=.int .i64 (Ni A)/\DevAt w' bd (MF A) F/\Turn F w w':=by
 obtain⟨w0,rfl⟩:=qD w;obtain⟨role,bs,bm,sv,m,o,D,hF⟩:=DA;have hFd:∀x∈[bd],F x:=fun x h=>hF x (by rw[qaa.1 h,D.rd];decide);have H:=Ctx.start1 D.hd;refine A6 (fn:=Tryz.f17) func17 U [.pointer (some ⟨bd,0,none⟩)] U ?_;refine Ad (Ac U (qA (Ad (Am U (Ai qB (SC (H.get at0)) U ?_)))));rintro v w ⟨rfl,rfl⟩;refine Ac U (qA (Aq (Ad (Ae U (B6 U U (qA (Au _ U ?_ ?_)))))))
 .intro h1;replace h1:=AV h1;have ho:A.on=true:=by cases h:A.on <;> simp_all
  refine Av (Am U (A8 U (Af Mf U (Bf (.bool _) Ah8 U U U H at0 (by(simp;done)) ?_))));rintro w H;refine qA (Ad (Ae U (Ac U (qA (Ax (AG (v:=(.int _ _)) U U U ?_))))));exact⟨by rw[Ni,ho],⟨role,bs,bm,sv,m,o,D.turn H.ext (H.get at0) rfl (Apw D.wf),hF⟩,.of H.ext hFd⟩
 .intro h1;replace h1:=AW h1;have ho:A.on=false:=by cases h:A.on <;> simp_all
  refine Ap (Aa (Ad (Ae U (Ac U (qA (Ax (AG (v:=(.int _ _)) U U U ?_)))))));have he:MF A=A:=by rw[MF,<-ho]
  exact⟨by rw[Ni,ho],⟨role,bs,bm,sv,m,o,by rw[he];exact D,hF⟩,.of H.ext hFd⟩
theorem Al4(n:Int)(w:World) :
  Ret prog 9 #[.int .i64 n] w fun v w'=>Ext [] w w'/\((Aiv n=1/\v=.tuple #[.pointer none,.int .i64 1]) \/
   (Aiv n=0/\1<=n/\n<=4096/\∃bd,v=.tuple #[ptr bd,.int .i64 0]/\DevAt w' bd (Fu n.toNat) fun x=>w.heap.size<=x/\x<w'.heap.size)):=by
 obtain⟨w0,rfl,H⟩:=qE w;refine A6 (fn:=Tryz.f9) func9 U [.int .i64 n] U ?_;refine Ad (Bx U (Ac U (qA (Aq (Ad (BE (α:=Unit) 1008 (fun _=>[(9,.bool (decide (n<1) || decide (4096<n)))]) (fun _ w'=>Ctx w0 [] w' []) U ?_ ?_))))))
 .refine Ae U (Bn U U (AA U (AR 6 U ?_ ?_)))
  .intro h1;replace h1:=AV h1;refine Ag U (Ag U (AN U (.bool _) U (Ab ?_)));exact⟨rfl,(),rfl,⟨qab Value.bool (by rw[qar];simp_all;try omega),trivial⟩,H⟩
  .intro h2;replace h2:=AW h2;refine Ae U (BZ U U (AK U (.bool _) U (Ab ?_)));exact⟨rfl,(),rfl,⟨qab Value.bool (by rw[qar];simp_all;try omega),trivial⟩,H⟩
 rintro - j9 w H;refine Au _ U ?_ ?_
 .intro h1;refine Ad (Bx U (Ac U (qA (Ax (Ao (Ce (v1:=(.pointer _)) (v2:=(.int _ _)) U U U U ?_))))));exact⟨H.ext,.inl ⟨by rw[Aiv,h1];rfl,rfl⟩⟩
 .intro h1;have h2:1<=n/\n<=4096:=by simp only[qdz,qct]at h1;omega
  refine Ap (Aa (Ad (Ae U (QF U EX Gh Ag4 UF U U H ?_))));rintro b11 w - H;refine RC .i64 U H ?_;rintro b12 o12 w hM H;refine B2 [.slice (some ⟨b11,0,none⟩) n.toNat n.toNat,.map (some b12),.int .i64 (-1),.bool false] pl_72 zc_72 ?_;refine Cn _ (.agg _) U U H ?_;rintro b14 w - H;refine Bx U (Ac U (qA (Ax (Ce (v1:=(.pointer _)) (v2:=(.int _ _)) U U U U ?_))));have e1:b14≠b12:=H.ne at0 at1 (by decide);have e2:b14≠b11:=H.ne at0 at2 (by decide);have e3:b12≠b11:=H.ne at1 at2 (by decide);have own:∀{k b:Nat} {o:Obj},[(b14,_),(b12,o12),(b11,_)][k]?=some (b,o)->w0.heap.size<=b/\b<w.heap.size:=fun{k b o} hk=>⟨(H.own _ (qad hk)).elim (fun h=>by cases h) id,Al (H.get hk)⟩
  have hr:∀x,(if x=b14 then 1 else if x=b11 then 2 else if x=b12 then 3 else 0)≠0->w0.heap.size<=x/\x<w.heap.size:=by
   intro x hx
   by_cases h14:x=b14
   .rw[h14];exact own at0
   .by_cases h11:x=b11
    .rw[h11];exact own at2
    .by_cases h12:x=b12
     .rw[h12];exact own at1
     .rw[if_neg h14,if_neg h11,if_neg h12]at hx;exact absurd rfl hx
  have hln:(Fu n.toNat).B.length=n.toNat:=qba;refine⟨H.ext,.inr ⟨by rw[Aiv,h1];rfl,h2.1,h2.2,b14,rfl,fun x=>if x=b14 then 1 else if x=b11 then 2 else if x=b12 then 3 else 0,b11,b12,List.replicate n.toNat nilS,[],o12,⟨fun x h=>(hr x h).2,if_pos rfl,?_,?_,?_,H.get at2,H.get at1,hM,qcb,fun k v h=>(by cases h),by rw[hln];exact qba,fun i p hp=>?_,Apu⟩,hr⟩⟩
  .rw[if_neg (Ne.symm e2),if_pos rfl]
  .rw[if_neg (Ne.symm e1),if_neg e3,if_pos rfl]
  .rw[hln];exact H.get at0
  .obtain⟨hi,rfl⟩:=qaq.1 hp;have hi':i<n.toNat:=by rw[hln]at hi;exact hi
   have hpe:(Fu n.toNat).B[i]=(zeros,[]):=List.getElem_replicate _;rw[hpe];refine⟨⟨nilS,by rw[qeh,if_pos hi'],.inl ⟨rfl,rfl⟩⟩,⟨none,0,0,[],[],rfl,OS.nil,by simp[ent],rfl,fun j x y h=>by cases h⟩,by simp[RA]⟩
theorem Ctx.startL{w:World}{L:List (Nat × Obj)}(h:∀x∈L,w.heap[x.1]?=some x.2)(nd:L.Pairwise fun x y=>x.1≠y.1):Ctx w (L.map (·.1)) w L :=
 ⟨.refl _ _,h,nd,fun x hx => .inl (qah.2 ⟨x,hx,rfl⟩)⟩
theorem UO(s:Byt)(h:s.length=512):over (List.replicate 512 (Value.int .u8 0)) 0 ((s.map bv).take 512)=s.map bv:=by
 have h1:=WR [] (List.replicate 512 (Value.int .u8 0)) [] (s.map bv) (by rw[qba,qaj,h]);simp only[qa7,qa3,qby]at h1;rw[qa6 (by rw[qaj,h];exact qae _)];exact h1
theorem Al5:over (List.replicate 512 (Value.int .u8 0)) 0 (([]:Byt).map bv |>.take 512)=zeros.map bv:=by
 rw[zeros,List.map_replicate];rfl
theorem Apx{ts s:Byt}(h:ts=s\/ts=[]/\s=zeros)(hl:s.length=512):over (List.replicate 512 (Value.int .u8 0)) 0 ((ts.map bv).take 512)=s.map bv:=by
 rcases h with rfl|⟨rfl,rfl⟩
 .exact UO _ hl
 .exact Al5
theorem Ctx.fresh_bl{w0 w:World}{b t n:Nat}{l:List Value}(H:Ctx w0 [] w [(b,Bl t l)])(hl:l.length=n):Fresh w0 w t 1 (.slice (some ⟨b,0,none⟩) n n) l :=
 Ctx.fresh (L:=[]) H ⟨fun p hp=>(by cases hp;rfl),fun h=>(by cases h),by rw[hl,qcj],qae _,by rw[qcj,<-hl];exact qbe⟩
theorem Ab5{A:Dev}{k:Int}(h:A.has k=true):∃q:Nat,k=q/\q<A.B.length:=by
 simp only[Dev.has,qao,qap]at h;exact⟨k.toNat,by omega,by omega⟩
theorem ZL{w:World}{role:Nat->Nat}{v:Value}{s:Byt}(h:SureAt w role v s):∃a c t,v=.slice a (List.length t) c/\Rd w a 1 B8 t/\(t=s\/t=[]/\s=zeros):=by
 rcases h with⟨rfl,rfl⟩|⟨a,c,rfl,R,hl,_,_⟩
 .exact⟨none,0,[],rfl,Rd.nil,.inr ⟨rfl,rfl⟩⟩
 .exact⟨a,c,s,by rw[hl],R,.inl rfl⟩
theorem SE{w:World}{bd:Nat}{A:Dev}{F:Nat->Prop}(k:Int){mx:Nat}(hfew:Few A mx)(DA:DevAt w bd A F)(hmx:mx<=1000000000000:=by omega):
  Ret prog 72 #[ptr bd,.int .i64 k] w fun v w'=>∃s,v=.tuple #[s,.int .i64 (GK A k)]/\Fresh w w' 5 1 s ((GL A k).map bv):=by
 obtain⟨w0,rfl⟩:=qD w;obtain⟨role,bs,bm,sv,m,o,D,hF⟩:=DA;have H:=Ctx.start w0 [];refine A6 (fn:=f72) func72 U [.pointer (some ⟨bd,0,none⟩),.int .i64 k] U ?_;refine Ad (Ak U (Ac U (qA (Aq (Ad (Am U (Ai qB (SC (Ctx.oldb H D.hd)) U ?_)))))));rintro v w ⟨rfl,rfl⟩;refine Ac U (qA (Ad (Ae U (Ba U U (qA (Au _ U ?_ ?_))))))
 .intro h1;replace h1:=Bu h1;have ho:A.on=false:=by cases h:A.on <;> simp_all
  have he:GK A k=8:=by rw[GK,ho];rfl
  refine Ad (Ae U (Ak U (Ac U (qA (Ax (Ao (Ce (v1:=(.slice _ _ _)) (v2:=(.int _ _)) U U U U ?_)))))));refine⟨_,by rw[he,ho];rfl,?_⟩;rw[GL,he];exact Fresh.nil H _ _
 .intro h1;replace h1:=Bv h1;have ho:A.on=true:=by cases h:A.on <;> simp_all
  refine Ap (Aa (Aq (Ad (Am U (Ae U (Ai qB (Ab4 k (Ctx.oldb H D.hd)) U ?_))))));rintro v w ⟨rfl,rfl⟩;rw[show(decide (0<=k) && decide (k<(A.B.length:Int)))=A.has k from rfl];refine BX U (qA (Au _ U ?_ ?_))
  .intro h2;replace h2:=Cz h2;have he:GK A k=1:=by rw[GK,ho,h2];rfl
   refine Ad (Ak U (Ac U (qA (Ax (Ao (Ce (v1:=(.slice _ _ _)) (v2:=(.int _ _)) U U U U ?_))))));refine⟨_,by rw[he],?_⟩;rw[GL,he];exact Fresh.nil H _ _
  .intro h2;replace h2:=C0 h2;have he:GK A k=0:=by rw[GK,ho,h2];rfl
   obtain⟨q,rfl,hq⟩:=Ab5 h2;obtain⟨p,hp⟩:∃p,A.B[q]?=some p:=⟨_,qbd hq⟩;have hpm:=qad hp
   have hbe:GL A q=stands p:=by
    rw[GL,he,show((q:Int)).toNat=q from rfl,qa8,hp];rfl
   have hst:=Kt D.wf hpm;obtain⟨⟨v0,hv0,hsure⟩,⟨al,nl,cl,fl,vs,hvl,O,hent,hvs⟩,_⟩:=D.part q p hp;have Rs:=Aoq D.hs;have Rl:=OS.rdV O fun x hx=>(hent x hx).1;have hnl:nl=vs.length:=by have:=O.llen;omega
   have hll:=hfew p hpm;have hvn:=hvs.1;obtain⟨a0,c0,ts,rfl,R0,hts⟩:=ZL hsure;refine Ap (Aa (Ad (Am U (A8 U (Af NL U (Be U9 U (H.old0 (Ar D.hd _)) ?_))))));refine Ae U (Ca EX Gh U U ?_);refine Be B4 U ((Rs.ext0 H.ext).one (f:=fun v=>v) hv0) (Ak U (qA (Aq (Ad (Am U (A8 U (Af Ko U (Be Sc U (H.old0 (Ar D.hd _)) ?_))))))));refine Ae U (RN U UC Ge Aid U U (Ctx.oldb H D.hm) D.hM ?_);rw[show((EV m (q:Int)).getD (.slice none 0 0))=.slice al nl cl from hvl];refine Ak U (qA (Ad (Aj U (AP EX U (BZ U U (qA (Au _ U ?_ ?_)))))))
   .intro h3;replace h3:=AV h3;obtain⟨b,hb⟩:∃b,p.2[nl - 1]?=some b:=⟨_,qbd (by omega)⟩;obtain⟨vb,hvb⟩:∃v,vs[nl - 1]?=some v:=⟨_,qbd (by omega)⟩;obtain⟨ab,cb,rfl,Rb,hbl,_,_⟩:=hvs.2 _ _ _ hvb hb
    have hstb:stands p=b:=by
     rw[stands,List.getLast?_eq_getElem?,show p.2.length - 1=nl - 1 by omega,hb];rfl
    refine Av (Aj U (Aj U (AP EX U (BB U U ?_))));rw[show((nl:Int) - 1)=((nl - 1:Nat):Int)by omega];refine AY Rl EX Gh U U (Be B4 U ((Rl.ext0 H.ext).one (f:=fun v=>v) hvb) ?_);refine Ak U (qA (Ad (QF U AX CT Pf IP U U H ?_)));rintro b41 w - H;refine Ak U (qA (Ad (Aj U (Aj U (QG (b.map bv) U AX CT U U (by simp[hbl]) (Ht _) (Rd.appB (Rb.ext0 H.ext)) (show Ctx w0 [] w [(b41,Bl 5 (List.replicate 512 (Value.int .u8 0)))]from H) at0 (by rw[qba];exact qae _) ?_)))));rintro w H;replace H:Ctx w0 [] w [(b41,Bl 5 (over (List.replicate 512 (Value.int .u8 0)) 0 ((b.map bv).take 512)))]:=H;rw[UO b hbl]at H;refine qA (Ad (Aj U (Ak U (Ac U (qA (Ax (Ce (v1:=(.slice _ _ _)) (v2:=(.int _ _)) U U U U ?_)))))))
    refine⟨_,by rw[he],?_⟩;rw[hbe,hstb];exact Ctx.fresh_bl H (by rw[qaj,hbl];rfl)
   .intro h3;replace h3:=AW h3
    have hstb:stands p=p.1:=by
     have:p.2=[]:=qa4 (by omega)
     rw[stands,this];rfl
    refine Ap (Aa (Ad (QF U AX CT Pf IP U U H ?_)));rintro b41 w - H;refine Ak U (qA (Ad (Aj U (Aj U (QG (ts.map bv) U AX CT U U (by simp) (Ht _) (Rd.appB (R0.ext0 H.ext)) (show Ctx w0 [] w [(b41,Bl 5 (List.replicate 512 (Value.int .u8 0)))]from H) at0 (by rw[qba];exact qae _) ?_)))));rintro w H;replace H:Ctx w0 [] w [(b41,Bl 5 (over (List.replicate 512 (Value.int .u8 0)) 0 ((ts.map bv).take 512)))]:=H;rw[Apx hts (by rw[<-hstb];exact hst)]at H;refine qA (Ad (Aj U (Ak U (Ac U (qA (Ax (Ce (v1:=(.slice _ _ _)) (v2:=(.int _ _)) U U U U ?_)))))));refine⟨_,by rw[he],?_⟩;rw[hbe,hstb];exact Ctx.fresh_bl H (by rw[qaj,<-hstb,hst];rfl)
theorem All2.snoc{α β:Type}{R:α->β->Prop}{xs:List α}{ys:List β}{x:α}{y:β}(h:All2 R xs ys)(hxy:R x y):All2 R (xs++[x]) (ys++[y]):=by
 refine⟨by rw[qan,qan,h.1];rfl,fun i a b ha hb=>?_⟩
 by_cases hi:i<xs.length
 .rw[qdj hi]at ha;rw[qdj (by rw[<-h.1];exact hi)]at hb;exact h.2 i a b ha hb
 .have h2:=Zq ha;rw[qan,qbu]at h2;have hi':i=xs.length:=by omega
  subst hi';rw[qc8 (qae _),qc1]at ha;rw[qc8 (by rw[h.1];exact qae _),h.1,qc1]at hb;cases ha;cases hb;exact hxy
theorem All2.imp{α β:Type}{R R':α->β->Prop}{xs:List α}{ys:List β}(h:All2 R xs ys)(hi:∀x y,R x y->R' x y):All2 R' xs ys:=⟨h.1,fun i x y hx hy=>hi x y (h.2 i x y hx hy)⟩
theorem ZM{α:Type}{m:List (Int × α)}{k:Int}{v:α}(h:(m.map (·.1)).Nodup):((JG m k v).map (·.1)).Nodup:=by
 induction m with
 |nil=>simp[JG]
 |cons p m ih =>
  unfold JG;rw[qay,qck]at h
  by_cases hp:p.1=k
  .rw[if_pos hp,qay,qck];exact⟨by rw[<-hp];exact h.1,h.2⟩
  .rw[if_neg hp,qay,qck];refine⟨fun hm=>?_,ih h.2⟩
   rcases(Adk m k v p.1).1 hm with h1|h1
   .exact hp h1
   .exact h.1 h1
theorem DevR.write{wS w15:World}{bd:Nat}{A:Dev}{role:Nat->Nat}{bs bm:Nat}{sv:List Value}{m:List (Int × Value)}{o o':Obj}(D:DevR wS bd A role bs bm sv m o){k:Nat}(hk:k<A.B.length){arrs:List Nat}(ha:∀x∈arrs,role x=5+k)(hx:Ext (bm::arrs) wS w15)(hm15:w15.heap[bm]?=some o'){b9 n9 c9:Nat}{full9 vs:List Value}(hM:Ki .i64 (JG m k (.slice (some ⟨b9,0,none⟩) n9 c9)) o'){a39:Option Addr}{c39:Nat}{l:Byt}(O:OS (some ⟨b9,0,none⟩) n9 c9 1 full9 (vs++[.slice a39 512 c39]))(h9:w15.heap[b9]?=some (Bl 24 full9))(h9n:b9∈arrs\/wS.heap.size<=b9){p:Byt × List Byt}(hp:A.B[k]?=some p)(hvs:All2 (BytesAt wS role) vs p.2)(R39:Rd w15 a39 1 B8 l)(hl:l.length=512)(hc:512<=c39)(h39:wS.heap.size<=(adr a39).block)(h39':(adr a39).block≠b9)(h39lt:(adr a39).block<w15.heap.size)(wf:Wf (Pi A k l)):∃role',DevR w15 bd (Pi A k l) role' bs bm sv (JG m k (.slice (some ⟨b9,0,none⟩) n9 c9)) o'/\∀x,role' x≠0->role x≠0\/(wS.heap.size<=x/\x<w15.heap.size):=by
 obtain⟨role',hrole⟩:∃f:Nat->Nat,∀x,f x=if x=b9 then 5+k else if x=(adr a39).block then 4 else role x:=⟨_,fun _=>rfl⟩;have hr9:role' b9=5+k:=by rw[hrole,if_pos rfl]
 have hr39:role' (adr a39).block=4:=by rw[hrole,if_neg h39',if_pos rfl]
 have hold:∀x,role x≠0->role' x=role x:=fun x h0=>by
  have hlt:=D.lt x h0;rw[hrole]
  by_cases h:x=b9
  .rw[if_pos h]
   rcases h9n with h1|h1
   .rw[h,ha _ h1]
   .omega
  .rw[if_neg h,if_neg (by omega)]
 have hnew:∀x,role' x≠0->role x≠0\/(wS.heap.size<=x/\x<w15.heap.size):=fun x h0=>by
  rw[hrole]at h0
  by_cases h:x=b9
  .rcases h9n with h1|h1
   .exact .inl (by rw[h,ha _ h1];omega)
   .exact .inr (by rw[h];exact⟨h1,Al h9⟩)
  .rw[if_neg h]at h0
   by_cases h2:x=(adr a39).block
   .exact .inr (by rw[h2];exact⟨h39,h39lt⟩)
   .rw[if_neg h2]at h0;exact .inl h0
 have hS:∀x∈bm::arrs,role x=3\/role x=5+k:=fun x h=>by
  rcases qac.1 h with h|h
  .exact .inl (by rw[h];exact D.rm)
  .exact .inr (ha x h)
 have hb:∀{b:Nat} {o:Obj},wS.heap[b]?=some o->role b=1\/role b=2->w15.heap[b]?=some o:=fun{b o} h1 h2=>by
  rw[hx.block b (Al h1) fun h=>?_]
  .exact h1
  .rcases hS b h with h3|h3 <;> omega
 have k4:∀x,role x=4->role' x=4:=fun x h=>by rw[hold x (by omega),h]
 refine⟨role',⟨fun x h=>?_,by rw[hold _ (by rw[D.rd];decide),D.rd],by rw[hold _ (by rw[D.rs];decide),D.rs],by rw[hold _ (by rw[D.rm];decide),D.rm],?_,hb D.hs (.inr D.rs),hm15,hM,ZM D.nd,fun k' v h=>?_,?_,fun i q hq=>?_,wf⟩,hnew⟩
 .rcases hnew x h with h|h
  .exact qas (D.lt x h) hx.size
  .exact h.2
 .rw[show(Pi A k l).B.length=A.B.length from qei ..];exact hb D.hd (.inl D.rd)
 .rw[show(Pi A k l).B.length=A.B.length from qei ..];rw[OY]at h
  by_cases hkk:k'=(k:Int)
  .exact⟨k,hkk,hk⟩
  .rw[if_neg hkk]at h;exact D.keys k' v h
 .rw[show(Pi A k l).B.length=A.B.length from qei ..];exact D.len
 .have hq':(A.B.modify k fun p=>(p.1,p.2++[l]))[i]?=some q:=hq;rw[qcq]at hq';rw[OY]
  by_cases hik:k=i
  .subst hik;rw[hp]at hq';simp only[if_pos,Option.map_eq_map,qbc,qbb]at hq';subst hq';obtain⟨⟨v,h1,h2⟩,_,_⟩:=D.part k p hp;refine⟨⟨v,h1,h2.keep hx (fun x h=>by rcases hS x h with h3|h3 <;> omega) k4⟩,?_,by simp⟩;rw[if_pos rfl,qdr];refine⟨_,_,_,full9,_,rfl,O,fun x hx'=>?_,All2.snoc (hvs.imp fun v s h=>h.keep hx (fun x h=>by rcases hS x h with h3|h3 <;> omega) k4) ⟨a39,c39,rfl,R39,hl,hr39,hc⟩⟩;rw[LW rfl,qaa]at hx';subst hx';exact⟨h9,hr9⟩
  .simp only[if_neg hik]at hq';have hq2:A.B[i]?=some q:=by simpa using hq'
   rw[if_neg (show ¬((i:Int)=(k:Int))by omega)];obtain⟨⟨v,h1,h2⟩,h3,h4⟩:=D.part i q hq2;exact⟨⟨v,h1,h2.keep hx (fun x h=>by rcases hS x h with h3|h3 <;> omega) k4⟩,h3.keep hx (fun x h=>by rcases hS x h with h3|h3 <;> omega) k4 (fun x h=>by rw[hold x (by omega),h]),h4⟩
theorem Fresh.new512{w w':World}{t:Nat}{s:Value}{xs:Byt}(h:Fresh w w' t 1 s (xs.map bv))(hl:xs.length=512):∃a c,s=.slice a 512 c/\Rd w' a 1 B8 xs/\512<=c/\w.heap.size<=(adr a).block/\(adr a).block<w'.heap.size:=by
 obtain⟨a,n,c,full,rfl,O,hb⟩:=h.ex;have hn:n=512:=by rw[<-hl];exact OS.num O
 subst hn;obtain⟨b,rfl⟩:=O.form (by decide);have h1:=hb (b,Bl t full) (by rw[LW rfl];exact qaa.2 rfl);exact⟨_,c,rfl,O.rd1 (t:=t) fun x hx=>(hb x hx).1,O.le,h1.2,Al h1.1⟩
theorem Po{w:World}{bd:Nat}{A:Dev}{F:Nat->Prop}(k:Int)(a:Option Addr)(c n:Nat)(l:Byt)(R:Rd w a 1 B8 l)(hn:l.length=n)(hFa:l=[]\/¬F (adr a).block){mx:Nat}(hfew:Few A mx)(DA:DevAt w bd A F)(hm:n<=140737488351232:=by decide)(hmx:mx<=1000000000000:=by omega):
  Ret prog 83 #[ptr bd,.int .i64 k,.slice a n c] w fun v w'=>v=.int .i64 (Dt A k l)/\DevAt w' bd (CE A k l) (grow F w w')/\Turn F w w':=by
 subst hn;obtain⟨w0,rfl⟩:=qD w;obtain⟨role,bs,bm,sv,m,o,D,hF⟩:=DA;have hFr:∀x,role x≠0->F x:=hF;refine A6 (fn:=f83) func83 U [.pointer (some ⟨bd,0,none⟩),.int .i64 k,.slice a l.length c] U ?_;refine Ad (Ac U (qA (Aq (Ad (Am U (Ai qB (SC D.hd) U ?_))))));rintro v w ⟨rfl,rfl⟩;refine Ac U (qA (Ad (Ae U (Ba U U (qA (Au _ U ?_ ?_))))))
 .intro h1;replace h1:=Bu h1;have ho:A.on=false:=by cases h:A.on <;> simp_all
  have he:Dt A k l=8:=by rw[Dt,ho];rfl
  have hd:CE A k l=A:=by rw[CE,ho];rfl
  refine Ad (Ae U (Ac U (qA (Ax (Ao (AG (v:=(.int _ _)) U U U ?_))))));exact⟨by rw[he,ho];rfl,by rw[hd];exact⟨role,bs,bm,sv,m,o,D,fun x h => .inl (hF x h)⟩,.of0 (.refl _ _)⟩
 .intro h1;replace h1:=Bv h1;have ho:A.on=true:=by cases h:A.on <;> simp_all
  refine Ap (Aa (Aq (Ad (BE (α:=Unit) 8372224 (fun _=>[(22,.bool (!(A.has k && decide (l.length=512))))]) (fun _ w'=>w0=w') U ?_ ?_))))
  .refine Am U (Ae U (Ai qB (Ab4 k D.hd) U ?_));rintro v w ⟨rfl,rfl⟩;rw[show(decide (0<=k) && decide (k<(A.B.length:Int)))=A.has k from rfl];refine BX U (AA U (AR 18 U ?_ ?_))
   .intro h1;replace h1:=Cz h1;refine Ag U (Ag U (Ag U (AN U (.bool _) U (Ab ?_))));exact⟨rfl,(),rfl,⟨qab Value.bool (by rw[qar];simp_all;try omega),trivial⟩,rfl⟩
   .intro h2;replace h2:=C0 h2;refine Aj U (AP AX U (Ba U U (AK U (.bool _) U (Ab ?_))));exact⟨rfl,(),rfl,⟨qab Value.bool (by rw[qar];simp_all;try omega),trivial⟩,rfl⟩
  rintro - j22 w rfl;refine Au _ U ?_ ?_
  .intro h2;replace h2:=Cz h2;have he:Dt A k l=1:=by rw[Dt,ho,h2];rfl
   have hd:CE A k l=A:=by rw[CE,h2,qeb];rfl
   refine Ad (Ac U (qA (Ax (Ao (AG (v:=(.int _ _)) U U U ?_)))));exact⟨by rw[he],by rw[hd];exact⟨role,bs,bm,sv,m,o,D,fun x h => .inl (hF x h)⟩,.of0 (.refl _ _)⟩
  .intro h2;replace h2:=C0 h2;refine Ap (Aa (Ad (Am U (Ai qB (SD D) U ?_))));rintro v w ⟨rfl,D1,hx1⟩;refine Ac U (qA (Aq (Ad (Ae U (B6 U U (qA (Au _ U ?_ ?_)))))))
   .intro h3;replace h3:=AV h3;have hg:A.goes=false:=by cases h:A.goes <;> simp_all
    have he:Dt A k l=0:=by rw[Dt,ho,h2,hg];rfl
    have hd:CE A k l=Pi A.less k.toNat l:=by rw[CE,ho,h2,hg];rfl
    obtain⟨wS,rfl⟩:=qD w;rw[qao,qap]at h2;obtain⟨h2,hl⟩:=h2;obtain⟨q,rfl,hq⟩:=Ab5 h2;have hq1:q<A.less.B.length:=by rw[Gs];exact hq
    obtain⟨p,hp⟩:∃p,A.less.B[q]?=some p:=⟨_,qbd hq1⟩;obtain⟨_,⟨al,nl,cl,fl,vs,hvl,O,hent,hvs⟩,_⟩:=D1.part q p hp;have hnl:nl=vs.length:=by have:=O.llen;omega
    have hll:=JP hfew p (qad hp);have hvn:=hvs.1;obtain⟨arrs,harrs⟩:=qD ((ent al 24 fl).map (·.1))
    have har:∀x∈arrs,role x=5+q:=fun x h=>by
     rw[harrs]at h;obtain⟨y,hy,rfl⟩:=qah.1 h;exact(hent y hy).2
    have HT:∀x,Ext arrs wS x->Ctx wS (bd::bm::arrs) x [(bd,Bl TD (DB A.less.B.length bs bm A.less.left A.less.on)),(bm,o)]:=fun x hx=>by
     have e1:∀{b:Nat} {o:Obj},wS.heap[b]?=some o->role b=1\/role b=3->x.heap[b]?=some o:=fun{b o} h1 h2=>by
      rw[hx.block b (Al h1) fun h=>by have:=har b h;omega];exact h1
     refine⟨hx.mono (fun y h=>by simp[h]),fun y hy=>?_,?_,fun y hy => .inl ?_⟩
     .simp only[qac,qam,or_false]at hy
      rcases hy with rfl|rfl
      .exact e1 D1.hd (.inl D1.rd)
      .exact e1 D1.hm (.inr D1.rm)
     .have:bd≠bm:=fun h=>by have h1:=D1.rd;have h2:=D1.rm;rw[h]at h1;omega
      simp[this]
     .simp only[qac,qam,or_false]at hy
      rcases hy with rfl|rfl <;> simp
    have Rw:Rd wS a 1 B8 l:=by
     rcases hFa with rfl|hFa
     .exact Rd.nil
     .refine R.ext hx1 fun h=>hFa ?_;rw[qaa.1 h];exact hFr _ (by rw[D.rd];decide)
    have hM:=D1.hM;refine Kg [([0,1,2,3,4,5,6,7,8,9,10,11],12),([],13),([],14),([],15)] (fun x=>Ext arrs wS x) [15] mixed (Ext.drew _ wS) (AC U U ?_);refine Cs U (Bg U (AD Ko U (Ux U Sc U HT at0 U (B9 U (Cs U (Bg U (AD Ko U (Ux U Sc U HT at0 U (B9 U ?_)))))))));refine Agu U UC Ge Aid U U HT at1 D1.hM ?_;rw[show((EV m (q:Int)).getD (.slice none 0 0))=.slice al nl cl from hvl];refine BF U (AU ?_)
    skip
    refine Ai qB (JM a c l.length l _ (Rw.ext0 (Ext.drew [] wS)) U (hm:=hm)) U ?_;rintro v w ⟨F39,-⟩;obtain⟨a39,c39,rfl,R39,hc39,hn39,hlt39⟩:=Fresh.new512 F39 hl;have hxC0:=(Ext.drew [] wS).trans F39.ext;have hxC:Ext arrs wS w:=hxC0.mono (by simp);obtain⟨wC,rfl⟩:=qD w;have H:Ctx wC arrs wC (ent al 24 fl):=by rw[harrs];exact Ctx.startL (fun x hx=>by rw[hxC0.block x.1 (Al (hent x hx).1) (by simp)];exact(hent x hx).1) KR
    refine Ab (Bc (hxC) (AC U U ?_));refine AU (BJ _ (.slice _ _ _) EX Gh UF U U U U H ?_);rintro b40 w - H;refine Ab (Bc (hxC.trans H.ext) (AC U U ?_));refine AU (BO (L:=[]) EX EX Gh Ag4 UF U U U H O U (by simp[Bi]) ?_);rintro a9 c9 full9 w H9 O9;obtain⟨b9,rfl⟩:=O9.form (by omega);have hx14:Ext arrs wS w:=hxC.trans H9.ext;have hbm:w.heap[bm]?=some o:=by rw[hx14.block bm (Al D1.hm) fun h=>by have:=har bm h;have:=D1.rm;omega];exact D1.hm
    obtain⟨w14,rfl⟩:=qD w;replace H:=Ctx.start1 hbm;refine Ab (Bc (hx14) (AC U U ?_));refine AU (VM (.slice _ _ _) U UC Ge U U U H at0 hM ?_);rintro o w hM H;refine Ab (De U (B1 (Aa (Ad (Ae U (Ac U (qA (Ax (AG (v:=(.int _ _)) U U U ?_)))))))));have hsz9:b9∈arrs\/wC.heap.size<=b9:=H9.own (b9,Bl _ full9) (by rw[LW rfl];exact qaa.2 rfl);have hb9w:w14.heap[b9]?=some (Bl 24 full9):=H9.blk (b9,Bl _ full9) (by rw[LW rfl];exact qaa.2 rfl);have hsC:=hxC.size;have hs14:=H9.ext.size;have hs15:=H.ext.size;have hbm3:=D1.rm;have hbmlt:=D1.lt bm (by omega);have harlt:∀x∈arrs,x<wS.heap.size:=fun x h=>D1.lt x (by rw[har x h];omega)
    have hne9:b9≠bm:=fun h=>by
     rcases hsz9 with h1|h1
     .have:=har b9 h1;rw[h]at this;omega
     .omega
    have hne39:(adr a39).block≠b9:=fun h=>by
     rcases hsz9 with h1|h1
     .have:=harlt b9 h1;have h5:wS.heap.size<=(adr a39).block:=hn39;omega
     .omega
    have hn39':wS.heap.size<=(adr a39).block:=hn39;have hxE:Ext (bm::arrs) wS w:=(hx14.mono fun x h=>qai _ h).trans (H.ext.mono fun x h=>by rw[qaa.1 h];exact qaf ..);have R15:Rd w a39 1 B8 l:=(R39.ext H9.ext fun h=>by have:=harlt _ h;omega).ext H.ext fun h=>by rw[qaa]at h;omega
    obtain⟨role',D',hnew⟩:=D1.write hq1 har hxE (H.get at0) hM O9 (by rw[H.ext.block b9 (Al hb9w) (by simpa using hne9)];exact hb9w) (hsz9.imp id fun h=>qav hsC h) hp hvs R15 hl hc39 hn39' hne39 (by omega) (Al1 (Wg D.wf) hl);refine⟨by rw[he,hg];rfl,?_,?_⟩
    .rw[hd];refine⟨role',bs,bm,sv,_,_,D',fun x h=>?_⟩
     rcases hnew x h with h|h
     .exact .inl (hF x h)
     .exact .inr ⟨qav hx1.size h.1,h.2⟩
    .refine .of (S:=bd::bm::arrs) ((hx1.mono (by simp)).trans (hxE.mono fun x h=>qai _ h)) fun x h=>hF x ?_
     rcases qac.1 h with rfl|h
     .rw[D.rd];decide
     .rcases qac.1 h with rfl|h
      .rw[D.rm];decide
      .rw[har x h];omega
   .intro h3;replace h3:=AW h3;have hg:A.goes=true:=by cases h:A.goes <;> simp_all
    have he:Dt A k l=8:=by rw[Dt,ho,h2,hg];rfl
    have hd:CE A k l=A.less:=by rw[CE,ho,h2,hg];rfl
    refine Ap (Aa (Ad (Ae U (Ac U (qA (Ax (AG (v:=(.int _ _)) U U U ?_)))))));refine⟨by rw[he,hg];rfl,by rw[hd];exact⟨role,bs,bm,sv,m,o,D1,fun x h => .inl (hF x h)⟩,.of hx1 fun x h=>hF x (by rw[qaa.1 h,D.rd];decide)⟩
end Go.Proofs.YtcpgbcabmcbclaaGreatDoor
namespace Go.Proofs
open Go.RowKit Go.Maps Go.Sort Go.Shelf
def Tryz.keysA_ren : Go.Shelf.Ren := ⟨fun | 7 => 98 | 10 => 134 | n => n, fun | 23 => 70 | 26 => 3 | 3 => 69 | 28 => 150 | 0 => 0 | 27 => 149 | 33 => 157 | 4 => 4 | n => n, fun | n => n⟩
theorem Tryz.keysA : Go.Proofs.SlLaysZI.n7 Tryz.prog Tryz.keysA_ren := {
  mixed := by kernel_rfl
  f7 := ⟨Tryz.f98.name, by decide, Tryz.func98.trans (congrArg some (by kernel_rfl))⟩
  f10 := ⟨Tryz.f134.name, by decide, Tryz.func134.trans (congrArg some (by kernel_rfl))⟩
  t0 := Tryz.underlying0
  a0 := Tryz.isAgg0
  z0 := Tryz.sizeOf0
  v0 := Tryz.zeroValue0
  t4 := Tryz.underlying4
  a4 := Tryz.isAgg4
  z4 := Tryz.sizeOf4
  v4 := Tryz.zeroValue4
  t23 := Tryz.underlying70
  a23 := Tryz.isAgg70
  z23 := Tryz.sizeOf70
  v23 := Tryz.zeroValue70
  t26 := Tryz.underlying3
  a26 := Tryz.isAgg3
  z26 := Tryz.sizeOf3
  v26 := Tryz.zeroValue3
  t27 := Tryz.underlying149
  a27 := Tryz.isAgg149
  z27 := Tryz.sizeOf149
  v27 := Tryz.zeroValue149
  t28 := Tryz.underlying150
  a28 := Tryz.isAgg150
  z28 := Tryz.sizeOf150
  v28 := Tryz.zeroValue150
  t33 := Tryz.underlying157
  a33 := Tryz.isAgg157
  z33 := Tryz.sizeOf157
  v33 := Tryz.zeroValue157 }
def Tryz.sortedA_ren : Go.Shelf.Ren := ⟨fun | 6 => 97 | 8 => 133 | 9 => 125 | 11 => 159 | 13 => 137 | 12 => 153 | 23 => 169 | 24 => 170 | 14 => 183 | 15 => 184 | 16 => 185 | 17 => 186 | 18 => 187 | 19 => 188 | 20 => 189 | 21 => 190 | 22 => 191 | 25 => 204 | 26 => 193 | 27 => 194 | 28 => 205 | 29 => 206 | 30 => 207 | 31 => 212 | n => n, fun | 26 => 3 | 28 => 150 | 24 => 40 | 0 => 0 | 3 => 3 | 37 => 54 | 48 => 164 | 50 => 74 | 4 => 4 | 40 => 218 | 39 => 217 | 45 => 135 | 5 => 5 | 9 => 9 | 51 => 248 | 55 => 252 | 57 => 265 | 58 => 266 | 33 => 157 | n => n, fun | n => n⟩
theorem Tryz.sortedA : Go.Proofs.SlLaysZI.n6 Tryz.prog Tryz.sortedA_ren := {
  mixed := by kernel_rfl
  f6 := ⟨Tryz.f97.name, by decide, Tryz.func97.trans (congrArg some (by kernel_rfl))⟩
  f8 := ⟨Tryz.f133.name, by decide, Tryz.func133.trans (congrArg some (by kernel_rfl))⟩
  f11 := ⟨Tryz.f159.name, by decide, Tryz.func159.trans (congrArg some (by kernel_rfl))⟩
  t0 := Tryz.underlying0
  a0 := Tryz.isAgg0
  z0 := Tryz.sizeOf0
  v0 := Tryz.zeroValue0
  t24 := Tryz.underlying40
  a24 := Tryz.isAgg40
  z24 := Tryz.sizeOf40
  v24 := Tryz.zeroValue40
  t26 := Tryz.underlying3
  a26 := Tryz.isAgg3
  z26 := Tryz.sizeOf3
  v26 := Tryz.zeroValue3
  t28 := Tryz.underlying150
  a28 := Tryz.isAgg150
  z28 := Tryz.sizeOf150
  v28 := Tryz.zeroValue150
  i26 := by kernel_rfl }
def Tryz.sortA_ren : Go.Shelf.Ren := ⟨fun | 5 => 125 | 8 => 137 | 7 => 153 | 19 => 169 | 20 => 170 | 10 => 183 | 11 => 184 | 12 => 185 | 13 => 186 | 14 => 187 | 15 => 188 | 16 => 189 | 17 => 190 | 18 => 191 | 30 => 204 | 31 => 193 | 32 => 194 | 33 => 205 | 34 => 206 | 35 => 207 | 40 => 212 | n => n, fun | 23 => 40 | 25 => 3 | 3 => 3 | 32 => 54 | 22 => 40 | 0 => 0 | 44 => 164 | 46 => 74 | 4 => 4 | 36 => 218 | 35 => 217 | 41 => 135 | 5 => 5 | 9 => 9 | 53 => 248 | 57 => 252 | 63 => 265 | 64 => 266 | n => n, fun | n => n⟩
theorem Tryz.sortA : Go.Proofs.SlLaysM.n5 Tryz.prog Tryz.sortA_ren := {
  mixed := by kernel_rfl
  f5 := ⟨Tryz.f125.name, by decide, Tryz.func125.trans (congrArg some (by kernel_rfl))⟩
  f7 := ⟨Tryz.f153.name, by decide, Tryz.func153.trans (congrArg some (by kernel_rfl))⟩
  f8 := Tryz.func137.trans (congrArg some (by kernel_rfl))
  f10 := ⟨Tryz.f183.name, by decide, Tryz.func183.trans (congrArg some (by kernel_rfl))⟩
  f11 := ⟨Tryz.f184.name, by decide, Tryz.func184.trans (congrArg some (by kernel_rfl))⟩
  f12 := ⟨Tryz.f185.name, by decide, Tryz.func185.trans (congrArg some (by kernel_rfl))⟩
  f13 := ⟨Tryz.f186.name, by decide, Tryz.func186.trans (congrArg some (by kernel_rfl))⟩
  f14 := ⟨Tryz.f187.name, by decide, Tryz.func187.trans (congrArg some (by kernel_rfl))⟩
  f15 := ⟨Tryz.f188.name, by decide, Tryz.func188.trans (congrArg some (by kernel_rfl))⟩
  f16 := ⟨Tryz.f189.name, by decide, Tryz.func189.trans (congrArg some (by kernel_rfl))⟩
  f17 := ⟨Tryz.f190.name, by decide, Tryz.func190.trans (congrArg some (by kernel_rfl))⟩
  f18 := ⟨Tryz.f191.name, by decide, Tryz.func191.trans (congrArg some (by kernel_rfl))⟩
  f19 := Tryz.func169.trans (congrArg some (by kernel_rfl))
  f20 := Tryz.func170.trans (congrArg some (by kernel_rfl))
  f30 := ⟨Tryz.f204.name, by decide, Tryz.func204.trans (congrArg some (by kernel_rfl))⟩
  f31 := Tryz.func193.trans (congrArg some (by kernel_rfl))
  f32 := Tryz.func194.trans (congrArg some (by kernel_rfl))
  f33 := ⟨Tryz.f205.name, by decide, Tryz.func205.trans (congrArg some (by kernel_rfl))⟩
  f34 := ⟨Tryz.f206.name, by decide, Tryz.func206.trans (congrArg some (by kernel_rfl))⟩
  f35 := ⟨Tryz.f207.name, by decide, Tryz.func207.trans (congrArg some (by kernel_rfl))⟩
  f40 := ⟨Tryz.f212.name, by decide, Tryz.func212.trans (congrArg some (by kernel_rfl))⟩
  t0 := Tryz.underlying0
  a0 := Tryz.isAgg0
  z0 := Tryz.sizeOf0
  v0 := Tryz.zeroValue0
  t3 := Tryz.underlying3
  a3 := Tryz.isAgg3
  z3 := Tryz.sizeOf3
  v3 := Tryz.zeroValue3
  t4 := Tryz.underlying4
  a4 := Tryz.isAgg4
  z4 := Tryz.sizeOf4
  v4 := Tryz.zeroValue4
  t5 := Tryz.underlying5
  a5 := Tryz.isAgg5
  z5 := Tryz.sizeOf5
  v5 := Tryz.zeroValue5
  t9 := Tryz.underlying9
  a9 := Tryz.isAgg9
  z9 := Tryz.sizeOf9
  v9 := Tryz.zeroValue9
  t22 := Tryz.underlying40
  a22 := Tryz.isAgg40
  z22 := Tryz.sizeOf40
  v22 := Tryz.zeroValue40
  t23 := Tryz.underlying40
  a23 := Tryz.isAgg40
  z23 := Tryz.sizeOf40
  v23 := Tryz.zeroValue40
  t25 := Tryz.underlying3
  a25 := Tryz.isAgg3
  z25 := Tryz.sizeOf3
  v25 := Tryz.zeroValue3
  t32 := Tryz.underlying54
  a32 := Tryz.isAgg54
  z32 := Tryz.sizeOf54
  v32 := Tryz.zeroValue54
  t35 := Tryz.underlying217
  a35 := Tryz.isAgg217
  z35 := Tryz.sizeOf217
  v35 := Tryz.zeroValue217
  t36 := Tryz.underlying218
  a36 := Tryz.isAgg218
  z36 := Tryz.sizeOf218
  v36 := Tryz.zeroValue218
  t41 := Tryz.underlying135
  a41 := Tryz.isAgg135
  z41 := Tryz.sizeOf135
  v41 := Tryz.zeroValue135
  t44 := Tryz.underlying164
  a44 := Tryz.isAgg164
  z44 := Tryz.sizeOf164
  v44 := Tryz.zeroValue164
  t46 := Tryz.underlying74
  a46 := Tryz.isAgg74
  z46 := Tryz.sizeOf74
  v46 := Tryz.zeroValue74
  t53 := Tryz.underlying248
  a53 := Tryz.isAgg248
  z53 := Tryz.sizeOf248
  v53 := Tryz.zeroValue248
  t57 := Tryz.underlying252
  a57 := Tryz.isAgg252
  z57 := Tryz.sizeOf252
  v57 := Tryz.zeroValue252
  t63 := Tryz.underlying265
  a63 := Tryz.isAgg265
  z63 := Tryz.sizeOf265
  v63 := Tryz.zeroValue265
  t64 := Tryz.underlying266
  a64 := Tryz.isAgg266
  z64 := Tryz.sizeOf266
  v64 := Tryz.zeroValue266 }

theorem Tryz.sortsA (m : Nat) : AnyZI.SortsIn Tryz.prog Tryz.sortedA_ren Fence.wide m :=
  ⟨fun blk off cap ss W hH hblk hsz => callsIn_wide.2 (AnyM.slices_Sort_int Tryz.sortA blk off cap ss W hH hblk hsz),
   fun p cap W => callsIn_wide.2 (AnyM.slices_Sort_int_none Tryz.sortA p cap W)⟩
end Go.Proofs
namespace Go.Proofs.YtcpgbcabmcbclaaGreatDoor
open Go.GV Go.Proofs.Tryz Go.Maps Go.Sort Go.Shelf Go.RowKit
attribute [local irreducible] AB W Wq Wt
def Dg(m:List (Int × Value)):List Int:=(m.map (·.1)).mergeSort fun x y=>decide (x<=y)
theorem Aiy(mb:Option Nat)(w:World):Ret prog 98 #[.map mb] w fun v w'=>v=.func (.func 134) #[] #[.pointer (some ⟨w.heap.size,0,none⟩)]/\w'=w.alloc (Bl 70 [.map mb]):=by
 have h:=AnyZI.keys_in keysA Fence.wide 5 trivial rfl mb w;exact CallsIn.mono (callsIn_wide.2 (callsIn_wide.1 h)) fun e w' ⟨h1,h2⟩=>⟨_,h1,rfl,h2⟩
theorem ZN{w:World}{bx bm:Nat}{m:List (Int × Value)}{o:Obj}(hx:w.heap[bx]?=some (Bl 70 [.map (some bm)]))(hb:w.heap[bm]?=some o)(hM:Ki .i64 m o)(nd:(m.map (·.1)).Nodup)(hsz:m.length<=4096)(hr:∀p∈m,-9223372036854775808<=p.1/\p.1<=9223372036854775807) :
  Ret prog 97 #[.func (.func 134) #[] #[.pointer (some ⟨bx,0,none⟩)]] w fun v w'=>∃a c,v=.slice a (Dg m).length c/\Rd w' a 1 (fun x:Int=>[.int .i64 x]) (Dg m)/\(Dg m).length<=c/\(Dg m=[]\/w.heap.size<=(adr a).block)/\Ext [] w w':=by
 obtain⟨D0,hown,hperm,hsize⟩:=Zy (P:=prog) Ge hb hM nd (qav hsz (by decide)) hr
 have hseq:SeqGives Fence.wide 2 prog 134 #[.pointer (some ⟨bx,0,none⟩)] encZ (fun ss=>ss.Perm (intKeys D0)) (Maps.size D0) w :=
  AnyZI.keys_gives (ρ:=keysA_ren) { keysA with } Fence.wide _ trivial rfl (by omega) bx bm m.length D0 w (Al hx) (by rw[Ar hx];rfl) hown
 have cS:=AnyZI.sorted_in sortedA Fence.wide 5 trivial trivial trivial trivial rfl (by omega) (sortsA _) (enters_of func125 (by kernel_rfl) rfl) 134 #[.pointer (some ⟨bx,0,none⟩)] trivial (enters_of func134 (by kernel_rfl) rfl) _ (Maps.size D0) (by rw[hsize];exact qav hsz (by decide)) (by rw[hsize];omega) _ hseq;refine CallsIn.mono (callsIn_wide.2 (callsIn_wide.1 cS)) ?_;rintro e w' ⟨v,ss,rfl,hS,hrow,_,hbel⟩;have he:ss.mergeSort (fun x y=>decide (x<=y))=Dg m:=mergeSort_of_perm_i (hS.trans hperm);rw[he]at hrow;obtain⟨a,c,rfl,R,hc,hnew⟩:=Zz (by rw[<-he,qcu]) hrow;exact⟨_,rfl,a,c,rfl,R,hc,hnew,Kl hbel⟩
theorem FH{m:List (Int × Value)}{k:Int}(h:k∈Dg m):∃v,EV m k=some v:=by
 have h1:k∈m.map (·.1):=((qce _ _).mem_iff).1 h;clear h
 induction m with
 |nil=>cases h1
 |cons p m ih =>
  by_cases hp:p.1=k
  .exact⟨p.2,by simp[EV,hp]⟩
  .have h2:k∈m.map (·.1):=by
    rcases qac.1 h1 with h|h
    .exact absurd h.symm hp
    .exact h
   obtain⟨v,hv⟩:=ih h2;exact⟨v,by simpa[EV,hp]using hv⟩
theorem Nj(m:List (Int × Value)):(Dg m).length=m.length:=by rw[Dg,qcu,qaj]
theorem SH{w:World}{l bx bd bs bm n:Nat}{left:Int}{on:Bool}{m:List (Int × Value)}{o:Obj}(hx:w.heap[bx]?=some (Bl 27 [ptr bd]))(hd:w.heap[bd]?=some (Bl TD (DB n bs bm left on)))(hb:w.heap[bm]?=some o)(hM:Ki .i64 m o)(nd:(m.map (·.1)).Nodup)(hsz:m.length<=4096)(hr:∀p∈m,-9223372036854775808<=p.1/\p.1<=9223372036854775807)(J:World->Nat->World->Prop)(hJ0:∀wK,Ext [] w wK->J wK 0 wK)(hJ:∀wK i w',Ext [] w wK->J wK i w'->w'.heap[bx]?=some (Bl 27 [ptr bd])/\(∃bs' left' on',w'.heap[bd]?=some (Bl TD (DB n bs' bm left' on')))/\w'.heap[bm]?=some o/\∃S,Ext S wK w'/\∀x∈S,x<w.heap.size)(hround:∀wK i k v w',Ext [] w wK->(Dg m)[i]?=some k->EV m k=some v->J wK i w'->Go.GV.YieldAt prog l [.int .i64 k,v] w' fun u w''=>u=.bool true/\J wK (i+1) w'') :
  Ret prog 96 #[.func (.yield l) #[] #[],ptr bx] w fun _ w'=>∃wK,Ext [] w wK/\J wK m.length w':=by
 obtain⟨w0,rfl,H⟩:=qE w;have hkl:=Nj m;refine A6 (fn:=f96) func96 U [.func (.yield l) #[] #[],.pointer (some ⟨bx,0,none⟩)] U ?_;refine Ad (Be Dn U (H.old0 (Ar hx _)) ?_);refine A8 U (Af Ko U (Be Sc U (H.old0 (Ar hd _)) ?_));refine Ai qB (Aiy (some bm) _) U ?_;rintro v w ⟨rfl,rfl⟩;replace H:=H.alloc (Bl 70 [.map (some bm)]);refine Ai qB (ZN (H.get at0) (Ctx.oldb H hb) hM nd hsz hr) U ?_;rintro v w ⟨a,c,rfl,R,hc,hnew,hx10⟩;replace H:=H.call hx10;refine AP FB U (Ae U (qA (AE ?_)));obtain⟨wK,rfl⟩:=qD w;refine B7 134213648 (α:=Nat) (fun i=>[(12,.int .i64 i)]) (fun i w'=>i<=(Dg m).length/\J wK i w') (fun i=>(Dg m).length - i) 0 U ?_ ?_ ?_
 .exact⟨rfl,trivial⟩
 .exact⟨qak _,hJ0 wK H.ext⟩
 .rintro i j w ⟨hi,hJw⟩;obtain⟨hx',⟨bs',left',on',hd'⟩,hb',S,hS,hSlt⟩:=hJ wK i w H.ext hJw
  have Rw:Rd w a 1 (fun x:Int=>[.int .i64 x]) (Dg m):=by
   rcases hnew with h0|h0
   .rw[h0];exact Rd.nil
   .refine R.ext hS fun h=>?_;have:=hSlt _ h;rw[World.size_alloc]at h0;omega
  refine Ad (Bn U U (qA (Aq (Au _ U ?_ ?_))))
  .intro h1;replace h1:=AV h1;obtain⟨k,hk⟩:=AO (l:=Dg m) (i:=i);obtain⟨v,hv⟩:=FH (qad hk);refine Ap (Aa (Aq (AE (Ad (AY Rw FB Hv U U (hn:=by rfl) ?_)))));refine Be DW U (Rw.one (f:=fun x => .int .i64 x) hk) (Ac U (qA (Ad (Ee U (.func _ _ _) U ?_))));refine Ae U (Be Dn U (Ar hx' _) ?_);refine A8 U (Af Ko U (Be Sc U (Ar hd' _) ?_));refine Ae U (RN U UC Ge Aid U U hb' hM ?_);rw[show(EV m k).getD (.slice none 0 0)=v from by rw[hv];rfl];refine RO U U (hround wK i k v w H.ext hk hv hJw) U ?_;rintro _ w ⟨rfl,hJ2⟩;refine BX U (qA (Bz U (Ap (AF (Aa (Av (A7 U U ?_)))))));refine Ae U (qA ?_);exact⟨i+1,rfl,⟨rfl,trivial⟩,⟨by omega,hJ2⟩,by omega⟩
  .intro h1;replace h1:=AW h1;have hin:i=m.length:=by omega
   subst hin;refine B3 (Ay (Ay (Bb (Ih U U ?_))));exact⟨wK,H.ext,hJw⟩
open Go.GV Go.Proofs.Tryz
theorem UP(bd:Nat)(w:World):Ret prog 60 #[ptr bd] w fun v w'=>∃bx,v=.func (.func 96) #[] #[ptr bx]/\w'.heap[bx]?=some (Bl 27 [ptr bd])/\w.heap.size<=bx/\Ext [] w w':=by
 obtain⟨w0,rfl,H⟩:=qE w;refine A6 (fn:=f60) func60 U [.pointer (some ⟨bd,0,none⟩)] U ?_;refine Ad (Cn _ (.pointer _) U U H ?_);rintro b1 w - H;refine El U .nilFunc U (qA (Ad (CG [.pointer _] U (El U (.func _ _ _) U ?_))));refine qA (Ax (AG (v:=(.func _ _ _)) U U U ?_));exact⟨b1,rfl,H.get at0,(H.own _ (qaf ..)).elim (fun h=>by cases h) id,H.ext⟩
def laid(f:Nat->Value)(sv:List Value)(ks:List Int):List Value:=ks.foldl (fun s k=>s.set k.toNat (f k.toNat)) sv
theorem NX(f:Nat->Value)(sv:List Value)(ks:List Int):(laid f sv ks).length=sv.length:=by
 unfold laid
 induction ks generalizing sv with
 |nil=>rfl
 |cons k ks ih=>rw[qdk,ih,qch]
theorem Pp(f:Nat->Value)(sv:List Value)(ks:List Int)(k:Int):laid f sv (ks++[k])=(laid f sv ks).set k.toNat (f k.toNat):=by
 unfold laid;rw[qdp];rfl
theorem SK(f:Nat->Value)(sv:List Value)(ks:List Int)(hk:∀k∈ks,0<=k){i:Nat}(hi:i<sv.length):(laid f sv ks)[i]?=if(i:Int)∈ks then some (f i)else sv[i]? := by
 unfold laid
 induction ks generalizing sv with
 |nil=>simp
 |cons k ks ih =>
  rw[qdk,ih (sv:=sv.set k.toNat (f k.toNat)) (fun x h=>hk x (qai _ h)) (by rw[qch];exact hi)];have h0:=hk k (qaf ..)
  by_cases h1:(i:Int)∈ks
  .rw[if_pos h1,if_pos (qai _ h1)]
  .rw[if_neg h1]
   by_cases h2:k=(i:Int)
   .subst h2;rw[if_pos (qaf ..),show((i:Int)).toNat=i from rfl,qew hi]
   .rw[if_neg (by simp[h1,Ne.symm h2]),qex (by omega)]
theorem DevR.last{w:World}{bd:Nat}{A:Dev}{role:Nat->Nat}{bs bm:Nat}{sv:List Value}{m:List (Int × Value)}{o:Obj}(D:DevR w bd A role bs bm sv m o) :
  ∃f:Nat->Value,∀i p,A.B[i]?=some p->p.2≠[]->BytesAt w role (f i) (stands p)/\∃al n c fl vs,EV m (i:Int)=some (.slice al n c)/\OS al n c 1 fl vs/\n=p.2.length/\(∀x∈ent al 24 fl,w.heap[x.1]?=some x.2/\role x.1=5+i)/\vs[n - 1]?=some (f i):=by
 have h:∀i:Nat,∃v,∀p,A.B[i]?=some p->p.2≠[]->BytesAt w role v (stands p)/\∃al n c fl vs,EV m (i:Int)=some (.slice al n c)/\OS al n c 1 fl vs/\n=p.2.length/\(∀x∈ent al 24 fl,w.heap[x.1]?=some x.2/\role x.1=5+i)/\vs[n - 1]?=some v:=fun i=>by
  by_cases hp:∃p,A.B[i]?=some p/\p.2≠[]
  .obtain⟨p,hp,hne⟩:=hp;obtain⟨_,⟨al,n,c,fl,vs,hv,O,hent,hvs⟩,hiff⟩:=D.part i p hp;have hn:n=vs.length:=by have:=O.llen;omega
   have hpos:0<p.2.length:=qbv.2 hne;have hvl:=hvs.1;obtain⟨b,hb⟩:=AO (l:=p.2) (i:=n - 1);obtain⟨v,hvv⟩:=AO (l:=vs) (i:=n - 1)
   have hst:stands p=b:=by
    rw[stands,List.getLast?_eq_getElem?,show p.2.length - 1=n - 1 by omega,hb];rfl
   refine⟨v,fun p' hp' _=>?_⟩;rw[hp]at hp';cases hp';refine⟨by rw[hst];exact hvs.2 _ _ _ hvv hb,al,n,c,fl,vs,?_,O,by omega,hent,hvv⟩;obtain⟨u,hu⟩:=qdh.1 (hiff.2 hne);rw[hu]at hv |-;rw[<-hv];rfl
  .exact⟨.nilFunc,fun p h1 h2=>absurd ⟨p,h1,h2⟩ hp⟩
 exact⟨fun i=>Classical.choose (h i),fun i=>Classical.choose_spec (h i)⟩
theorem DevR.keep{w w':World}{bd:Nat}{A:Dev}{role:Nat->Nat}{bs bm:Nat}{sv:List Value}{m:List (Int × Value)}{o:Obj}(D:DevR w bd A role bs bm sv m o){S:List Nat}(hx:Ext S w w')(hS':∀x∈S,role x=0):DevR w' bd A role bs bm sv m o:=by
 have hb:∀{b:Nat} {o:Obj},w.heap[b]?=some o->role b≠0->w'.heap[b]?=some o:=fun{b o} h1 h2=>by
  rw[hx.block b (Al h1) fun h=>h2 (hS' b h)];exact h1
 refine⟨fun x h=>qas (D.lt x h) hx.size,D.rd,D.rs,D.rm,hb D.hd (by rw[D.rd];decide),hb D.hs (by rw[D.rs];decide),hb D.hm (by rw[D.rm];decide),D.hM,D.nd,D.keys,D.len,fun i p hp=>?_,D.wf⟩;obtain⟨⟨v,h1,h2⟩,h3,h4⟩:=D.part i p hp;exact⟨⟨v,h1,h2.keep hx (fun x h=>by rw[hS' x h];decide) fun _ h=>h⟩,h3.keep hx (fun x h=>by rw[hS' x h];omega) (fun _ h=>h) (fun _ h=>h),h4⟩
theorem DevR.keep0{w w':World}{bd:Nat}{A:Dev}{role:Nat->Nat}{bs bm:Nat}{sv:List Value}{m:List (Int × Value)}{o:Obj}(D:DevR w bd A role bs bm sv m o)(hx:Ext [] w w'):DevR w' bd A role bs bm sv m o:=D.keep hx (by simp)
theorem DevR.swept{w w':World}{bd:Nat}{A:Dev}{role:Nat->Nat}{bs bm:Nat}{sv:List Value}{m:List (Int × Value)}{o o':Obj}(D:DevR w bd A role bs bm sv m o){A':Dev}{sv':List Value}(hx:Ext [bd,bs,bm] w w')(hlen:A'.B.length=A.B.length)(hd:w'.heap[bd]?=some (Bl TD (DB A'.B.length bs bm A'.left A'.on)))(hs:w'.heap[bs]?=some (Bl 24 sv'))(hm:w'.heap[bm]?=some o')(hM:Ki .i64 [] o')(hl:sv'.length=A.B.length)(hp:∀(i:Nat) (p:Byt × List Byt),A'.B[i]?=some p->p.2=[]/\∃v,sv'[i]?=some v/\SureAt w' role v p.1)(wf:Wf A'):DevR w' bd A' role bs bm sv' [] o':=by
 refine⟨fun x h=>qas (D.lt x h) hx.size,D.rd,D.rs,D.rm,hd,hs,hm,hM,qcb,fun k v h=>(by cases h),by rw[hl,hlen],fun i p h=>?_,wf⟩;obtain⟨h1,h2⟩:=hp i p h;refine⟨h2,?_,by simp[RA,h1]⟩;rw[h1];exact⟨none,0,0,[],[],rfl,OS.nil,by simp[ent],rfl,fun j x y h=>by cases h⟩
theorem Wh:∀(n:Nat) (l:List Nat),l.Nodup->(∀x∈l,x<n)->l.length<=n
 |0,l,_,h=>by
  cases l with
  |nil=>exact qae _
  |cons x l=>exact absurd (h x (by simp)) (qc3 _)
 |n+1,l,hd,h=>by
  have h1:=Wh n (l.filter (· != n)) (hd.filter _) (fun x hx=>by
   have:=h x (qbk.1 hx).1;have h2:=(qbk.1 hx).2
   simp at h2;omega)
  have h2:l.length=(l.filter (· != n)).length+l.count n:=by
   clear hd h h1
   induction l with
   |nil=>rfl
   |cons x l ih =>
    rw[qej,qbm]
    by_cases hx:x=n
    .subst hx;simp;omega
    .simp[hx];omega
  have h3:l.count n<=1:=List.nodup_iff_count.1 hd n;omega
theorem DevR.bound{w:World}{bd:Nat}{A:Dev}{role:Nat->Nat}{bs bm:Nat}{sv:List Value}{m:List (Int × Value)}{o:Obj}(D:DevR w bd A role bs bm sv m o):∀p∈m,0<=p.1/\p.1<A.B.length:=by
 intro p hp
 have h:∃v,EV m p.1=some v:=by
  have hm:p.1∈Dg m:=(qce _ _).mem_iff.2 (qah.2 ⟨p,hp,rfl⟩);exact FH hm
 obtain⟨v,hv⟩:=h;obtain⟨i,h1,h2⟩:=D.keys _ v hv;omega
theorem DevR.few{w:World}{bd:Nat}{A:Dev}{role:Nat->Nat}{bs bm:Nat}{sv:List Value}{m:List (Int × Value)}{o:Obj}(D:DevR w bd A role bs bm sv m o):m.length<=A.B.length:=by
 have h:=Wh A.B.length (m.map fun p=>p.1.toNat) (by
  have nd:=D.nd;rw[qdo,qbs]at nd |-;refine nd.imp_of_mem fun{a b} ha hb hab he=>hab ?_;have:=D.bound a ha;have:=D.bound b hb
  omega) (fun x hx=>by
  obtain⟨p,hp,rfl⟩:=qah.1 hx;have:=D.bound p hp
  omega)
 simpa using h
theorem NY{n a b:Nat}{tmps:Array Value}{g:Nat->Value}{x y:Value}(hts:tmps.size=n)(htm:∀i,tmps.getD i undef=g i)(ha:a<n:=by decide)(hb:b<n:=by decide):
  Sim n (put (put ⟨g,[]⟩ (some a) x) (some b) y) { tmps:=((#[a,b]:Array Tmp).zip [x,y].toArray).foldl (fun tmps (t,v)=>tmps.setIfInBounds t v) tmps,defers:=[] }:=by
 have h1:Sim n ⟨g,[]⟩ { tmps:=tmps,defers:=[] }:=⟨rfl,hts,htm⟩;have h2:=Sim.put (Sim.put h1 (some a) x (by rintro _ ⟨⟩;exact ha)) (some b) y (by rintro _ ⟨⟩;exact hb)
 simpa[Act.put]using h2
theorem Lj{P:Program}{l n:Nat}{body:Code}{R:Value->World->Prop}{e:Env}{w:World}{lo:Loop}(h1:w.heap[l]?=some (.loop lo))(hst:lo.state=.ready)(h:∀wR lo2,Ext [l] w wR->wR.heap[l]?=some (.loop lo2)->lo2={ lo with state := .busy }->W P (some l) n body (Z1 l R) e wR):Agv P l n body R .normal e w :=
 ⟨lo,h1,hst,h _ _ (Ext.setB w l _) (Io h1) rfl⟩
theorem IA{l:Nat}{R:Value->World->Prop}{e:Env}{w:World}{lo lo2:Loop}(h1:w.heap[l]?=some (.loop lo2))(h2:lo2={ lo with state := .busy })(hst:lo.state=.ready)(hp:lo.pending=none)(h:∀wF,Ext [l] w wF->wF.heap[l]?=some (.loop lo)->R (.bool true) wF):Z1 l R .normal e w:=by
 refine⟨lo2,h1,h _ (Ext.setB w l _) ?_⟩
 have:({ lo2 with state := .ready,pending:=none }:Loop)=lo:=by
  subst h2;cases lo;simp_all
 rw[Io h1,this]
theorem HS{Q:Exit->Env->World->Prop}{e:Env}{w:World}{j:Option Code}(hj:j=none)(h:Q .normal e w):OQ Q e w j:=by subst hj;exact h
theorem Nk{m:List (Int × Value)}{k:Int}{v:Value}(h:EV m k=some v):k∈Dg m:=by
 refine(qce _ _).mem_iff.2 ?_
 induction m with
 |nil=>cases h
 |cons p m ih =>
  by_cases hp:p.1=k
  .rw[<-hp];exact qaf ..
  .exact qai _ (ih (by simpa[EV,hp]using h))
theorem Mo{w:World}{bd:Nat}{A:Dev}{F:Nat->Prop}{mx:Nat}(hfew:Few A mx)(DA:DevAt w bd A F)(hmx:mx<=1000000000000:=by omega):
  Ret prog 54 #[ptr bd] w fun v w'=>v=.int .i64 (Du A)/\DevAt w' bd (Cp A) F/\Turn F w w':=by
 obtain⟨w0,rfl⟩:=qD w;obtain⟨role,bs,bm,sv,m,o,D,hF⟩:=DA;have H:=Ctx.start w0 [];refine JI (fn:=f54) func54 U [.pointer (some ⟨bd,0,none⟩)] U ?_;refine Ad (Cn _ (.pointer _) U U H ?_);rintro b1 w - H;refine Ac U (qA (Aq (Ad (AH Dn U H at0 U (Ai qB (SC (Ctx.oldb H D.hd)) U ?_)))));rintro v w ⟨rfl,rfl⟩;refine Ac U (qA (Ad (Ae U (Ba U U (qA (Au _ U ?_ ?_))))))
 .intro h1;replace h1:=Bu h1;have ho:A.on=false:=by cases h:A.on <;> simp_all
  refine Ad (Ae U (Ac U (qA (Ax (Ao (NE (v:=(.int _ _)) U U ?_))))));exact⟨by rw[Du,ho];rfl,by rw[Cp,ho];exact⟨role,bs,bm,sv,m,o,D.keep0 H.ext,hF⟩,.of0 H.ext⟩
 .intro h1;replace h1:=Bv h1;have ho:A.on=true:=by cases h:A.on <;> simp_all
  refine Ap (Aa (Ad (AH Dn U H at0 U (Ai qB (SD (D.keep0 H.ext)) U ?_))));rintro v w ⟨rfl,D1,hx1⟩;refine Ac U (qA (Aq (Ad (Ae U (B6 U U (qA (Au _ U ?_ ?_)))))))
  .intro h3;replace h3:=AV h3;have hg:A.goes=false:=by cases h:A.goes <;> simp_all
   have hbd0:=Al D.hd;have ho1:w0.heap.size<=b1:=(H.own _ (qaf ..)).elim (fun h=>by cases h) id
   have hb1:w.heap[b1]?=some (Bl 27 [ptr bd]):=by
    rw[hx1.block b1 (H.lt at0) (by simp;omega)];exact H.get at0
   refine Aq (Ad (Be Dn U (Ar hb1 _) ?_));refine Ai qB (UP bd _) U ?_;rintro v w ⟨bx,rfl,hbx,hbxn,hx17⟩;refine qA (AE ?_);have D2:=D1.keep0 hx17;have hb1L:w.heap[b1]?=some (Bl 27 [ptr bd]):=by rw[hx17.block b1 (Al hb1) (by simp)];exact hb1
   obtain⟨f,hf⟩:=D2.last;refine HK U qB ?_;intro fn tmps hts htm Db l w2 hDb hl hx2 hD hrec;have D3:=D2.keep0 hx2;have up2:∀{b:Nat} {o:Obj},w.heap[b]?=some o->w2.heap[b]?=some o:=fun{b o} g=>by rw[hx2.block b (Al g) (by simp)];exact g
   obtain⟨lo,hlo,hrec'⟩:∃lo,lo=_/\w2.heap[l]?=some (.loop lo):=⟨_,rfl,hrec⟩;have hhi:=D3.wf.hi;have hlen:m.length<=4096:=qav D3.few hhi;have hbs0:=D2.lt bs (by rw[D2.rs];decide);have hbd1:=D2.lt bd (by rw[D2.rd];decide);have hbm1:=D2.lt bm (by rw[D2.rm];decide);have hbxL:=Al hbx;have hbsl:bs≠l:=by omega
   have hb1s:b1≠bs:=by have:=D.lt bs (by rw[D.rs];decide);omega
   have hbxs:bx≠bs:=by have:=D1.lt bs (by rw[D1.rs];decide);omega
   have hbds:bd≠bs:=fun h=>by have h1:=D3.rd;rw[h,D3.rs]at h1;omega
   have hbms:bm≠bs:=fun h=>by have h1:=D3.rm;rw[h,D3.rs]at h1;omega
   refine Ret.mono (SH (l:=l) (up2 hbx) D3.hd D3.hm D3.hM D3.nd hlen (fun p hp=>by have:=D3.bound p hp;omega)
    (fun wK i w'=>w'.heap[l]?=some (.loop lo)/\Ext [bs,l] wK w'/\w'.heap[bs]?=some (Bl 24 (laid f sv ((Dg m).take i)))) ?_ ?_ ?_) ?_
   .intro wK hx;refine⟨by rw[hx.block l (Al hrec') (by simp)];exact hrec',.refl _ _,?_⟩;rw[hx.block bs (Al D3.hs) (by simp)];exact D3.hs
   .rintro wK i w' hx ⟨h1,h2,h3⟩
    have e1:∀{b:Nat} {o:Obj},w.heap[b]?=some o->b≠bs->w'.heap[b]?=some o:=fun{b o} g1 g2=>by
     have g3:b≠l:=by have:=Al g1;omega
     rw[h2.block b (qas (Al (up2 g1)) hx.size) (by simp[g2,g3]),hx.block b (Al (up2 g1)) (by simp)];exact up2 g1
    refine⟨e1 hbx hbxs,⟨bs,_,_,e1 D2.hd hbds⟩,e1 D2.hm hbms,_,h2,fun x h=>?_⟩;simp only[qac,qam,or_false]at h
    rcases h with rfl|rfl
    .exact Al D3.hs
    .exact Al hrec'
   .rintro wK i k v w' hxK hk hv ⟨h1,h2,h3⟩;obtain⟨q,rfl,hq⟩:=D3.keys _ v hv;obtain⟨p,hp⟩:∃p,A.less.B[q]?=some p:=⟨_,qbd hq⟩;have hne:p.2≠[]:=(D3.part q p hp).2.2.1 (by rw[hv];rfl);obtain⟨hby,al,nl,cl,fl,vs,hv',O,hnl,hent,hlast⟩:=hf q p hp hne;rw[hv]at hv';cases hv';have hpl:=JP hfew p (qad hp);have hpos:0<nl:=by rw[hnl];exact qbv.2 hne
    subst hlo;refine KW h1 U (II _ (NY hts htm) ?_);refine Ad (Ac U (qA (Av (Ak U (Ab (Lj h1 U ?_))))));intro wR lo2 hxR hlR hlo2
    have eR:∀{b:Nat} {o:Obj},w.heap[b]?=some o->b≠bs->wR.heap[b]?=some o:=fun{b o} g1 g2=>by
     have g3:b≠l:=by have:=Al g1;omega
     have g4:w'.heap[b]?=some o:=by
      rw[h2.block b (qas (Al (up2 g1)) hxK.size) (by simp[g2,g3]),hxK.block b (Al (up2 g1)) (by simp)];exact up2 g1
     rw[hxR.block b (Al g4) (by simpa using g3)];exact g4
    have hbs2:=D3.rs;have hbdR:=eR D2.hd hbds;have hb1R:=eR hb1L hb1s;have hbsR:wR.heap[bs]?=some (Bl 24 (laid f sv ((Dg m).take i))):=by rw[hxR.block bs (Al h3) (by simpa using hbsl)];exact h3
    have Rl:Rd wR al 1 (fun v:Value=>[v]) vs:=OS.rdV O fun x hx=>eR (hent x hx).1 (fun h=>by have:=(hent x hx).2;rw[h]at this;omega);have hlv:(laid f sv ((Dg m).take i)).length=sv.length:=NX ..;have hsvl:=D3.len;have hvn:nl=vs.length:=by have:=O.llen;omega
    obtain⟨a9,c9,hfq,_⟩:=hby;rw[hfq]at hlast;have HT:∀x,Ext [] wR x->Ctx wR [] x []:=fun x hx=>(Ctx.start wR []).call hx;refine AE (Kg [([0,1,2,3,4,5,6,7,8,9,10,11],12)] (fun x=>Ext [] wR x) [12] mixed (Ext.drew _ wR) ?_);refine AC U U (BG Dn U (fun _ hx=>hx.cell (Ar hb1R 0) (by simp)) ?_);refine Bg U (AD NL U (BG U9 U (fun _ hx=>hx.cell (Ar hbdR (0+0)) (by simp)) ?_));refine B9 U (BF U (BF U (Qb EX U (Iu U U U ?_))));rw[show((nl:Int) - 1)=((nl - 1:Nat):Int)by omega];refine Cr Rl EX Gh U U (BG B4 U (fun _ hx=>(Rl.ext0 hx).one (f:=fun v=>v) hlast) ?_);refine KT U EX Gh U U (AU ?_)
    skip
    refine Bf (.slice _ _ _) Gh U U U (Ctx.start1 (show(World.drew wR).heap[bs]?=_ from hbsR)) at0 (by omega) ?_;rintro wE HE;refine Ab (De U (B1 (AF ?_)));have hlE:wE.heap[l]?=some (.loop lo2):=by rw[HE.ext.block l (Al hlR) (by simp;omega)];exact hlR
    refine IA hlE hlo2 U U ?_;intro wF hxF hlF;refine⟨rfl,hlF,(h2.trans (hxR.mono (by simp))).trans ((Ext.drew _ _).trans ((HE.ext.mono (by simp)).trans (hxF.mono (by simp)))),?_⟩;rw[hxF.block bs (Al (HE.get at0)) (by simpa using hbsl),HE.get at0,Bp hk,Pp];simp only[qbo,qa2,qcj,hfq]
   .rintro v w3 ⟨wK,hxK,hl3,hx3,hs3⟩;rw[<-Nj m,qbe]at hs3;refine⟨_,hl3,by subst hlo;exact(fun h=>by cases h),HS (by rw[hlo]) ?_⟩;have hx4:=Ext.setB w3 l (.loop { lo with state := .exhausted });generalize w3.putObj l (.loop { lo with state := .exhausted })=w4 at hx4 |-;refine AF (Aa ?_);have hz:Ext [bd,bs,bm] w w4:=(((hx2.trans hxK).mono (by simp)).then hx3 (by intro x h;simp only[qac,qam,or_false]at h |-;omega)).then hx4 (by intro x h;simp only[qac,qam,or_false]at h |-;omega)
    have up4:∀{b:Nat} {o:Obj},w.heap[b]?=some o->b≠bs->w4.heap[b]?=some o:=fun{b o} g1 g2=>by
     have g3:b≠l:=by have:=Al g1;omega
     rw[hx4.block b (qas (Al (up2 g1)) (qav hxK.size hx3.size)) (by simpa using g3),hx3.block b (qas (Al (up2 g1)) hxK.size) (by simp[g2,g3]),hxK.block b (Al (up2 g1)) (by simp)];exact up2 g1
    have hD4:w4.heap[Db]?=some (.deferred (some [])):=by
     have g3:Db≠l:=by omega
     have g2:Db≠bs:=by omega
     rw[hx4.block Db (qas (Al hD) (qav hxK.size hx3.size)) (by simpa using g3),hx3.block Db (qas (Al hD) hxK.size) (by simp[g2,g3]),hxK.block Db (Al hD) (by simp)];exact hD
    have hs4:w4.heap[bs]?=some (Bl 24 (laid f sv (Dg m))):=by
     rw[hx4.block bs (Al hs3) (by simpa using hbsl)];exact hs3
    have hb14:=up4 hb1L hb1s;have hd4:=up4 D2.hd hbds;have H4:=Ctx.start1 (up4 D2.hm hbms);refine Av (Be Dn U (Ar hb14 _) ?_);refine A8 U (Af Ko U (Be Sc U (Ar hd4 _) ?_));refine WQ U UC U H4 at0 D2.hM ?_;rintro o' w5 hM' H5;refine qA (Ad (Ae U (Ac U (qA (Ax (NE (v:=(.int _ _)) U U ?_))))));refine⟨Db,rfl,by rw[H5.ext.block Db (Al hD4) (by simp;omega)];exact hD4,?_⟩;have hxD:=Ext.setB w5 Db (.deferred none);obtain⟨w6,hw6⟩:=qD (w5.putObj Db (.deferred none));rw[<-hw6]at hxD |-;have hz6:Ext [bd,bs,bm] w w6:=(hz.then H5.ext (by intro x h;simp only[qac,qam,or_false]at h |-;omega)).then hxD (by intro x h;simp only[qac,qam,or_false]at h |-;omega)
    have up6:∀{b:Nat} {o:Obj},w4.heap[b]?=some o->b≠bm->b≠Db->w6.heap[b]?=some o:=fun{b o} g1 g2 g3=>by
     rw[hxD.block b (qas (Al g1) H5.ext.size) (by simpa using g3),H5.ext.block b (Al g1) (by simpa using g2)];exact g1
    have hbdm:bd≠bm:=fun h=>by have h1:=D3.rd;rw[h,D3.rm]at h1;omega
    refine⟨by rw[Du,ho,hg];rfl,?_,?_⟩
    .rw[Cp,ho,hg];refine⟨role,bs,bm,laid f sv (Dg m),[],o',D2.swept (A':=Ig A.less) hz6 (by simp[Ig]) ?_ (up6 hs4 (Ne.symm hbms) (by omega)) ?_ hM' (by rw[NX,D2.len]) ?_ (Aiw D2.wf),hF⟩
     .rw[show(Ig A.less).B.length=A.less.B.length by simp[Ig]];exact up6 hd4 hbdm (by omega)
     .rw[hxD.block bm (Al (H5.get at0)) (by simp;omega)];exact H5.get at0
     .intro i p hp
      obtain⟨p0,hp0,rfl⟩:∃p0,A.less.B[i]?=some p0/\p=(stands p0,[]):=by
       simp only[Ig,qat,qey]at hp;obtain⟨p0,h1,h2⟩:=hp;exact⟨p0,h1,h2.symm⟩
      have hi:i<A.less.B.length:=(qaq.1 hp0).1;refine⟨rfl,?_⟩
      have hr4:∀x∈[bd,bs,bm],role x≠4:=by
       intro x h;simp only[qac,qam,or_false]at h
       rcases h with rfl|rfl|rfl
       .rw[D2.rd];decide
       .rw[D2.rs];decide
       .rw[D2.rm];decide
      rw[SK f sv _ (fun k hk=>by obtain⟨v,hv⟩:=FH hk;obtain⟨j,rfl,_⟩:=D2.keys k v hv;omega) (by rw[D2.len];exact hi)];have hpart:=D2.part i p0 hp0
      split
      .rename_i hin
       obtain⟨v,hv⟩:=FH hin;have hne:p0.2≠[]:=hpart.2.2.1 (by rw[hv];rfl);exact⟨_,rfl,.inr ((hf i p0 hp0 hne).1.keep hz6 hr4 fun _ h=>h)⟩
      .rename_i hin
       have he:p0.2=[]:=Classical.byContradiction fun hne=>by
        obtain⟨v,hv⟩:=qdh.1 (hpart.2.2.2 hne);exact hin (Nk hv)
       obtain⟨v,h1,h2⟩:=hpart.1;refine⟨v,h1,?_⟩;rw[show stands p0=p0.1 by rw[stands,he];rfl];exact h2.keep hz6 hr4 fun _ h=>h
    .refine Turn.trans (.of0 H.ext) (Turn.trans (.of hx1 fun x h=>hF x (by rw[qaa.1 h,D.rd];decide)) (.of ((hx17.mono (by simp)).trans hz6) fun x h=>?_) fun x h => .inl h) fun x h => .inl h;refine hF x ?_;simp only[qac,qam,or_false]at h
     rcases h with rfl|rfl|rfl
     .rw[D2.rd];decide
     .rw[D2.rs];decide
     .rw[D2.rm];decide
  .intro h3;replace h3:=AW h3;have hg:A.goes=true:=by cases h:A.goes <;> simp_all
   refine Ap (Aa (Ad (Ae U (Ac U (qA (Ax (NE (v:=(.int _ _)) U U ?_)))))));exact⟨by rw[Du,ho,hg];rfl,by rw[Cp,ho,hg];exact⟨role,bs,bm,sv,m,o,D1,hF⟩,Turn.trans (.of0 H.ext) (.of hx1 fun x h=>hF x (by rw[qaa.1 h,D.rd];decide)) fun x h => .inl h⟩
theorem Ey{α:Type}{l:List α}{i:Nat}{p:α}(h:l[i]?=some p):l.drop i=p::l.drop (i+1):=by
 obtain⟨hi,rfl⟩:=qaq.1 h;exact qd0 hi
def NZ(B:List (Byt × List Byt)):Nat:=B.countP fun p => !p.2.isEmpty
theorem Ad4(l:List (Byt × List Byt))(p:Byt × List Byt):NZ (l++[p])=if p.2=[]then NZ l else NZ l+1:=by
 unfold NZ;rw[List.countP_append]
 by_cases hp:p.2=[] <;> simp[hp]
def keepI(B:List (Byt × List Byt))(picks:List Int)(i:Nat):List (Byt × List Byt):=Es (B.take i) picks++B.drop i
theorem Aiz(p:Byt × List Byt)(x:Int)(l:List Int):(max x 0) % ((p.2.length:Int)+1)=((MO p (x::l):Nat):Int):=by
 unfold MO;dsimp only;rw[Int.natCast_emod,Int.toNat_of_nonneg (by omega)];rfl
end Go.Proofs.YtcpgbcabmcbclaaGreatDoor
