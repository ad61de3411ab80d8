/- Part 4 of the proof. -/
import Derived.Test.YtcpgbcabmcbclaaGreatDoorPart3
import Derived.Ground.GgzProg
import Derived.Ground.SlgmProg
set_option maxRecDepth 20000
set_option maxHeartbeats 2000000
namespace Go.Proofs.YtcpgbcabmcbclaaGreatDoor
open Go.GV Go.Proofs.Tryz
attribute [local irreducible] AA W Wq Wt
def le4(s:Nat):List UInt8:=(List.range 4).map fun i=>UInt8.ofNat (s / 2 ^ (8*i))
def HQ(k:UInt8)(l:List UInt8):List UInt8:=k::(Bq l.length 2++(l++List.replicate (505 - l.length) 0))
def DR(k:UInt8)(l:List UInt8):List UInt8:=HQ k l++le4 (VK (HQ k l)).toNat
def GI(k:UInt8)(l:List UInt8):Int:=bif decide (k.toNat=0)then 1 else bif decide (505<l.length)then 6 else 0
theorem Sl{k:UInt8}{l:List UInt8}(h:l.length<=505):(HQ k l).length=508:=by simp[HQ,Ba];omega
theorem FH{k:UInt8}{l:List UInt8}(h:l.length<=505):(DR k l).length=512:=by simp[DR,Sl h,le4]
structure Bytes(w w':World)(v:Value)(l:List UInt8):Prop where
 ex:∃a c,v=.slice a l.length c/\Rd w' a 1 B8 l/\l.length<=c/\w.heap.size<=(adr a).block
 ext:Ext [] w w'
def Lg(k:UInt8)(l:List UInt8)(w:World)(v:Value)(w':World):Prop :=
 (GI k l≠0/\v=.tuple #[.slice none 0 0,.int .i64 (GI k l)]/\Ext [] w w') \/
 (GI k l=0/\∃s,v=.tuple #[s,.int .i64 0]/\Bytes w w' s (DR k l))
theorem Adk(n:Nat):List.replicate n (Value.int .u8 0)=(List.replicate n (0:UInt8)).map bv:=by rw[List.map_replicate];rfl
theorem Ah3{s i:Nat}(h:i<4:=by omega):(le4 s).take (i+1)=(le4 s).take i++[UInt8.ofNat (s / 2 ^ (8*i))]:=Bp (Uk h)
theorem VN(s:Nat):(le4 s).length=4:=by simp[le4]
theorem Sn(A B C M:List UInt8)(h:B.length=M.length):over ((A++(B++C)).map bv) A.length (M.map bv)=(A++(M++C)).map bv:=by
 have:=WF (A.map bv) (B.map bv) (C.map bv) (M.map bv) (by simpa using h)
 simpa using this
theorem Zx(k:UInt8)(n:Nat):over (List.replicate 512 (Value.int .u8 0)) 0 (((k::Bq n 2).map bv).take 512)=((k::Bq n 2)++(List.replicate 509 0)).map bv:=by
 rw[qa6 (by simp[Ba])];have h:=Sn [] (List.replicate 3 0) (List.replicate 509 0) (k::Bq n 2) (by simp[Ba]);rw[qa7,qa7,qfc]at h;rw[Adk];exact h
theorem Zy(k:UInt8)(l:List UInt8)(h:l.length<=505:=by omega):over (((k::Bq l.length 2)++(List.replicate 509 0)).map bv) 3 ((l.map bv).take 509)=(HQ k l++List.replicate 4 0).map bv:=by
 rw[qa6 (by simp;omega)];have h2:=Sn (k::Bq l.length 2) (List.replicate l.length 0) (List.replicate (509 - l.length) 0) l (by simp);rw[qfc,show l.length+(509 - l.length)=509 by omega]at h2;rw[show(k::Bq l.length 2).length=3 by simp[Ba]]at h2;rw[h2,HQ];have h3:List.replicate (509 - l.length) (0:UInt8)=List.replicate (505 - l.length) 0++List.replicate 4 0:=by rw[qfc];congr 1;omega
 rw[h3];simp
theorem Alg(l:List UInt8)(i:Nat)(x:UInt8):(l.map bv).set i (bv x)=(l.set i x).map bv:=by rw[qdx]
theorem Ah4(A T:List UInt8)(i:Nat)(x:UInt8)(hA:A.length=508)(hT:T.length=i)(hi:i<4:=by omega):(A++(T++List.replicate (4 - i) 0)).set (508+i) x=A++((T++[x])++List.replicate (4 - (i+1)) 0):=by
 rw[List.set_append,if_neg (by omega),List.set_append,if_neg (by omega)];rw[show 508+i - A.length - T.length=0 by omega,show 4 - i=(4 - (i+1))+1 by omega,List.replicate_succ];simp
theorem PZ{A B:List UInt8}(h:A.length=508):(A++B).take 508=A:=by rw[qcs (by omega),qa6 (by omega)]
theorem VP(k:UInt8)(a:Option Addr)(c n:Nat)(l:List UInt8)(w:World)(R:Rd w a 1 B8 l)(hn:l.length=n)(hm:n<=9223372036854775807:=by omega):
  Ret prog 81 #[bv k,.slice a n c] w fun v w'=>Lg k l w v w':=by
 subst hn;obtain⟨w0,rfl,H⟩:=qE w;have hkb:=HI k;refine A8 (fn:=f81) func81 U [bv k,.slice a l.length c] U (Ad (Ak U (Ac U (qA (Ar (AB (Ad (Ae U (BA U U (Am U ?_))))))))));refine qA (Av _ U ?_ ?_)
 .intro h1;replace h1:=AR h1;have he:GI k l=1:=by rw[GI,qal (show k.toNat=0 by omega)];rfl
  refine Ad (Ak U (Ac U (qA (A6 (AK (Ao (Cs (v1:=(.slice _ _ _)) (v2:=(.int _ _)) U U U U ?_)))))));exact .inl ⟨by rw[he];decide,by rw[he],H.ext⟩
 .intro h1;replace h1:=AU h1;refine Ad (Ah U (AO AX U (BZ U U (Am U (qA (Av _ U ?_ ?_))))))
  .intro h2;replace h2:=AR h2;have he:GI k l=6:=by rw[GI,qag (show ¬k.toNat=0 by omega),qal (show 505<l.length by omega)];rfl
   refine Ad (Ak U (Ac U (qA (A6 (AK (Ao (Cs (v1:=(.slice _ _ _)) (v2:=(.int _ _)) U U U U ?_)))))));exact .inl ⟨by rw[he];decide,by rw[he],H.ext⟩
  .intro h2;replace h2:=AU h2;have he:GI k l=0:=by rw[GI,qag (show ¬k.toNat=0 by omega),qag (show ¬505<l.length by omega)];rfl
   refine Ap (AE (Aa (Ad (Bi Apb H ?_))));rintro b6 w - H;refine qA (BV [([0,1,3,4,5],2),([],6),([],7)] (fun _=>True) [] mixed (trivial) ?_);refine AD U U (Aga U OY CJ U ?_);refine B0 U (B9 U (PO AX U (Zc U U Gs Hn ?_)));refine AV ?_;replace H:=H.drew;refine BI [bv k] (bv k) AX CJ IW U U U U H ?_;rintro b18 w - H;have R18:Rd w (some ⟨b18,0,none⟩) 1 B8 [k]:=Rd.of_bl (r:=[]) (H.get at0) rfl (fun x _=>rfl);refine Ab (Bb (trivial) (AD U U ?_));refine AV (Aj qB (Gt (some ⟨b18,0,none⟩) 1 1 [k] l.length 2 _ R18 U (hm:=by omega) (by omega)) U ?_);rintro v w F;obtain⟨a22,c22,rfl,R22,-⟩:=Fresh.rdB F;replace H:=H.call F.ext;have hp:Nb [k] l.length 2=k::Bq l.length 2:=rfl;rw[hp]at R22 |-;refine Ab (Bb (trivial) (AD U U ?_))
   refine AV (Q1 ((k::Bq l.length 2).map bv) U AX CJ U U (by simp[Ba]) (Ht _) (Rd.appB R22) H at1 (by simp) ?_);rintro w H;rw[Zx]at H;replace H:Ctx w0 [] w [(b6,Bl 163 (((k::Bq l.length 2)++(List.replicate 509 0)).map bv))]:=H.tail;refine Ab (Bb (trivial) (B4 (Ad (N7 U OY CJ U U ?_))));refine Ah U (Q1 (l.map bv) U AX CJ U U (by simp) (Ht _) (Rd.appB (R.ext0 H.ext)) H at0 (by simp[Ba]) ?_);rintro w H;replace H:Ctx w0 [] w [(b6,Bl 163 (over (((k::Bq l.length 2)++(List.replicate 509 0)).map bv) 3 ((l.map bv).take 509)))]:=H;rw[Zy k l]at H;have hl508:=Sl (k:=k) (l:=l) (by omega);have R6:Rd w (some ⟨b6,0,none⟩) 1 B8 (HQ k l++List.replicate 4 0):=Ah0 (H.get at0);have R8:=R6.take 508;rw[PZ hl508]at R8;refine qA (Ad (VD U OY CJ U U ?_));refine Aj qB (Ahz (some ⟨b6,0,none⟩) 512 508 (HQ k l) _ R8 hl508) U ?_
   rintro v w ⟨rfl,rfl⟩;refine Ac U (qA (Ar (Ad (N7 U OY CJ U U ?_))));refine AO AX U (Ae U (qA (AB ?_)));have hs:=NM (VK (HQ k l));generalize hsv:(VK (HQ k l)).toNat=sv at hs;refine B6 8793945538816 (α:=Nat) (fun i=>[(31,.int .i64 i)]) (fun i w'=>i<=4/\Ctx w0 [] w' [(b6,Bl 163 ((HQ k l++((le4 sv).take i++List.replicate (4 - i) 0)).map bv))]) (fun i=>4 - i) 0 U ?_ ?_ ?_
   .exact⟨rfl,trivial⟩
   .exact⟨qak _,H⟩
   .rintro i j w ⟨hi,H⟩;refine Ad (Bj U U (qA (Ar (Av _ U ?_ ?_))))
    .intro h3;replace h3:=AR h3;refine Ap (Aa (Ar (AB (Ad (Ae U (Ac U (qA (Au (Ae U (Ay U U ?_))))))))));refine Ae U (Ae U (Gp U U ?_));rw[show(8:Int)*(i:Int)=((8*i:Nat):Int)from by simp];refine Ra U U U (PM U U Zu Hm ?_);rw[U6];refine Ey OY CJ U U (Bf (bv _) CJ U U U H at0 (by simp[hl508,VN];omega) ?_);rintro w H;rw[show 0+((508:Int)+(i:Int)).toNat*1=508+i by omega,Alg,Ah4 _ _ i _ hl508 (by rw[qa0,VN];omega),<-Ah3]at H;refine Ab (AE (Aa (Au (Ay U U ?_))));refine Ae U (qA ?_);exact⟨i+1,rfl,⟨rfl,trivial⟩,⟨by omega,H⟩,by omega⟩
    .intro h3;replace h3:=AU h3;have hi4:i=4:=by omega
     subst hi4;refine B2 (Aw (Aw (AZ (Aa (Ad (Ac9 U OY CJ U ?_))))));refine Ak U (Ac U (qA (A6 (Cs (v1:=(.slice _ _ _)) (v2:=(.int _ _)) U U U U ?_))));refine .inr ⟨he,_,rfl,?_⟩
     have hfin:DR k l=HQ k l++((le4 sv).take 4++List.replicate (4 - 4) 0):=by
      rw[DR,hsv,qa6 (by rw[VN];exact qae _)];simp
     refine⟨⟨some ⟨b6,0,none⟩,512,by rw[FH (by omega)],?_,by rw[FH (by omega)];exact qae _,(H.own _ (qaf ..)).elim (fun h=>by cases h) id⟩,H.ext⟩;rw[hfin];exact Ah0 (H.get at0)
def preB(k:UInt8)(l:List UInt8)(z:Nat):List UInt8:=(k::Bq l.length 2)++(l++List.replicate z 0)
def GK(b:List UInt8):UInt8:=(b[0]?).getD 0
def KE(b:List UInt8):Nat:=numN ((b.drop 1).take 2)
def IY(b:List UInt8):List UInt8:=(b.drop 3).take 505
def CS(b:List UInt8):List UInt8:=(IY b).take (KE b)
def Qa(b:List UInt8):Bool := !decide ((GK b).toNat=0) && (decide (KE b<=505) && Qv ((IY b).drop (KE b)))
def Fe(b:List UInt8):Int:=bif !(decide (b.length=512) && IX b)then 9 else bif Qa b then 0 else 5
def NN(b:List UInt8)(w:World)(v:Value)(w':World):Prop :=
 (Fe b≠0/\v=.tuple #[.int .u8 0,.slice none 0 0,.int .i64 (Fe b)]/\Ext [] w w') \/
 (Fe b=0/\∃s,v=.tuple #[bv (GK b),s,.int .i64 0]/\Fresh w w' 5 1 s ((CS b).map bv))
theorem Alh{b:List UInt8}(h:(!(decide (b.length=512) && IX b))=true):Fe b=9:=by rw[Fe,h];rfl
theorem VQ{b:List UInt8}(h:(decide (b.length=512) && IX b)=true)(h5:Qa b=false):Fe b=5:=by rw[Fe,h,h5];rfl
theorem Abl{b:List UInt8}(h:(decide (b.length=512) && IX b)=true)(h5:Qa b=true):Fe b=0:=by rw[Fe,h,h5];rfl
theorem Ah5{b:List UInt8}(h:b.length=512):(IY b).length=505:=by simp[IY,h]
theorem Ali{b:List UInt8}(h:b.length=512):b[0]?=some (GK b):=by
 obtain⟨x,hx⟩:=AP (l:=b) (i:=0);rw[GK,hx];rfl
theorem VR(a:Option Addr)(c n:Nat)(b:List UInt8)(w:World)(R:Rd w a 1 B8 b)(hn:b.length=n)(hc:b.length<=c)(hm:n<=9223372036854775799:=by omega):
  Ret prog 106 #[.slice a n c] w fun v w'=>NN b w v w':=by
 subst hn;obtain⟨w0,rfl,H⟩:=qE w;refine A8 (fn:=f106) func106 U [.slice a b.length c] U ?_;refine Ad (Ac U (Ak U (Ac U (qA (Ar (Ad (BG (α:=Unit) 130560 (fun _=>[(16,.bool (!(decide (b.length=512) && IX b)))]) (fun _ w'=>Ctx w0 [] w' []) U ?_ ?_)))))))
 .refine Ah U (AO AX U (Be U U (AF U (AQ 12 U ?_ ?_))))
  .intro h1;replace h1:=Bv h1;refine Ag U (Ag U (Ag U (AN U (.bool _) U (Ab ?_))));exact⟨rfl,(),rfl,⟨qab Value.bool (by rw[qar];simp_all;try omega),trivial⟩,H⟩
  .intro h2;replace h2:=Bw h2;refine Ah U (Aj qB (WZ a c b _ (R.ext0 H.ext) hc) U ?_);rintro v w ⟨rfl,rfl⟩;refine Cl U (AM U (.bool _) U (Ab ?_));exact⟨rfl,(),rfl,⟨qab Value.bool (by rw[qar];simp_all;try omega),trivial⟩,H⟩
 rintro - j16 w H;refine Av _ U ?_ ?_
 .intro h1;replace h1:=C8 h1;have he:=Alh (b:=b) (by rw[h1];rfl);refine Ad (Ac U (Ak U (Ac U (qA (A6 (Ao (CX (v1:=(.int _ _)) (v2:=(.slice _ _ _)) (v3:=(.int _ _)) U U U U U ?_)))))));exact .inl ⟨by rw[he];decide,by rw[he],H.ext⟩
 .intro h1;replace h1:=CA h1;have hlr:(decide (b.length=512) && IX b)=true:=h1;simp only[qao,qaq]at h1;obtain⟨h512,hright⟩:=h1;have hrl:=Ah5 h512;have hk:=Ali h512;have hkb:=HI (GK b)
  have hnb:KE b<65536:=by
   have:=Kr ((b.drop 1).take 2);have h2:((b.drop 1).take 2).length=2:=by rw[qa0,qbg];omega
   rw[h2]at this;exact this
  have hte:Di b 1 2=0:=by
   unfold Di;rw[qal (show(1:Int)<=(b.length:Int)by omega),qal (show(2:Int)<=(b.length:Int) - 1 by omega)];rfl
  have htv:Gh b 1 2=.tuple #[.int .u64 (KE b:Int),.int .i64 3,.int .i64 0]:=by rw[Gh,hte];rfl
  have R8:Rd w0 (EH a c 3 1) 1 B8 (IY b):=(R.cut 3 c hc).take 505;refine Ap (Aa (Ad (Ah U (Aj qB (He a c b.length b 1 2 _ (R.ext0 H.ext) U hc) U ?_))));rintro v w ⟨rfl,hx⟩;rw[htv];replace H:=H.call hx;refine AW U (Ai U U (Ai U U (Ai U U (Ac U (Ac U (Ac U (qA (Ad (Ah U ?_)))))))));refine Ae U (Ah U (AO AX U (BD U U ?_)));refine JA U AX CJ U U U ?_;rw[show((b.length:Int) - 4).toNat - ((3:Int)).toNat=505 from by omega];refine Ak U (qA (Ar (AB (Ar (Ad (Ah U (AY R AX CJ U U (hn:=by rfl) ?_)))))));refine Bd Qu U ((R.ext0 H.ext).one (f:=bv) hk) (BA U U (Am U (qA (Dx 29 U ?_ ?_))))
  .intro h2;replace h2:=AR h2;have he:=VQ hlr (by rw[Qa,qal (show(GK b).toNat=0 by omega)];rfl);refine Ap (Aa (EI U (Ad (Ac U (Ak U (Ac U (qA (A6 (AK (Ao (CX (v1:=(.int _ _)) (v2:=(.slice _ _ _)) (v3:=(.int _ _)) U U U U U ?_)))))))))));exact .inl ⟨by rw[he];decide,by rw[he],H.ext⟩
  .intro h2;replace h2:=AU h2;refine Au (Ae U (Ah U (AO AX U (DN U Gs Hn ?_))));refine BZ U U (Am U (qA (Dx 29 U ?_ ?_)))
   .intro h3;replace h3:=AR h3;have he:=VQ hlr (by rw[Qa,qag (show ¬KE b<=505 by omega)];simp);refine Ad (Ac U (Ak U (Ac U (qA (A6 (AK (Ao (CX (v1:=(.int _ _)) (v2:=(.slice _ _ _)) (v3:=(.int _ _)) U U U U U ?_))))))));exact .inl ⟨by rw[he];decide,by rw[he],H.ext⟩
   .intro h3;replace h3:=AU h3;have hcut:=(R8.ext0 H.ext).cut (KE b) (c - 3) (by omega);refine Ad (Ah U (Ae U (FB AX CJ U U ?_)));refine Aj qB (Alf _ (c - 3 - KE b) (505 - KE b) ((IY b).drop (KE b)) _ hcut (by rw[qbg];omega) (by rw[qbg];omega)) U ?_;rintro v w ⟨⟨a',n',c',rfl,hz,hle⟩,rfl⟩;refine AO AX U (BZ U U ?_);rw[show decide ((0:Int)<(n':Int)) = !Qv ((IY b).drop (KE b))from by rw[<-hz];exact decide_eq_decide.2 (by omega)];refine Am U (qA (Av _ U ?_ ?_))
    .intro h4;have hz4:Qv ((IY b).drop (KE b))=false:=by simpa using h4
     have he:=VQ hlr (by rw[Qa,hz4];simp);refine Ad (Ac U (Ak U (Ac U (qA (A6 (AK (Ao (CX (v1:=(.int _ _)) (v2:=(.slice _ _ _)) (v3:=(.int _ _)) U U U U U ?_))))))));exact .inl ⟨by rw[he];decide,by rw[he],H.ext⟩
    .intro h4;have hz4:Qv ((IY b).drop (KE b))=true:=by simpa using h4
     have he:=Abl hlr (by rw[Qa,hz4,qag (show ¬(GK b).toNat=0 by omega),qal (show KE b<=505 by omega)];rfl);obtain⟨wS,rfl⟩:=qD w;refine Ap (AE (Aa (BV [([0,1,2,3,4,5],6),([7,8],9)] (fun x=>Ext [] wS x) [] mixed (Ext.drew [] wS) ?_)));refine AD U U (B9 U (BX R AX CJ U U (hn:=by rfl) ?_));refine BC Qu U (fun _ hx=>(R.ext0 (H.ext.trans hx)).one (f:=bv) hk) (B9 U (B0 U (Hr U AX CJ U U ?_)));refine AV ?_;replace H:=H.drew;refine Aj qB (JN (EH a c 3 1) (c - 3) (KE b) (CS b) _ ((R8.ext0 H.ext).take (KE b)) (by rw[CS,qa0];omega)) U ?_;rintro v w ⟨F,-⟩;obtain⟨a52,n52,c52,full52,rfl,-⟩:=F.ex;refine Ab (Bb ((Ext.drew [] wS).trans F.ext) (AD U U ?_))
     refine Un U U (IC U U (AV (Ac U (Ab (Bb ((Ext.drew [] wS).trans F.ext) (B4 (A6 (CX (v1:=(.int _ _)) (v2:=(.slice _ _ _)) (v3:=(.int _ _)) U U U U U ?_))))))));exact .inr ⟨he,_,rfl,Fresh.since F H.ext⟩
theorem Ah6(l:List UInt8):Qv l=true↔l=List.replicate l.length 0:=by
 rw[Qv,qb5,List.eq_replicate_iff];simp
theorem Ah7{s:Nat}(hs:s<4294967296):HO (le4 s)=s:=by
 unfold le4;simp only[List.range,List.range.loop,qaz,qbo,HO,UInt8.toNat_ofNat'];omega
theorem Fresh.newB{w w':World}{t:Nat}{s:Value}{xs:List UInt8}(h:Fresh w w' t 1 s (xs.map bv)):∃a c,s=.slice a xs.length c/\Rd w' a 1 B8 xs/\xs.length<=c/\(xs=[]\/w.heap.size<=(adr a).block):=by
 obtain⟨a,n,c,full,rfl,O,hb⟩:=h.ex;have hn:=O.num;subst hn;have R:Rd w' a 1 B8 xs:=O.rd1 (t:=t) fun x hx=>(hb x hx).1;refine⟨a,c,rfl,R,O.le,?_⟩
 by_cases h0:xs=[]
 .exact .inl h0
 .obtain⟨b,o,rfl⟩:=R.some' h0;exact .inr (hb _ (qaa.2 U)).2
theorem Rd.newer{w w':World}{a:Option Addr}{xs:List UInt8}{n:Nat}{S:List Nat}(R:Rd w a 1 B8 xs)(hn:xs=[]\/n<=(adr a).block)(he:Ext S w w')(hS:∀x∈S,x<n):Rd w' a 1 B8 xs:=by
 rcases hn with rfl|hn
 .exact Rd.nil
 .exact R.ext he fun h=>absurd (hS _ h) (by omega)
abbrev Byt:=List UInt8
structure Dev where
 B:List (Byt × List Byt)
 left:Int
 on:Bool
def stands(p:Byt × List Byt):Byt:=p.2.getLast?.getD p.1
def zeros:Byt:=List.replicate 512 0
def Dev.goes(A:Dev):Bool:=decide (A.left=0)
def Dev.less(A:Dev):Dev:=if A.left=0 then{ A with on:=false }else if A.left = -1 then A else{ A with left:=A.left - 1 }
def Ah8(n:Int):Int:=bif decide (n<1) || decide (4096<n)then 1 else 0
def Fu(n:Nat):Dev:=⟨List.replicate n (zeros,[]),-1,true⟩
def Dev.has(A:Dev)(k:Int):Bool:=decide (0<=k) && decide (k<A.B.length)
def GL(A:Dev)(k:Int):Int:=bif A.on then(bif A.has k then 0 else 1)else 8
def GM(A:Dev)(k:Int):Byt:=bif decide (GL A k=0)then stands (A.B.getD k.toNat (zeros,[]))else[]
def Dr(A:Dev)(k:Int)(b:Byt):Int:=bif A.on then(bif A.has k && decide (b.length=512)then(bif A.goes then 8 else 0)else 1)else 8
def Pc(A:Dev)(k:Nat)(b:Byt):Dev:={ A with B:=A.B.modify k fun p=>(p.1,p.2++[b]) }
def CD(A:Dev)(k:Int)(b:Byt):Dev:=bif A.on && (A.has k && decide (b.length=512))then(bif A.goes then A.less else Pc A.less k.toNat b)else A
def Ds(A:Dev):Int:=bif A.on then(bif A.goes then 8 else 0)else 8
def Io(A:Dev):Dev:={ A with B:=A.B.map fun p=>(stands p,[]) }
def Cq(A:Dev):Dev:=bif A.on then(bif A.goes then A.less else Io A.less)else A
def armE(A:Dev):Int:=bif A.on then 0 else 8
def armD(A:Dev)(n:Int):Dev:=bif A.on then{ A with left:=max n (-1) }else A
def KF(A:Dev):Dev:={ A with on:=false }
def Pd(p:Byt × List Byt)(x:Nat):Byt:=if x=0 then p.1 else p.2.getD (x - 1) p.1
def MM(p:Byt × List Byt)(picks:List Int):Nat:=match picks with | []=>0|x::_=>(max x 0).toNat % (p.2.length+1)
def En:List (Byt × List Byt)->List Int->List (Byt × List Byt)
 | [],_=>[]
 |p::l,picks=>if p.2=[]then(p.1,[])::En l picks else(Pd p (MM p picks),[])::En l picks.tail
def onE(A:Dev):Int:=bif A.on then 3 else 0
def onD(A:Dev)(picks:List Int):Dev:=bif A.on then A else⟨En A.B picks,-1,true⟩
structure Wf(A:Dev):Prop where
 lo:1<=A.B.length
 hi:A.B.length<=4096
 left : -1<=A.left
 left2:A.left<=9223372036854775807
 sure:∀p∈A.B,p.1.length=512
 loose:∀p∈A.B,∀b∈p.2,b.length=512
def Few(A:Dev)(m:Nat):Prop:=∀p∈A.B,p.2.length<=m
theorem NO{α:Type}{l:List α}{i:Nat}{d:α}(h:i<l.length:=by omega):l.getD i d∈l:=by
 rw[qa9,qbe h];exact List.getElem_mem h
theorem Lh{α:Type}{l:List α}{f:α->α}{i:Nat}{x:α}(h:x∈l.modify i f):x∈l\/∃y∈l,x=f y:=by
 induction l generalizing i with
 |nil=>simp at h
 |cons a l ih =>
  cases i with
  |zero =>
   rw[List.modify_zero_cons,qac]at h
   rcases h with rfl|h
   .exact .inr ⟨a,qaf ..,rfl⟩
   .exact .inl (qaj _ h)
  |succ i =>
   rw[qfb,qac]at h
   rcases h with rfl|h
   .exact .inl (qaf ..)
   .rcases ih h with h|⟨y,hy,rfl⟩
    .exact .inl (qaj _ h)
    .exact .inr ⟨y,qaj _ hy,rfl⟩
theorem Gu(A:Dev):A.less.B=A.B:=by
 unfold Dev.less
 split
 .rfl
 .split <;> rfl
theorem VS{A:Dev}(h:Wf A):Wf A.less:=by
 have h1:=h.left;have h2:=h.left2;unfold Dev.less
 split
 .exact⟨h.lo,h.hi,h.left,h.left2,h.sure,h.loose⟩
 .split
  .exact h
  .exact⟨h.lo,h.hi,by dsimp only;omega,by dsimp only;omega,h.sure,h.loose⟩
theorem Ks{A:Dev}(h:Wf A){p:Byt × List Byt}(hp:p∈A.B):(stands p).length=512:=by
 unfold stands
 cases hl:p.2.getLast? with
 |none=>exact h.sure p hp
 |some b=>exact h.loose p hp b (List.mem_of_getLast? hl)
theorem Alj{A:Dev}(h:Wf A){k:Nat}{b:Byt}(hb:b.length=512):Wf (Pc A k b):=by
 refine⟨by simpa[Pc]using h.lo,by simpa[Pc]using h.hi,h.left,h.left2,fun p hp=>?_,fun p hp x hx=>?_⟩
 .rcases Lh hp with hp|⟨y,hy,rfl⟩
  .exact h.sure p hp
  .exact h.sure y hy
 .rcases Lh hp with hp|⟨y,hy,rfl⟩
  .exact h.loose p hp x hx
  .simp only[qat,qaa]at hx
   rcases hx with hx|rfl
   .exact h.loose y hy x hx
   .exact hb
theorem Ah9{A:Dev}(h:Wf A):Wf (Io A):=by
 refine⟨by simpa[Io]using h.lo,by simpa[Io]using h.hi,h.left,h.left2,fun p hp=>?_,fun p hp x hx=>?_⟩
 .obtain⟨y,hy,rfl⟩:=qah.1 hp;exact Ks h hy
 .obtain⟨y,hy,rfl⟩:=qah.1 hp;simp at hx
theorem Aia{A:Dev}(h:Wf A){p:Byt × List Byt}(hp:p∈A.B)(x:Nat):(Pd p x).length=512:=by
 unfold Pd
 split
 .exact h.sure p hp
 .rw[qa9]
  cases hx:p.2[x - 1]? with
  |none=>exact h.sure p hp
  |some b=>exact h.loose p hp b (qad hx)
theorem GN(l:List (Byt × List Byt))(picks:List Int):(En l picks).length=l.length:=by
 induction l generalizing picks with
 |nil=>rfl
 |cons p l ih=>unfold En;split <;> simp[ih]
theorem Pe{l:List (Byt × List Byt)}{picks:List Int}{q:Byt × List Byt}(h:q∈En l picks):q.2=[]/\∃p∈l,∃x,q.1=Pd p x:=by
 induction l generalizing picks with
 |nil=>simp[En]at h
 |cons p l ih =>
  unfold En at h
  split at h
  .rw[qac]at h
   rcases h with rfl|h
   .exact⟨rfl,p,qaf ..,0,rfl⟩
   .obtain⟨h1,y,hy,h2⟩:=ih h;exact⟨h1,y,qaj _ hy,h2⟩
  .rw[qac]at h
   rcases h with rfl|h
   .exact⟨rfl,p,qaf ..,_,rfl⟩
   .obtain⟨h1,y,hy,h2⟩:=ih h;exact⟨h1,y,qaj _ hy,h2⟩
theorem Apc{n:Nat}(h1:1<=n:=by omega)(h2:n<=4096:=by omega):Wf (Fu n):=by
 refine⟨by simpa[Fu]using h1,by simpa[Fu]using h2,by show(-1:Int) <= -1;omega,by show(-1:Int)<=_;omega,fun p hp=>?_,fun p hp x hx=>?_⟩
 .rw[(qed.1 hp).2];exact qa8
 .rw[(qed.1 hp).2]at hx;cases hx
theorem Apd{A:Dev}(h:Wf A):Wf (KF A):=⟨h.lo,h.hi,h.left,h.left2,h.sure,h.loose⟩
theorem on_wf{A:Dev}(h:Wf A)(picks:List Int):Wf (onD A picks):=by
 unfold onD;cases A.on
 .refine⟨by show 1<=(En A.B picks).length;rw[GN];exact h.lo,by show(En A.B picks).length<=4096;rw[GN];exact h.hi,by show(-1:Int) <= -1;omega,by show(-1:Int)<=_;omega,fun p hp=>?_,fun p hp x hx=>?_⟩
  .obtain⟨_,y,hy,x,hx⟩:=Pe hp;rw[hx];exact Aia h hy x
  .rw[(Pe hp).1]at hx;cases hx
 .exact h
theorem Few.mono{A:Dev}{m m':Nat}(h:Few A m)(hm:m<=m'):Few A m':=fun p hp=>qaw (h p hp) hm
theorem JP{A:Dev}{m:Nat}(h:Few A m):Few A.less m:=fun p hp=>h p (by rwa [Gu]at hp)
theorem Hv{A:Dev}{m:Nat}(h:Few A m)(k:Int)(b:Byt):Few (CD A k b) (m+1):=by
 unfold CD;cases A.on && (A.has k && decide (b.length=512))
 .exact h.mono (by omega)
 .cases A.goes
  .intro p hp
   rcases Lh hp with hp|⟨y,hy,rfl⟩
   .have:=JP h p hp;omega
   .have:=JP h y hy;simp only[qan,qbu];omega
  .exact(JP h).mono (by omega)
theorem IF{A:Dev}{m:Nat}(h:Few A m):Few (Cq A) m:=by
 unfold Cq;cases A.on
 .exact h
 .cases A.goes
  .intro p hp;obtain⟨y,_,rfl⟩:=qah.1 hp;exact qak _
  .exact JP h
def All2{α β:Type}(R:α->β->Prop)(xs:List α)(ys:List β):Prop:=xs.length=ys.length/\∀(i:Nat) (x:α) (y:β),xs[i]?=some x->ys[i]?=some y->R x y
def BytesAt(w:World)(role:Nat->Nat)(v:Value)(s:Byt):Prop:=∃a c,v=.slice a 512 c/\Rd w a 1 B8 s/\s.length=512/\role (adr a).block=4/\512<=c
def SureAt(w:World)(role:Nat->Nat)(v:Value)(s:Byt):Prop:=(v=.slice none 0 0/\s=zeros)\/BytesAt w role v s
def LooseAt(w:World)(role:Nat->Nat)(k:Nat)(v:Value)(l:List Byt):Prop :=
 ∃a n c full vs,v=.slice a n c/\OS a n c 1 full vs/\(∀x∈ent a 24 full,w.heap[x.1]?=some x.2/\role x.1=5+k)/\All2 (BytesAt w role) vs l
def DB(n bs bm:Nat)(left:Int)(on:Bool):List Value:=[.slice (some ⟨bs,0,none⟩) n n,.map (some bm),.int .i64 left,.bool (!on)]
def TD:Nat:=72
def nilS:Value := .slice none 0 0
structure DevR(w:World)(bd:Nat)(A:Dev)(role:Nat->Nat)(bs bm:Nat)(sv:List Value)(m:List (Int × Value))(o:Obj):Prop where
 lt:∀x,role x≠0->x<w.heap.size
 rd:role bd=1
 rs:role bs=2
 rm:role bm=3
 hd:w.heap[bd]?=some (Bl TD (DB A.B.length bs bm A.left A.on))
 hs:w.heap[bs]?=some (Bl 24 sv)
 hm:w.heap[bm]?=some o
 hM:Ki .i64 m o
 nd:(m.map (·.1)).Nodup
 keys:∀k v,EW m k=some v->∃i:Nat,k=i/\i<A.B.length
 len:sv.length=A.B.length
 part:∀i p,A.B[i]?=some p->(∃v,sv[i]?=some v/\SureAt w role v p.1)/\LooseAt w role i ((EW m i).getD nilS) p.2/\((EW m i).isSome=true↔p.2≠[])
 wf:Wf A
def DevAt(w:World)(bd:Nat)(A:Dev)(F:Nat->Prop):Prop:=∃role bs bm sv m o,DevR w bd A role bs bm sv m o/\∀x,role x≠0->F x
def Turn(F:Nat->Prop)(w w':World):Prop:=∃S,(∀x∈S,F x)/\Ext S w w'
def grow(F:Nat->Prop)(w w':World):Nat->Prop:=fun x=>F x\/(w.heap.size<=x/\x<w'.heap.size)
theorem Turn.size{F:Nat->Prop}{w w':World}(h:Turn F w w'):w.heap.size<=w'.heap.size:=let ⟨_,_,h⟩:=h;h.size
theorem Turn.of{F:Nat->Prop}{w w':World}{S:List Nat}(h:Ext S w w')(hS:∀x∈S,F x):Turn F w w':=⟨S,hS,h⟩
theorem Turn.of0{F:Nat->Prop}{w w':World}(h:Ext [] w w'):Turn F w w':=⟨[],by simp,h⟩
theorem Turn.trans{F G:Nat->Prop}{a b c:World}(h:Turn F a b)(k:Turn G b c)(hG:∀x,G x->F x\/a.heap.size<=x):Turn F a c:=by
 obtain⟨S,hS,h⟩:=h;obtain⟨T,hT,k⟩:=k
 classical
 refine⟨S++T.filter (fun x=>decide (x<a.heap.size)),fun x hx=>?_,(h.mono (by intro x hx;simp[hx])).then k fun x hx=>?_⟩
 .rw[qat,qbj]at hx
  rcases hx with hx|⟨hx,hlt⟩
  .exact hS x hx
  .rcases hG x (hT x hx)with h|h
   .exact h
   .rw[qaq]at hlt;omega
 .by_cases hlt:x<a.heap.size
  .exact .inl (qax _ (qbj.2 ⟨hx,qal hlt⟩))
  .exact .inr (by omega)
theorem BytesAt.keep{w w':World}{role role':Nat->Nat}{v:Value}{s:Byt}{S:List Nat}(h:BytesAt w role v s)(hx:Ext S w w')(hS:∀x∈S,role x≠4)(hr:∀x,role x=4->role' x=4):BytesAt w' role' v s:=by
 obtain⟨a,c,rfl,R,hl,h4,hc⟩:=h;exact⟨a,c,rfl,R.ext hx fun h=>hS _ h h4,hl,hr _ h4,hc⟩
theorem SureAt.keep{w w':World}{role role':Nat->Nat}{v:Value}{s:Byt}{S:List Nat}(h:SureAt w role v s)(hx:Ext S w w')(hS:∀x∈S,role x≠4)(hr:∀x,role x=4->role' x=4):SureAt w' role' v s :=
 h.elim .inl fun h => .inr (h.keep hx hS hr)
theorem LooseAt.keep{w w':World}{role role':Nat->Nat}{k:Nat}{v:Value}{l:List Byt}{S:List Nat}(h:LooseAt w role k v l)(hx:Ext S w w')(hS:∀x∈S,role x≠4/\role x≠5+k)(hr:∀x,role x=4->role' x=4)(hr5:∀x,role x=5+k->role' x=5+k):LooseAt w' role' k v l:=by
 obtain⟨a,n,c,full,vs,rfl,O,hb,h2,h3⟩:=h;refine⟨a,n,c,full,vs,rfl,O,fun x hx'=>?_,h2,fun i x y h4 h5=>(h3 i x y h4 h5).keep hx (fun x h=>(hS x h).1) hr⟩;obtain⟨h6,h7⟩:=hb x hx';exact⟨by rw[hx.block x.1 (Al h6) fun h=>(hS _ h).2 h7];exact h6,hr5 _ h7⟩
theorem DevAt.keep{w w':World}{bd:Nat}{A:Dev}{F:Nat->Prop}(h:DevAt w bd A F){S:List Nat}(hx:Ext S w w')(hS:∀x∈S,¬F x):DevAt w' bd A F:=by
 obtain⟨role,bs,bm,sv,m,o,D,hF⟩:=h;have hS':∀x∈S,role x=0:=fun x hx=>Classical.byContradiction fun h=>hS x hx (hF x h)
 have hb:∀{b:Nat} {o:Obj},w.heap[b]?=some o->role b≠0->w'.heap[b]?=some o:=fun{b o} h1 h2=>by
  rw[hx.block b (Al h1) fun h=>h2 (hS' b h)];exact h1
 refine⟨role,bs,bm,sv,m,o,⟨fun x h=>qau (D.lt x h) hx.size,D.rd,D.rs,D.rm,hb D.hd (by rw[D.rd];decide),hb D.hs (by rw[D.rs];decide),hb D.hm (by rw[D.rm];decide),D.hM,D.nd,D.keys,D.len,fun i p hp=>?_,D.wf⟩,hF⟩;obtain⟨⟨v,h1,h2⟩,h3,h4⟩:=D.part i p hp;exact⟨⟨v,h1,h2.keep hx (fun x h=>by rw[hS' x h];decide) fun _ h=>h⟩,h3.keep hx (fun x h=>by rw[hS' x h];omega) (fun _ h=>h) (fun _ h=>h),h4⟩
theorem DevAt.keep0{w w':World}{bd:Nat}{A:Dev}{F:Nat->Prop}(h:DevAt w bd A F)(hx:Ext [] w w'):DevAt w' bd A F:=h.keep hx (by simp)
theorem DevAt.mono{w:World}{bd:Nat}{A:Dev}{F G:Nat->Prop}(h:DevAt w bd A F)(hG:∀x,F x->G x):DevAt w bd A G :=
 let ⟨role,bs,bm,sv,m,o,D,hF⟩:=h;⟨role,bs,bm,sv,m,o,D,fun x hx=>hG x (hF x hx)⟩
theorem DevAt.wf{w:World}{bd:Nat}{A:Dev}{F:Nat->Prop}(h:DevAt w bd A F):Wf A:=let ⟨_,_,_,_,_,_,D,_⟩:=h;D.wf
@[simp] theorem DB_len (n bs bm:Nat) (left:Int) (on:Bool):(DB n bs bm left on).length=4:=rfl
def ptr(b:Nat):Value := .pointer (some ⟨b,0,none⟩)
theorem DevR.turn{w w':World}{bd:Nat}{A A':Dev}{role:Nat->Nat}{bs bm:Nat}{sv:List Value}{m:List (Int × Value)}{o:Obj}(D:DevR w bd A role bs bm sv m o)(hx:Ext [bd] w w')(hd:w'.heap[bd]?=some (Bl TD (DB A'.B.length bs bm A'.left A'.on)))(hB:A'.B=A.B)(wf:Wf A'):DevR w' bd A' role bs bm sv m o:=by
 have hb:∀{b:Nat} {o:Obj},w.heap[b]?=some o->role b≠1->w'.heap[b]?=some o:=fun{b o} h1 h2=>by
  rw[hx.block b (Al h1) fun h=>h2 (by rw[qaa.1 h];exact D.rd)];exact h1
 refine⟨fun x h=>qau (D.lt x h) hx.size,D.rd,D.rs,D.rm,hd,hb D.hs (by rw[D.rs];decide),hb D.hm (by rw[D.rm];decide),D.hM,D.nd,fun k v h=>by rw[hB];exact D.keys k v h,by rw[hB];exact D.len,fun i p hp=>?_,wf⟩;rw[hB]at hp;obtain⟨⟨v,h1,h2⟩,h3,h4⟩:=D.part i p hp;have hs:∀x∈[bd],role x=1:=fun x h=>by rw[qaa.1 h];exact D.rd
 exact⟨⟨v,h1,h2.keep hx (fun x h=>by rw[hs x h];decide) fun _ h=>h⟩,h3.keep hx (fun x h=>by rw[hs x h];omega) (fun _ h=>h) (fun _ h=>h),h4⟩
theorem VT{w:World}{bd n bs bm:Nat}{left:Int}{on:Bool}(h:w.heap[bd]?=some (Bl TD (DB n bs bm left on))) :
  Ret prog 59 #[ptr bd] w fun v w'=>v=.int .i64 (bif on then 0 else 8)/\w=w':=by
 obtain⟨w0,rfl⟩:=qD w;have H:=Ctx.start1 h;refine A8 (fn:=f59) func59 U [.pointer (some ⟨bd,0,none⟩)] U ?_;refine Ad (Ac U (qA (Ar (AB (Ad (An U (BU MK U ?_)))))));refine Am U (qA (Bz U (Ad (An U (A7 U (Af Ma U (AH Ge U H at0 U (Am U (qA ?_)))))))));refine Av _ U ?_ ?_
 .intro h1;refine Ad (Ac U (qA (A6 (AK (Ao (AG (v:=(.int _ _)) U U U ?_))))));exact⟨by cases on <;> simp_all,rfl⟩
 .intro h2;refine Ap (AE (Aa (Ad (Ac U (qA (A6 (AG (v:=(.int _ _)) U U U ?_)))))));exact⟨by cases on <;> simp_all,rfl⟩
theorem Abm{w:World}{bd n bs bm:Nat}{left:Int}{on:Bool}(k:Int)(h:w.heap[bd]?=some (Bl TD (DB n bs bm left on))) :
  Ret prog 105 #[ptr bd,.int .i64 k] w fun v w'=>v=.bool (decide (0<=k) && decide (k<n))/\w=w':=by
 obtain⟨w0,rfl⟩:=qD w;have H:=Ctx.start1 h;refine A8 (fn:=f105) func105 U [.pointer (some ⟨bd,0,none⟩),.int .i64 k] U ?_;refine Ad (Am U (qA (Ad (Ae U (Ie U U (AF U (AQ 7 U ?_ ?_)))))))
 .intro h1;replace h1:=AR h1;refine Ae U (An U (A7 U (Af NI U (AH Uy U H at0 U (AO EZ U (Bj U U (AN U (.bool _) U (Am U (qA ?_)))))))));refine A6 (AG (v:=(.bool _)) U U U ?_);exact⟨qab Value.bool (by simp_all;try omega),rfl⟩
 .intro h2;replace h2:=AU h2;refine Ag U (Ag U (Ag U (Ag U (Ag U (Ag U (Ag U (AM U (.bool _) U (Am U (qA ?_)))))))));refine A6 (AG (v:=(.bool _)) U U U ?_);exact⟨qab Value.bool (by simp_all;try omega),rfl⟩
theorem Hf{w:World}{bd n bs bm:Nat}{left:Int}{on:Bool}(h:w.heap[bd]?=some (Bl TD (DB n bs bm left on))) :
  Ret prog 71 #[ptr bd] w fun v w'=>v=.int .i64 n/\w=w':=by
 obtain⟨w0,rfl⟩:=qD w;have H:=Ctx.start1 h;refine A8 (fn:=f71) func71 U [.pointer (some ⟨bd,0,none⟩)] U ?_;refine Ad (Ac U (qA (Ar (Ad (An U (BU MK U ?_))))));refine qA (Bz U (Ap (Aa (Ad (An U (A7 U (Af NI U (AH Uy U H at0 U (AO EZ U (Ac U ?_))))))))));refine qA (A6 (AG (v:=(.int _ _)) U U U ?_));exact⟨rfl,rfl⟩
theorem U8{w:World}{bd n bs bm:Nat}{left:Int}{on:Bool}(h:w.heap[bd]?=some (Bl TD (DB n bs bm left on))) :
  Ret prog 28 #[ptr bd] w fun v w'=>v=.bool on/\w=w':=by
 obtain⟨w0,rfl⟩:=qD w;have H:=Ctx.start1 h;refine A8 (fn:=Tryz.f28) func28 U [.pointer (some ⟨bd,0,none⟩)] U ?_;refine Ad (Am U (qA (Ad (An U (Uq U MK U ?_)))));refine AF U (An U (A7 U (Af Ma U (AH Ge U H at0 U (Cl U (AN U (.bool _) U (Am U (qA (A6 (AG (v:=(.bool _)) U U U ?_))))))))));exact⟨qab Value.bool (Bool.not_not on),rfl⟩
theorem Sq{w:World}{bd:Nat}{A:Dev}{role:Nat->Nat}{bs bm:Nat}{sv:List Value}{m:List (Int × Value)}{o:Obj}(D:DevR w bd A role bs bm sv m o) :
  Ret prog 95 #[ptr bd] w fun v w'=>v=.int .i64 (bif A.goes then 8 else 0)/\DevR w' bd A.less role bs bm sv m o/\Ext [bd] w w':=by
 obtain⟨w0,rfl⟩:=qD w;have H:=Ctx.start1 D.hd;have h1:=D.wf.left;have h2:=D.wf.left2;refine A8 (fn:=f95) func95 U [.pointer (some ⟨bd,0,none⟩)] U ?_;refine Ad (Ac U (qA (Ar (Ad (An U (A7 U (Af Q2 U (AH DV U H at0 U (qA ?_)))))))));refine AB (Ad (BA U U (Am U (qA (Av _ U ?_ ?_)))))
 .intro h3;replace h3:=AR h3;have hl:A.less=A:=by unfold Dev.less;rw[if_neg (by omega),if_pos (by omega)]
  refine Ap (AE (Aa (Ad (Ac U (qA (A6 (AG (v:=(.int _ _)) U U U ?_)))))));exact⟨by rw[Dev.goes,qag (by omega)];rfl,by rw[hl];exact D,H.ext⟩
 .intro h3;replace h3:=AU h3;refine Ad (BA U U (Am U (qA (Av _ U ?_ ?_))))
  .intro h4;replace h4:=AR h4;have hl:A.less=⟨A.B,A.left,false⟩:=by unfold Dev.less;rw[if_pos (by omega)]
   refine Ad (An U (A7 U (Af Ma U (Bf (.bool _) Ahq U U U H at0 (by(simp;done)) ?_))));rintro w H;refine qA (Ad (Ac U (qA (A6 (AK (Ao (AG (v:=(.int _ _)) U U U ?_)))))));exact⟨by rw[Dev.goes,qal (by omega)];rfl,D.turn H.ext (by rw[hl];exact H.get at0) (Gu A) (VS D.wf),H.ext⟩
  .intro h4;replace h4:=AU h4;have hl:A.less=⟨A.B,A.left - 1,A.on⟩:=by unfold Dev.less;rw[if_neg (by omega),if_neg (by omega)]
   refine Au (An U (A7 U (Af Q2 U (AH DV U H at0 U (BD U U ?_)))));refine A7 U (Af Q2 U (Bf (.int _ _) HN U U U H at0 (by(simp;done)) ?_));rintro w H;refine Ab (AE (Aa (Ad (Ac U (qA (A6 (AG (v:=(.int _ _)) U U U ?_)))))));exact⟨by rw[Dev.goes,qag (by omega)];rfl,D.turn H.ext (by rw[hl];exact H.get at0) (Gu A) (VS D.wf),H.ext⟩
theorem Alk{w:World}{bd:Nat}{A:Dev}{F:Nat->Prop}(DA:DevAt w bd A F) :
  Ret prog 17 #[ptr bd] w fun v w'=>v=.int .i64 (armE A)/\DevAt w' bd (KF A) F/\Turn F w w':=by
 obtain⟨w0,rfl⟩:=qD w;obtain⟨role,bs,bm,sv,m,o,D,hF⟩:=DA;have hFd:∀x∈[bd],F x:=fun x h=>hF x (by rw[qaa.1 h,D.rd];decide);have H:=Ctx.start1 D.hd;refine A8 (fn:=Tryz.f17) func17 U [.pointer (some ⟨bd,0,none⟩)] U ?_;refine Ad (Ac U (qA (Ad (An U (Aj qB (VT (H.get at0)) U ?_)))));rintro v w ⟨rfl,rfl⟩;refine Ac U (qA (Ar (Ad (Ae U (BA U U (qA (Av _ U ?_ ?_)))))))
 .intro h1;replace h1:=AR h1;have ho:A.on=true:=by cases h:A.on <;> simp_all
  refine Au (An U (A7 U (Af Ma U (Bf (.bool _) Ahq U U U H at0 (by(simp;done)) ?_))));rintro w H;refine qA (Ad (Ae U (Ac U (qA (A6 (AG (v:=(.int _ _)) U U U ?_))))));exact⟨by rw[armE,ho],⟨role,bs,bm,sv,m,o,D.turn H.ext (H.get at0) rfl (Apd D.wf),hF⟩,.of H.ext hFd⟩
 .intro h1;replace h1:=AU h1;have ho:A.on=false:=by cases h:A.on <;> simp_all
  refine Ap (Aa (Ad (Ae U (Ac U (qA (A6 (AG (v:=(.int _ _)) U U U ?_)))))));have he:KF A=A:=by rw[KF,<-ho]
  exact⟨by rw[armE,ho],⟨role,bs,bm,sv,m,o,by rw[he];exact D,hF⟩,.of H.ext hFd⟩
theorem All(n:Int)(w:World) :
  Ret prog 9 #[.int .i64 n] w fun v w'=>Ext [] w w'/\((Ah8 n=1/\v=.tuple #[.pointer none,.int .i64 1]) \/
   (Ah8 n=0/\1<=n/\n<=4096/\∃bd,v=.tuple #[ptr bd,.int .i64 0]/\DevAt w' bd (Fu n.toNat) fun x=>w.heap.size<=x/\x<w'.heap.size)):=by
 obtain⟨w0,rfl,H⟩:=qE w;refine A8 (fn:=Tryz.f9) func9 U [.int .i64 n] U ?_;refine Ad (B7 U (Ac U (qA (Ar (Ad (BG (α:=Unit) 1008 (fun _=>[(9,.bool (decide (n<1) || decide (4096<n)))]) (fun _ w'=>Ctx w0 [] w' []) U ?_ ?_))))))
 .refine Ae U (Bj U U (AF U (AQ 6 U ?_ ?_)))
  .intro h1;replace h1:=AR h1;refine Ag U (Ag U (AN U (.bool _) U (Ab ?_)));exact⟨rfl,(),rfl,⟨qab Value.bool (by rw[qar];simp_all;try omega),trivial⟩,H⟩
  .intro h2;replace h2:=AU h2;refine Ae U (BZ U U (AM U (.bool _) U (Ab ?_)));exact⟨rfl,(),rfl,⟨qab Value.bool (by rw[qar];simp_all;try omega),trivial⟩,H⟩
 rintro - j9 w H;refine Av _ U ?_ ?_
 .intro h1;refine Ad (B7 U (Ac U (qA (A6 (Ao (Cs (v1:=(.pointer _)) (v2:=(.int _ _)) U U U U ?_))))));exact⟨H.ext,.inl ⟨by rw[Ah8,h1];rfl,rfl⟩⟩
 .intro h1;have h2:1<=n/\n<=4096:=by simp only[qdy,qct]at h1;omega
  refine Ap (Aa (Ad (Ae U (Q0 U EZ Gg Agm U3 U U H ?_))));rintro b11 w - H;refine QX .i64 U H ?_;rintro b12 o12 w hM H;refine B5 [.slice (some ⟨b11,0,none⟩) n.toNat n.toNat,.map (some b12),.int .i64 (-1),.bool false] pl_72 zc_72 ?_;refine Cu _ (.agg _) U U H ?_;rintro b14 w - H;refine B7 U (Ac U (qA (A6 (Cs (v1:=(.pointer _)) (v2:=(.int _ _)) U U U U ?_))));have e1:b14≠b12:=H.ne at0 at1 (by decide);have e2:b14≠b11:=H.ne at0 at2 (by decide);have e3:b12≠b11:=H.ne at1 at2 (by decide);have own:∀{k b:Nat} {o:Obj},[(b14,_),(b12,o12),(b11,_)][k]?=some (b,o)->w0.heap.size<=b/\b<w.heap.size:=fun{k b o} hk=>⟨(H.own _ (qad hk)).elim (fun h=>by cases h) id,Al (H.get hk)⟩
  have hr:∀x,(if x=b14 then 1 else if x=b11 then 2 else if x=b12 then 3 else 0)≠0->w0.heap.size<=x/\x<w.heap.size:=by
   intro x hx
   by_cases h14:x=b14
   .rw[h14];exact own at0
   .by_cases h11:x=b11
    .rw[h11];exact own at2
    .by_cases h12:x=b12
     .rw[h12];exact own at1
     .rw[if_neg h14,if_neg h11,if_neg h12]at hx;exact absurd rfl hx
  have hln:(Fu n.toNat).B.length=n.toNat:=qa8;refine⟨H.ext,.inr ⟨by rw[Ah8,h1];rfl,h2.1,h2.2,b14,rfl,fun x=>if x=b14 then 1 else if x=b11 then 2 else if x=b12 then 3 else 0,b11,b12,List.replicate n.toNat nilS,[],o12,⟨fun x h=>(hr x h).2,if_pos rfl,?_,?_,?_,H.get at2,H.get at1,hM,qcb,fun k v h=>(by cases h),by rw[hln];exact qa8,fun i p hp=>?_,Apc⟩,hr⟩⟩
  .rw[if_neg (Ne.symm e2),if_pos rfl]
  .rw[if_neg (Ne.symm e1),if_neg e3,if_pos rfl]
  .rw[hln];exact H.get at0
  .obtain⟨hi,rfl⟩:=qap.1 hp;have hi':i<n.toNat:=by rw[hln]at hi;exact hi
   have hpe:(Fu n.toNat).B[i]=(zeros,[]):=List.getElem_replicate _;rw[hpe];refine⟨⟨nilS,by rw[qee,if_pos hi'],.inl ⟨rfl,rfl⟩⟩,⟨none,0,0,[],[],rfl,OS.nil,by simp[ent],rfl,fun j x y h=>by cases h⟩,by simp[QW]⟩
theorem Ctx.startL{w:World}{L:List (Nat × Obj)}(h:∀x∈L,w.heap[x.1]?=some x.2)(nd:L.Pairwise fun x y=>x.1≠y.1):Ctx w (L.map (·.1)) w L :=
 ⟨.refl _ _,h,nd,fun x hx => .inl (qah.2 ⟨x,hx,rfl⟩)⟩
theorem U9(s:Byt)(h:s.length=512):over (List.replicate 512 (Value.int .u8 0)) 0 ((s.map bv).take 512)=s.map bv:=by
 have h1:=WF [] (List.replicate 512 (Value.int .u8 0)) [] (s.map bv) (by rw[qa8,qai,h]);simp only[qa7,qa3,qby]at h1;rw[qa6 (by rw[qai,h];exact qae _)];exact h1
theorem Alm:over (List.replicate 512 (Value.int .u8 0)) 0 (([]:Byt).map bv |>.take 512)=zeros.map bv:=by
 rw[zeros,List.map_replicate];rfl
theorem Ape{ts s:Byt}(h:ts=s\/ts=[]/\s=zeros)(hl:s.length=512):over (List.replicate 512 (Value.int .u8 0)) 0 ((ts.map bv).take 512)=s.map bv:=by
 rcases h with rfl|⟨rfl,rfl⟩
 .exact U9 _ hl
 .exact Alm
theorem Ctx.fresh_bl{w0 w:World}{b t n:Nat}{l:List Value}(H:Ctx w0 [] w [(b,Bl t l)])(hl:l.length=n):Fresh w0 w t 1 (.slice (some ⟨b,0,none⟩) n n) l :=
 Ctx.fresh (L:=[]) H ⟨fun p hp=>(by cases hp;rfl),fun h=>(by cases h),by rw[hl,qcj],qae _,by rw[qcj,<-hl];exact qbf⟩
theorem Abn{A:Dev}{k:Int}(h:A.has k=true):∃q:Nat,k=q/\q<A.B.length:=by
 simp only[Dev.has,qao,qaq]at h;exact⟨k.toNat,by omega,by omega⟩
theorem Zz{w:World}{role:Nat->Nat}{v:Value}{s:Byt}(h:SureAt w role v s):∃a c t,v=.slice a (List.length t) c/\Rd w a 1 B8 t/\(t=s\/t=[]/\s=zeros):=by
 rcases h with⟨rfl,rfl⟩|⟨a,c,rfl,R,hl,_,_⟩
 .exact⟨none,0,[],rfl,Rd.nil,.inr ⟨rfl,rfl⟩⟩
 .exact⟨a,c,s,by rw[hl],R,.inl rfl⟩
theorem Ss{w:World}{bd:Nat}{A:Dev}{F:Nat->Prop}(k:Int){mx:Nat}(hfew:Few A mx)(DA:DevAt w bd A F)(hmx:mx<=1000000000000:=by omega):
  Ret prog 72 #[ptr bd,.int .i64 k] w fun v w'=>∃s,v=.tuple #[s,.int .i64 (GL A k)]/\Fresh w w' 5 1 s ((GM A k).map bv):=by
 obtain⟨w0,rfl⟩:=qD w;obtain⟨role,bs,bm,sv,m,o,D,hF⟩:=DA;have H:=Ctx.start w0 [];refine A8 (fn:=f72) func72 U [.pointer (some ⟨bd,0,none⟩),.int .i64 k] U ?_;refine Ad (Ak U (Ac U (qA (Ar (Ad (An U (Aj qB (VT (Ctx.oldb H D.hd)) U ?_)))))));rintro v w ⟨rfl,rfl⟩;refine Ac U (qA (Ad (Ae U (Be U U (qA (Av _ U ?_ ?_))))))
 .intro h1;replace h1:=Bv h1;have ho:A.on=false:=by cases h:A.on <;> simp_all
  have he:GL A k=8:=by rw[GL,ho];rfl
  refine Ad (Ae U (Ak U (Ac U (qA (A6 (Ao (Cs (v1:=(.slice _ _ _)) (v2:=(.int _ _)) U U U U ?_)))))));refine⟨_,by rw[he,ho];rfl,?_⟩;rw[GM,he];exact Fresh.nil H _ _
 .intro h1;replace h1:=Bw h1;have ho:A.on=true:=by cases h:A.on <;> simp_all
  refine Ap (Aa (Ar (Ad (An U (Ae U (Aj qB (Abm k (Ctx.oldb H D.hd)) U ?_))))));rintro v w ⟨rfl,rfl⟩;rw[show(decide (0<=k) && decide (k<(A.B.length:Int)))=A.has k from rfl];refine Cl U (qA (Av _ U ?_ ?_))
  .intro h2;replace h2:=C8 h2;have he:GL A k=1:=by rw[GL,ho,h2];rfl
   refine Ad (Ak U (Ac U (qA (A6 (Ao (Cs (v1:=(.slice _ _ _)) (v2:=(.int _ _)) U U U U ?_))))));refine⟨_,by rw[he],?_⟩;rw[GM,he];exact Fresh.nil H _ _
  .intro h2;replace h2:=CA h2;have he:GL A k=0:=by rw[GL,ho,h2];rfl
   obtain⟨q,rfl,hq⟩:=Abn h2;obtain⟨p,hp⟩:∃p,A.B[q]?=some p:=⟨_,qbe hq⟩;have hpm:=qad hp
   have hbe:GM A q=stands p:=by
    rw[GM,he,show((q:Int)).toNat=q from rfl,qa9,hp];rfl
   have hst:=Ks D.wf hpm;obtain⟨⟨v0,hv0,hsure⟩,⟨al,nl,cl,fl,vs,hvl,O,hent,hvs⟩,_⟩:=D.part q p hp;have Rs:=An8 D.hs;have Rl:=OS.rdV O fun x hx=>(hent x hx).1;have hnl:nl=vs.length:=by have:=O.llen;omega
   have hll:=hfew p hpm;have hvn:=hvs.1;obtain⟨a0,c0,ts,rfl,R0,hts⟩:=Zz hsure;refine Ap (Aa (Ad (An U (A7 U (Af NI U (Bd Uy U (H.old0 (Aq D.hd _)) ?_))))));refine Ae U (Ca EZ Gg U U ?_);refine Bd B1 U ((Rs.ext0 H.ext).one (f:=fun v=>v) hv0) (Ak U (qA (Ar (Ad (An U (A7 U (Af Ko U (Bd RP U (H.old0 (Aq D.hd _)) ?_))))))));refine Ae U (Ru U U0 Gs Ahv U U (Ctx.oldb H D.hm) D.hM ?_);rw[show((EW m (q:Int)).getD (.slice none 0 0))=.slice al nl cl from hvl];refine Ak U (qA (Ad (Ah U (AO EZ U (BZ U U (qA (Av _ U ?_ ?_)))))))
   .intro h3;replace h3:=AR h3;obtain⟨b,hb⟩:∃b,p.2[nl - 1]?=some b:=⟨_,qbe (by omega)⟩;obtain⟨vb,hvb⟩:∃v,vs[nl - 1]?=some v:=⟨_,qbe (by omega)⟩;obtain⟨ab,cb,rfl,Rb,hbl,_,_⟩:=hvs.2 _ _ _ hvb hb
    have hstb:stands p=b:=by
     rw[stands,List.getLast?_eq_getElem?,show p.2.length - 1=nl - 1 by omega,hb];rfl
    refine Au (Ah U (Ah U (AO EZ U (BD U U ?_))));rw[show((nl:Int) - 1)=((nl - 1:Nat):Int)by omega];refine AY Rl EZ Gg U U (Bd B1 U ((Rl.ext0 H.ext).one (f:=fun v=>v) hvb) ?_);refine Ak U (qA (Ad (Q0 U AX CJ OZ IW U U H ?_)));rintro b41 w - H;refine Ak U (qA (Ad (Ah U (Ah U (Q1 (b.map bv) U AX CJ U U (by simp[hbl]) (Ht _) (Rd.appB (Rb.ext0 H.ext)) (show Ctx w0 [] w [(b41,Bl 5 (List.replicate 512 (Value.int .u8 0)))]from H) at0 (by rw[qa8];exact qae _) ?_)))));rintro w H;replace H:Ctx w0 [] w [(b41,Bl 5 (over (List.replicate 512 (Value.int .u8 0)) 0 ((b.map bv).take 512)))]:=H;rw[U9 b hbl]at H;refine qA (Ad (Ah U (Ak U (Ac U (qA (A6 (Cs (v1:=(.slice _ _ _)) (v2:=(.int _ _)) U U U U ?_)))))))
    refine⟨_,by rw[he],?_⟩;rw[hbe,hstb];exact Ctx.fresh_bl H (by rw[qai,hbl];rfl)
   .intro h3;replace h3:=AU h3
    have hstb:stands p=p.1:=by
     have:p.2=[]:=qa4 (by omega)
     rw[stands,this];rfl
    refine Ap (Aa (Ad (Q0 U AX CJ OZ IW U U H ?_)));rintro b41 w - H;refine Ak U (qA (Ad (Ah U (Ah U (Q1 (ts.map bv) U AX CJ U U (by simp) (Ht _) (Rd.appB (R0.ext0 H.ext)) (show Ctx w0 [] w [(b41,Bl 5 (List.replicate 512 (Value.int .u8 0)))]from H) at0 (by rw[qa8];exact qae _) ?_)))));rintro w H;replace H:Ctx w0 [] w [(b41,Bl 5 (over (List.replicate 512 (Value.int .u8 0)) 0 ((ts.map bv).take 512)))]:=H;rw[Ape hts (by rw[<-hstb];exact hst)]at H;refine qA (Ad (Ah U (Ak U (Ac U (qA (A6 (Cs (v1:=(.slice _ _ _)) (v2:=(.int _ _)) U U U U ?_)))))));refine⟨_,by rw[he],?_⟩;rw[hbe,hstb];exact Ctx.fresh_bl H (by rw[qai,<-hstb,hst];rfl)
theorem All2.snoc{α β:Type}{R:α->β->Prop}{xs:List α}{ys:List β}{x:α}{y:β}(h:All2 R xs ys)(hxy:R x y):All2 R (xs++[x]) (ys++[y]):=by
 refine⟨by rw[qan,qan,h.1];rfl,fun i a b ha hb=>?_⟩
 by_cases hi:i<xs.length
 .rw[qdj hi]at ha;rw[qdj (by rw[<-h.1];exact hi)]at hb;exact h.2 i a b ha hb
 .have h2:=YX ha;rw[qan,qbu]at h2;have hi':i=xs.length:=by omega
  subst hi';rw[qc8 (qae _),qc1]at ha;rw[qc8 (by rw[h.1];exact qae _),h.1,qc1]at hb;cases ha;cases hb;exact hxy
theorem All2.imp{α β:Type}{R R':α->β->Prop}{xs:List α}{ys:List β}(h:All2 R xs ys)(hi:∀x y,R x y->R' x y):All2 R' xs ys:=⟨h.1,fun i x y hx hy=>hi x y (h.2 i x y hx hy)⟩
theorem Z1{α:Type}{m:List (Int × α)}{k:Int}{v:α}(h:(m.map (·.1)).Nodup):((JI m k v).map (·.1)).Nodup:=by
 induction m with
 |nil=>simp[JI]
 |cons p m ih =>
  unfold JI;rw[qaz,qck]at h
  by_cases hp:p.1=k
  .rw[if_pos hp,qaz,qck];exact⟨by rw[<-hp];exact h.1,h.2⟩
  .rw[if_neg hp,qaz,qck];refine⟨fun hm=>?_,ih h.2⟩
   rcases(Ac3 m k v p.1).1 hm with h1|h1
   .exact hp h1
   .exact h.1 h1
theorem DevR.write{wS w15:World}{bd:Nat}{A:Dev}{role:Nat->Nat}{bs bm:Nat}{sv:List Value}{m:List (Int × Value)}{o o':Obj}(D:DevR wS bd A role bs bm sv m o){k:Nat}(hk:k<A.B.length){arrs:List Nat}(ha:∀x∈arrs,role x=5+k)(hx:Ext (bm::arrs) wS w15)(hm15:w15.heap[bm]?=some o'){b9 n9 c9:Nat}{full9 vs:List Value}(hM:Ki .i64 (JI m k (.slice (some ⟨b9,0,none⟩) n9 c9)) o'){a39:Option Addr}{c39:Nat}{l:Byt}(O:OS (some ⟨b9,0,none⟩) n9 c9 1 full9 (vs++[.slice a39 512 c39]))(h9:w15.heap[b9]?=some (Bl 24 full9))(h9n:b9∈arrs\/wS.heap.size<=b9){p:Byt × List Byt}(hp:A.B[k]?=some p)(hvs:All2 (BytesAt wS role) vs p.2)(R39:Rd w15 a39 1 B8 l)(hl:l.length=512)(hc:512<=c39)(h39:wS.heap.size<=(adr a39).block)(h39':(adr a39).block≠b9)(h39lt:(adr a39).block<w15.heap.size)(wf:Wf (Pc A k l)):∃role',DevR w15 bd (Pc A k l) role' bs bm sv (JI m k (.slice (some ⟨b9,0,none⟩) n9 c9)) o'/\∀x,role' x≠0->role x≠0\/(wS.heap.size<=x/\x<w15.heap.size):=by
 obtain⟨role',hrole⟩:∃f:Nat->Nat,∀x,f x=if x=b9 then 5+k else if x=(adr a39).block then 4 else role x:=⟨_,fun _=>rfl⟩;have hr9:role' b9=5+k:=by rw[hrole,if_pos rfl]
 have hr39:role' (adr a39).block=4:=by rw[hrole,if_neg h39',if_pos rfl]
 have hold:∀x,role x≠0->role' x=role x:=fun x h0=>by
  have hlt:=D.lt x h0;rw[hrole]
  by_cases h:x=b9
  .rw[if_pos h]
   rcases h9n with h1|h1
   .rw[h,ha _ h1]
   .omega
  .rw[if_neg h,if_neg (by omega)]
 have hnew:∀x,role' x≠0->role x≠0\/(wS.heap.size<=x/\x<w15.heap.size):=fun x h0=>by
  rw[hrole]at h0
  by_cases h:x=b9
  .rcases h9n with h1|h1
   .exact .inl (by rw[h,ha _ h1];omega)
   .exact .inr (by rw[h];exact⟨h1,Al h9⟩)
  .rw[if_neg h]at h0
   by_cases h2:x=(adr a39).block
   .exact .inr (by rw[h2];exact⟨h39,h39lt⟩)
   .rw[if_neg h2]at h0;exact .inl h0
 have hS:∀x∈bm::arrs,role x=3\/role x=5+k:=fun x h=>by
  rcases qac.1 h with h|h
  .exact .inl (by rw[h];exact D.rm)
  .exact .inr (ha x h)
 have hb:∀{b:Nat} {o:Obj},wS.heap[b]?=some o->role b=1\/role b=2->w15.heap[b]?=some o:=fun{b o} h1 h2=>by
  rw[hx.block b (Al h1) fun h=>?_]
  .exact h1
  .rcases hS b h with h3|h3 <;> omega
 have k4:∀x,role x=4->role' x=4:=fun x h=>by rw[hold x (by omega),h]
 refine⟨role',⟨fun x h=>?_,by rw[hold _ (by rw[D.rd];decide),D.rd],by rw[hold _ (by rw[D.rs];decide),D.rs],by rw[hold _ (by rw[D.rm];decide),D.rm],?_,hb D.hs (.inr D.rs),hm15,hM,Z1 D.nd,fun k' v h=>?_,?_,fun i q hq=>?_,wf⟩,hnew⟩
 .rcases hnew x h with h|h
  .exact qau (D.lt x h) hx.size
  .exact h.2
 .rw[show(Pc A k l).B.length=A.B.length from qef ..];exact hb D.hd (.inl D.rd)
 .rw[show(Pc A k l).B.length=A.B.length from qef ..];rw[OT]at h
  by_cases hkk:k'=(k:Int)
  .exact⟨k,hkk,hk⟩
  .rw[if_neg hkk]at h;exact D.keys k' v h
 .rw[show(Pc A k l).B.length=A.B.length from qef ..];exact D.len
 .have hq':(A.B.modify k fun p=>(p.1,p.2++[l]))[i]?=some q:=hq;rw[qcq]at hq';rw[OT]
  by_cases hik:k=i
  .subst hik;rw[hp]at hq';simp only[if_pos,Option.map_eq_map,qbd,qbb]at hq';subst hq';obtain⟨⟨v,h1,h2⟩,_,_⟩:=D.part k p hp;refine⟨⟨v,h1,h2.keep hx (fun x h=>by rcases hS x h with h3|h3 <;> omega) k4⟩,?_,by simp⟩;rw[if_pos rfl,qdr];refine⟨_,_,_,full9,_,rfl,O,fun x hx'=>?_,All2.snoc (hvs.imp fun v s h=>h.keep hx (fun x h=>by rcases hS x h with h3|h3 <;> omega) k4) ⟨a39,c39,rfl,R39,hl,hr39,hc⟩⟩;rw[LU rfl,qaa]at hx';subst hx';exact⟨h9,hr9⟩
  .simp only[if_neg hik]at hq';have hq2:A.B[i]?=some q:=by simpa using hq'
   rw[if_neg (show ¬((i:Int)=(k:Int))by omega)];obtain⟨⟨v,h1,h2⟩,h3,h4⟩:=D.part i q hq2;exact⟨⟨v,h1,h2.keep hx (fun x h=>by rcases hS x h with h3|h3 <;> omega) k4⟩,h3.keep hx (fun x h=>by rcases hS x h with h3|h3 <;> omega) k4 (fun x h=>by rw[hold x (by omega),h]),h4⟩
theorem Fresh.new512{w w':World}{t:Nat}{s:Value}{xs:Byt}(h:Fresh w w' t 1 s (xs.map bv))(hl:xs.length=512):∃a c,s=.slice a 512 c/\Rd w' a 1 B8 xs/\512<=c/\w.heap.size<=(adr a).block/\(adr a).block<w'.heap.size:=by
 obtain⟨a,n,c,full,rfl,O,hb⟩:=h.ex;have hn:n=512:=by rw[<-hl];exact OS.num O
 subst hn;obtain⟨b,rfl⟩:=O.form (by decide);have h1:=hb (b,Bl t full) (by rw[LU rfl];exact qaa.2 rfl);exact⟨_,c,rfl,O.rd1 (t:=t) fun x hx=>(hb x hx).1,O.le,h1.2,Al h1.1⟩
theorem Pf{w:World}{bd:Nat}{A:Dev}{F:Nat->Prop}(k:Int)(a:Option Addr)(c n:Nat)(l:Byt)(R:Rd w a 1 B8 l)(hn:l.length=n)(hFa:l=[]\/¬F (adr a).block){mx:Nat}(hfew:Few A mx)(DA:DevAt w bd A F)(hm:n<=140737488351232:=by decide)(hmx:mx<=1000000000000:=by omega):
  Ret prog 83 #[ptr bd,.int .i64 k,.slice a n c] w fun v w'=>v=.int .i64 (Dr A k l)/\DevAt w' bd (CD A k l) (grow F w w')/\Turn F w w':=by
 subst hn;obtain⟨w0,rfl⟩:=qD w;obtain⟨role,bs,bm,sv,m,o,D,hF⟩:=DA;have hFr:∀x,role x≠0->F x:=hF;refine A8 (fn:=f83) func83 U [.pointer (some ⟨bd,0,none⟩),.int .i64 k,.slice a l.length c] U ?_;refine Ad (Ac U (qA (Ar (Ad (An U (Aj qB (VT D.hd) U ?_))))));rintro v w ⟨rfl,rfl⟩;refine Ac U (qA (Ad (Ae U (Be U U (qA (Av _ U ?_ ?_))))))
 .intro h1;replace h1:=Bv h1;have ho:A.on=false:=by cases h:A.on <;> simp_all
  have he:Dr A k l=8:=by rw[Dr,ho];rfl
  have hd:CD A k l=A:=by rw[CD,ho];rfl
  refine Ad (Ae U (Ac U (qA (A6 (Ao (AG (v:=(.int _ _)) U U U ?_))))));exact⟨by rw[he,ho];rfl,by rw[hd];exact⟨role,bs,bm,sv,m,o,D,fun x h => .inl (hF x h)⟩,.of0 (.refl _ _)⟩
 .intro h1;replace h1:=Bw h1;have ho:A.on=true:=by cases h:A.on <;> simp_all
  refine Ap (Aa (Ar (Ad (BG (α:=Unit) 8372224 (fun _=>[(22,.bool (!(A.has k && decide (l.length=512))))]) (fun _ w'=>w0=w') U ?_ ?_))))
  .refine An U (Ae U (Aj qB (Abm k D.hd) U ?_));rintro v w ⟨rfl,rfl⟩;rw[show(decide (0<=k) && decide (k<(A.B.length:Int)))=A.has k from rfl];refine Cl U (AF U (AQ 18 U ?_ ?_))
   .intro h1;replace h1:=C8 h1;refine Ag U (Ag U (Ag U (AN U (.bool _) U (Ab ?_))));exact⟨rfl,(),rfl,⟨qab Value.bool (by rw[qar];simp_all;try omega),trivial⟩,rfl⟩
   .intro h2;replace h2:=CA h2;refine Ah U (AO AX U (Be U U (AM U (.bool _) U (Ab ?_))));exact⟨rfl,(),rfl,⟨qab Value.bool (by rw[qar];simp_all;try omega),trivial⟩,rfl⟩
  rintro - j22 w rfl;refine Av _ U ?_ ?_
  .intro h2;replace h2:=C8 h2;have he:Dr A k l=1:=by rw[Dr,ho,h2];rfl
   have hd:CD A k l=A:=by rw[CD,h2,qeb];rfl
   refine Ad (Ac U (qA (A6 (Ao (AG (v:=(.int _ _)) U U U ?_)))));exact⟨by rw[he],by rw[hd];exact⟨role,bs,bm,sv,m,o,D,fun x h => .inl (hF x h)⟩,.of0 (.refl _ _)⟩
  .intro h2;replace h2:=CA h2;refine Ap (Aa (Ad (An U (Aj qB (Sq D) U ?_))));rintro v w ⟨rfl,D1,hx1⟩;refine Ac U (qA (Ar (Ad (Ae U (BA U U (qA (Av _ U ?_ ?_)))))))
   .intro h3;replace h3:=AR h3;have hg:A.goes=false:=by cases h:A.goes <;> simp_all
    have he:Dr A k l=0:=by rw[Dr,ho,h2,hg];rfl
    have hd:CD A k l=Pc A.less k.toNat l:=by rw[CD,ho,h2,hg];rfl
    obtain⟨wS,rfl⟩:=qD w;rw[qao,qaq]at h2;obtain⟨h2,hl⟩:=h2;obtain⟨q,rfl,hq⟩:=Abn h2;have hq1:q<A.less.B.length:=by rw[Gu];exact hq
    obtain⟨p,hp⟩:∃p,A.less.B[q]?=some p:=⟨_,qbe hq1⟩;obtain⟨_,⟨al,nl,cl,fl,vs,hvl,O,hent,hvs⟩,_⟩:=D1.part q p hp;have hnl:nl=vs.length:=by have:=O.llen;omega
    have hll:=JP hfew p (qad hp);have hvn:=hvs.1;obtain⟨arrs,harrs⟩:=qD ((ent al 24 fl).map (·.1))
    have har:∀x∈arrs,role x=5+q:=fun x h=>by
     rw[harrs]at h;obtain⟨y,hy,rfl⟩:=qah.1 h;exact(hent y hy).2
    have HT:∀x,Ext arrs wS x->Ctx wS (bd::bm::arrs) x [(bd,Bl TD (DB A.less.B.length bs bm A.less.left A.less.on)),(bm,o)]:=fun x hx=>by
     have e1:∀{b:Nat} {o:Obj},wS.heap[b]?=some o->role b=1\/role b=3->x.heap[b]?=some o:=fun{b o} h1 h2=>by
      rw[hx.block b (Al h1) fun h=>by have:=har b h;omega];exact h1
     refine⟨hx.mono (fun y h=>by simp[h]),fun y hy=>?_,?_,fun y hy => .inl ?_⟩
     .simp only[qac,qam,or_false]at hy
      rcases hy with rfl|rfl
      .exact e1 D1.hd (.inl D1.rd)
      .exact e1 D1.hm (.inr D1.rm)
     .have:bd≠bm:=fun h=>by have h1:=D1.rd;have h2:=D1.rm;rw[h]at h1;omega
      simp[this]
     .simp only[qac,qam,or_false]at hy
      rcases hy with rfl|rfl <;> simp
    have Rw:Rd wS a 1 B8 l:=by
     rcases hFa with rfl|hFa
     .exact Rd.nil
     .refine R.ext hx1 fun h=>hFa ?_;rw[qaa.1 h];exact hFr _ (by rw[D.rd];decide)
    have hM:=D1.hM;refine IK [([0,1,2,3,4,5,6,7,8,9,10,11],12),([],13),([],14),([],15)] (fun x=>Ext arrs wS x) [15] mixed (Ext.drew _ wS) (AD U U ?_);refine C1 U (Bm U (AC Ko U (Ul U RP U HT at0 U (B0 U (C1 U (Bm U (AC Ko U (Ul U RP U HT at0 U (B0 U ?_)))))))));refine Agd U U0 Gs Ahv U U HT at1 D1.hM ?_;rw[show((EW m (q:Int)).getD (.slice none 0 0))=.slice al nl cl from hvl];refine B9 U (AV ?_)
    skip
    refine Aj qB (JN a c l.length l _ (Rw.ext0 (Ext.drew [] wS)) U (hm:=hm)) U ?_;rintro v w ⟨F39,-⟩;obtain⟨a39,c39,rfl,R39,hc39,hn39,hlt39⟩:=Fresh.new512 F39 hl;have hxC0:=(Ext.drew [] wS).trans F39.ext;have hxC:Ext arrs wS w:=hxC0.mono (by simp);obtain⟨wC,rfl⟩:=qD w;have H:Ctx wC arrs wC (ent al 24 fl):=by rw[harrs];exact Ctx.startL (fun x hx=>by rw[hxC0.block x.1 (Al (hent x hx).1) (by simp)];exact(hent x hx).1) KR
    refine Ab (Bb (hxC) (AD U U ?_));refine AV (BI _ (.slice _ _ _) EZ Gg U3 U U U U H ?_);rintro b40 w - H;refine Ab (Bb (hxC.trans H.ext) (AD U U ?_));refine AV (BL (L:=[]) EZ EZ Gg Agm U3 U U U H O U (by simp[Bh]) ?_);rintro a9 c9 full9 w H9 O9;obtain⟨b9,rfl⟩:=O9.form (by omega);have hx14:Ext arrs wS w:=hxC.trans H9.ext;have hbm:w.heap[bm]?=some o:=by rw[hx14.block bm (Al D1.hm) fun h=>by have:=har bm h;have:=D1.rm;omega];exact D1.hm
    obtain⟨w14,rfl⟩:=qD w;replace H:=Ctx.start1 hbm;refine Ab (Bb (hx14) (AD U U ?_));refine AV (V9 (.slice _ _ _) U U0 Gs U U U H at0 hM ?_);rintro o w hM H;refine Ab (CQ U (B4 (Aa (Ad (Ae U (Ac U (qA (A6 (AG (v:=(.int _ _)) U U U ?_)))))))));have hsz9:b9∈arrs\/wC.heap.size<=b9:=H9.own (b9,Bl _ full9) (by rw[LU rfl];exact qaa.2 rfl);have hb9w:w14.heap[b9]?=some (Bl 24 full9):=H9.blk (b9,Bl _ full9) (by rw[LU rfl];exact qaa.2 rfl);have hsC:=hxC.size;have hs14:=H9.ext.size;have hs15:=H.ext.size;have hbm3:=D1.rm;have hbmlt:=D1.lt bm (by omega);have harlt:∀x∈arrs,x<wS.heap.size:=fun x h=>D1.lt x (by rw[har x h];omega)
    have hne9:b9≠bm:=fun h=>by
     rcases hsz9 with h1|h1
     .have:=har b9 h1;rw[h]at this;omega
     .omega
    have hne39:(adr a39).block≠b9:=fun h=>by
     rcases hsz9 with h1|h1
     .have:=harlt b9 h1;have h5:wS.heap.size<=(adr a39).block:=hn39;omega
     .omega
    have hn39':wS.heap.size<=(adr a39).block:=hn39;have hxE:Ext (bm::arrs) wS w:=(hx14.mono fun x h=>qaj _ h).trans (H.ext.mono fun x h=>by rw[qaa.1 h];exact qaf ..);have R15:Rd w a39 1 B8 l:=(R39.ext H9.ext fun h=>by have:=harlt _ h;omega).ext H.ext fun h=>by rw[qaa]at h;omega
    obtain⟨role',D',hnew⟩:=D1.write hq1 har hxE (H.get at0) hM O9 (by rw[H.ext.block b9 (Al hb9w) (by simpa using hne9)];exact hb9w) (hsz9.imp id fun h=>qaw hsC h) hp hvs R15 hl hc39 hn39' hne39 (by omega) (Alj (VS D.wf) hl);refine⟨by rw[he,hg];rfl,?_,?_⟩
    .rw[hd];refine⟨role',bs,bm,sv,_,_,D',fun x h=>?_⟩
     rcases hnew x h with h|h
     .exact .inl (hF x h)
     .exact .inr ⟨qaw hx1.size h.1,h.2⟩
    .refine .of (S:=bd::bm::arrs) ((hx1.mono (by simp)).trans (hxE.mono fun x h=>qaj _ h)) fun x h=>hF x ?_
     rcases qac.1 h with rfl|h
     .rw[D.rd];decide
     .rcases qac.1 h with rfl|h
      .rw[D.rm];decide
      .rw[har x h];omega
   .intro h3;replace h3:=AU h3;have hg:A.goes=true:=by cases h:A.goes <;> simp_all
    have he:Dr A k l=8:=by rw[Dr,ho,h2,hg];rfl
    have hd:CD A k l=A.less:=by rw[CD,ho,h2,hg];rfl
    refine Ap (Aa (Ad (Ae U (Ac U (qA (A6 (AG (v:=(.int _ _)) U U U ?_)))))));refine⟨by rw[he,hg];rfl,by rw[hd];exact⟨role,bs,bm,sv,m,o,D1,fun x h => .inl (hF x h)⟩,.of hx1 fun x h=>hF x (by rw[qaa.1 h,D.rd];decide)⟩
end Go.Proofs.YtcpgbcabmcbclaaGreatDoor
namespace Go.Proofs
open Go.RowKit Go.Maps Go.Sort Go.Shelf
def Tryz.keysA_ren : Go.Shelf.Ren := ⟨fun | 7 => 98 | 10 => 134 | n => n, fun | 23 => 70 | 26 => 3 | 3 => 69 | 28 => 150 | 0 => 0 | 27 => 149 | 33 => 157 | 4 => 4 | n => n, fun | n => n⟩
theorem Tryz.keysA : Go.Proofs.SlLaysZI.n7 Tryz.prog Tryz.keysA_ren := {
  mixed := by kernel_rfl
  f7 := ⟨Tryz.f98.name, by decide, Tryz.func98.trans (congrArg some (by kernel_rfl))⟩
  f10 := ⟨Tryz.f134.name, by decide, Tryz.func134.trans (congrArg some (by kernel_rfl))⟩
  t0 := Tryz.underlying0
  a0 := Tryz.isAgg0
  z0 := Tryz.sizeOf0
  v0 := Tryz.zeroValue0
  t4 := Tryz.underlying4
  a4 := Tryz.isAgg4
  z4 := Tryz.sizeOf4
  v4 := Tryz.zeroValue4
  t23 := Tryz.underlying70
  a23 := Tryz.isAgg70
  z23 := Tryz.sizeOf70
  v23 := Tryz.zeroValue70
  t26 := Tryz.underlying3
  a26 := Tryz.isAgg3
  z26 := Tryz.sizeOf3
  v26 := Tryz.zeroValue3
  t27 := Tryz.underlying149
  a27 := Tryz.isAgg149
  z27 := Tryz.sizeOf149
  v27 := Tryz.zeroValue149
  t28 := Tryz.underlying150
  a28 := Tryz.isAgg150
  z28 := Tryz.sizeOf150
  v28 := Tryz.zeroValue150
  t33 := Tryz.underlying157
  a33 := Tryz.isAgg157
  z33 := Tryz.sizeOf157
  v33 := Tryz.zeroValue157 }
def Tryz.sortedA_ren : Go.Shelf.Ren := ⟨fun | 6 => 97 | 8 => 133 | 9 => 125 | 11 => 159 | 13 => 137 | 12 => 153 | 23 => 169 | 24 => 170 | 14 => 183 | 15 => 184 | 16 => 185 | 17 => 186 | 18 => 187 | 19 => 188 | 20 => 189 | 21 => 190 | 22 => 191 | 25 => 204 | 26 => 193 | 27 => 194 | 28 => 205 | 29 => 206 | 30 => 207 | 31 => 212 | n => n, fun | 26 => 3 | 28 => 150 | 24 => 40 | 0 => 0 | 3 => 3 | 37 => 54 | 48 => 164 | 50 => 74 | 4 => 4 | 40 => 218 | 39 => 217 | 45 => 135 | 5 => 5 | 9 => 9 | 51 => 248 | 55 => 252 | 57 => 265 | 58 => 266 | 33 => 157 | n => n, fun | n => n⟩
theorem Tryz.sortedA : Go.Proofs.SlLaysZI.n6 Tryz.prog Tryz.sortedA_ren := {
  mixed := by kernel_rfl
  f6 := ⟨Tryz.f97.name, by decide, Tryz.func97.trans (congrArg some (by kernel_rfl))⟩
  f8 := ⟨Tryz.f133.name, by decide, Tryz.func133.trans (congrArg some (by kernel_rfl))⟩
  f11 := ⟨Tryz.f159.name, by decide, Tryz.func159.trans (congrArg some (by kernel_rfl))⟩
  t0 := Tryz.underlying0
  a0 := Tryz.isAgg0
  z0 := Tryz.sizeOf0
  v0 := Tryz.zeroValue0
  t24 := Tryz.underlying40
  a24 := Tryz.isAgg40
  z24 := Tryz.sizeOf40
  v24 := Tryz.zeroValue40
  t26 := Tryz.underlying3
  a26 := Tryz.isAgg3
  z26 := Tryz.sizeOf3
  v26 := Tryz.zeroValue3
  t28 := Tryz.underlying150
  a28 := Tryz.isAgg150
  z28 := Tryz.sizeOf150
  v28 := Tryz.zeroValue150
  i26 := by kernel_rfl }
def Tryz.sortA_ren : Go.Shelf.Ren := ⟨fun | 5 => 125 | 8 => 137 | 7 => 153 | 19 => 169 | 20 => 170 | 10 => 183 | 11 => 184 | 12 => 185 | 13 => 186 | 14 => 187 | 15 => 188 | 16 => 189 | 17 => 190 | 18 => 191 | 30 => 204 | 31 => 193 | 32 => 194 | 33 => 205 | 34 => 206 | 35 => 207 | 40 => 212 | n => n, fun | 23 => 40 | 25 => 3 | 3 => 3 | 32 => 54 | 22 => 40 | 0 => 0 | 44 => 164 | 46 => 74 | 4 => 4 | 36 => 218 | 35 => 217 | 41 => 135 | 5 => 5 | 9 => 9 | 53 => 248 | 57 => 252 | 63 => 265 | 64 => 266 | n => n, fun | n => n⟩
theorem Tryz.sortA : Go.Proofs.SlLaysM.n5 Tryz.prog Tryz.sortA_ren := {
  mixed := by kernel_rfl
  f5 := ⟨Tryz.f125.name, by decide, Tryz.func125.trans (congrArg some (by kernel_rfl))⟩
  f7 := ⟨Tryz.f153.name, by decide, Tryz.func153.trans (congrArg some (by kernel_rfl))⟩
  f8 := Tryz.func137.trans (congrArg some (by kernel_rfl))
  f10 := ⟨Tryz.f183.name, by decide, Tryz.func183.trans (congrArg some (by kernel_rfl))⟩
  f11 := ⟨Tryz.f184.name, by decide, Tryz.func184.trans (congrArg some (by kernel_rfl))⟩
  f12 := ⟨Tryz.f185.name, by decide, Tryz.func185.trans (congrArg some (by kernel_rfl))⟩
  f13 := ⟨Tryz.f186.name, by decide, Tryz.func186.trans (congrArg some (by kernel_rfl))⟩
  f14 := ⟨Tryz.f187.name, by decide, Tryz.func187.trans (congrArg some (by kernel_rfl))⟩
  f15 := ⟨Tryz.f188.name, by decide, Tryz.func188.trans (congrArg some (by kernel_rfl))⟩
  f16 := ⟨Tryz.f189.name, by decide, Tryz.func189.trans (congrArg some (by kernel_rfl))⟩
  f17 := ⟨Tryz.f190.name, by decide, Tryz.func190.trans (congrArg some (by kernel_rfl))⟩
  f18 := ⟨Tryz.f191.name, by decide, Tryz.func191.trans (congrArg some (by kernel_rfl))⟩
  f19 := Tryz.func169.trans (congrArg some (by kernel_rfl))
  f20 := Tryz.func170.trans (congrArg some (by kernel_rfl))
  f30 := ⟨Tryz.f204.name, by decide, Tryz.func204.trans (congrArg some (by kernel_rfl))⟩
  f31 := Tryz.func193.trans (congrArg some (by kernel_rfl))
  f32 := Tryz.func194.trans (congrArg some (by kernel_rfl))
  f33 := ⟨Tryz.f205.name, by decide, Tryz.func205.trans (congrArg some (by kernel_rfl))⟩
  f34 := ⟨Tryz.f206.name, by decide, Tryz.func206.trans (congrArg some (by kernel_rfl))⟩
  f35 := ⟨Tryz.f207.name, by decide, Tryz.func207.trans (congrArg some (by kernel_rfl))⟩
  f40 := ⟨Tryz.f212.name, by decide, Tryz.func212.trans (congrArg some (by kernel_rfl))⟩
  t0 := Tryz.underlying0
  a0 := Tryz.isAgg0
  z0 := Tryz.sizeOf0
  v0 := Tryz.zeroValue0
  t3 := Tryz.underlying3
  a3 := Tryz.isAgg3
  z3 := Tryz.sizeOf3
  v3 := Tryz.zeroValue3
  t4 := Tryz.underlying4
  a4 := Tryz.isAgg4
  z4 := Tryz.sizeOf4
  v4 := Tryz.zeroValue4
  t5 := Tryz.underlying5
  a5 := Tryz.isAgg5
  z5 := Tryz.sizeOf5
  v5 := Tryz.zeroValue5
  t9 := Tryz.underlying9
  a9 := Tryz.isAgg9
  z9 := Tryz.sizeOf9
  v9 := Tryz.zeroValue9
  t22 := Tryz.underlying40
  a22 := Tryz.isAgg40
  z22 := Tryz.sizeOf40
  v22 := Tryz.zeroValue40
  t23 := Tryz.underlying40
  a23 := Tryz.isAgg40
  z23 := Tryz.sizeOf40
  v23 := Tryz.zeroValue40
  t25 := Tryz.underlying3
  a25 := Tryz.isAgg3
  z25 := Tryz.sizeOf3
  v25 := Tryz.zeroValue3
  t32 := Tryz.underlying54
  a32 := Tryz.isAgg54
  z32 := Tryz.sizeOf54
  v32 := Tryz.zeroValue54
  t35 := Tryz.underlying217
  a35 := Tryz.isAgg217
  z35 := Tryz.sizeOf217
  v35 := Tryz.zeroValue217
  t36 := Tryz.underlying218
  a36 := Tryz.isAgg218
  z36 := Tryz.sizeOf218
  v36 := Tryz.zeroValue218
  t41 := Tryz.underlying135
  a41 := Tryz.isAgg135
  z41 := Tryz.sizeOf135
  v41 := Tryz.zeroValue135
  t44 := Tryz.underlying164
  a44 := Tryz.isAgg164
  z44 := Tryz.sizeOf164
  v44 := Tryz.zeroValue164
  t46 := Tryz.underlying74
  a46 := Tryz.isAgg74
  z46 := Tryz.sizeOf74
  v46 := Tryz.zeroValue74
  t53 := Tryz.underlying248
  a53 := Tryz.isAgg248
  z53 := Tryz.sizeOf248
  v53 := Tryz.zeroValue248
  t57 := Tryz.underlying252
  a57 := Tryz.isAgg252
  z57 := Tryz.sizeOf252
  v57 := Tryz.zeroValue252
  t63 := Tryz.underlying265
  a63 := Tryz.isAgg265
  z63 := Tryz.sizeOf265
  v63 := Tryz.zeroValue265
  t64 := Tryz.underlying266
  a64 := Tryz.isAgg266
  z64 := Tryz.sizeOf266
  v64 := Tryz.zeroValue266 }

theorem Tryz.sortsA (m : Nat) : AnyZI.SortsIn Tryz.prog Tryz.sortedA_ren Fence.wide m :=
  ⟨fun blk off cap ss W hH hblk hsz => callsIn_wide.2 (AnyM.slices_Sort_int Tryz.sortA blk off cap ss W hH hblk hsz),
   fun p cap W => callsIn_wide.2 (AnyM.slices_Sort_int_none Tryz.sortA p cap W)⟩
end Go.Proofs
namespace Go.Proofs
open Go.RowKit Go.Maps Go.Sort Go.Shelf
def Tryz.keysS_ren : Go.Shelf.Ren := ⟨fun | 7 => 66 | 10 => 104 | n => n, fun | 23 => 91 | 26 => 9 | 3 => 24 | 28 => 110 | 0 => 0 | 27 => 109 | 33 => 156 | 4 => 4 | n => n, fun | n => n⟩
theorem Tryz.keysS : Go.Proofs.SlLaysZ.n7 Tryz.prog Tryz.keysS_ren := {
  mixed := by kernel_rfl
  f7 := ⟨Tryz.f66.name, by decide, Tryz.func66.trans (congrArg some (by kernel_rfl))⟩
  f10 := ⟨Tryz.f104.name, by decide, Tryz.func104.trans (congrArg some (by kernel_rfl))⟩
  t0 := Tryz.underlying0
  a0 := Tryz.isAgg0
  z0 := Tryz.sizeOf0
  v0 := Tryz.zeroValue0
  t4 := Tryz.underlying4
  a4 := Tryz.isAgg4
  z4 := Tryz.sizeOf4
  v4 := Tryz.zeroValue4
  t23 := Tryz.underlying91
  a23 := Tryz.isAgg91
  z23 := Tryz.sizeOf91
  v23 := Tryz.zeroValue91
  t26 := Tryz.underlying9
  a26 := Tryz.isAgg9
  z26 := Tryz.sizeOf9
  v26 := Tryz.zeroValue9
  t27 := Tryz.underlying109
  a27 := Tryz.isAgg109
  z27 := Tryz.sizeOf109
  v27 := Tryz.zeroValue109
  t28 := Tryz.underlying110
  a28 := Tryz.isAgg110
  z28 := Tryz.sizeOf110
  v28 := Tryz.zeroValue110
  t33 := Tryz.underlying156
  a33 := Tryz.isAgg156
  z33 := Tryz.sizeOf156
  v33 := Tryz.zeroValue156 }
def Tryz.keysT_ren : Go.Shelf.Ren := ⟨fun | 7 => 119 | 10 => 143 | n => n, fun | 23 => 92 | 26 => 9 | 3 => 3 | 28 => 110 | 0 => 0 | 27 => 109 | 33 => 156 | 4 => 4 | n => n, fun | n => n⟩
theorem Tryz.keysT : Go.Proofs.SlLaysZ.n7 Tryz.prog Tryz.keysT_ren := {
  mixed := by kernel_rfl
  f7 := ⟨Tryz.f119.name, by decide, Tryz.func119.trans (congrArg some (by kernel_rfl))⟩
  f10 := ⟨Tryz.f143.name, by decide, Tryz.func143.trans (congrArg some (by kernel_rfl))⟩
  t0 := Tryz.underlying0
  a0 := Tryz.isAgg0
  z0 := Tryz.sizeOf0
  v0 := Tryz.zeroValue0
  t4 := Tryz.underlying4
  a4 := Tryz.isAgg4
  z4 := Tryz.sizeOf4
  v4 := Tryz.zeroValue4
  t23 := Tryz.underlying92
  a23 := Tryz.isAgg92
  z23 := Tryz.sizeOf92
  v23 := Tryz.zeroValue92
  t26 := Tryz.underlying9
  a26 := Tryz.isAgg9
  z26 := Tryz.sizeOf9
  v26 := Tryz.zeroValue9
  t27 := Tryz.underlying109
  a27 := Tryz.isAgg109
  z27 := Tryz.sizeOf109
  v27 := Tryz.zeroValue109
  t28 := Tryz.underlying110
  a28 := Tryz.isAgg110
  z28 := Tryz.sizeOf110
  v28 := Tryz.zeroValue110
  t33 := Tryz.underlying156
  a33 := Tryz.isAgg156
  z33 := Tryz.sizeOf156
  v33 := Tryz.zeroValue156 }
def Tryz.sortedS_ren : Go.Shelf.Ren := ⟨fun | 6 => 65 | 8 => 102 | 9 => 103 | 11 => 135 | 13 => 137 | 12 => 136 | 23 => 169 | 24 => 170 | 14 => 160 | 15 => 161 | 16 => 162 | 17 => 163 | 18 => 164 | 19 => 165 | 20 => 166 | 21 => 167 | 22 => 168 | 25 => 192 | 26 => 193 | 27 => 194 | 28 => 195 | 29 => 196 | 30 => 197 | 31 => 208 | n => n, fun | 26 => 9 | 28 => 110 | 24 => 107 | 0 => 0 | 3 => 3 | 37 => 54 | 48 => 164 | 50 => 74 | 4 => 4 | 40 => 218 | 39 => 217 | 45 => 135 | 5 => 5 | 9 => 9 | 51 => 248 | 55 => 252 | 57 => 265 | 58 => 266 | 33 => 156 | n => n, fun | n => n⟩
theorem Tryz.sortedS : Go.Proofs.SlLaysZ.n6 Tryz.prog Tryz.sortedS_ren := {
  mixed := by kernel_rfl
  f6 := ⟨Tryz.f65.name, by decide, Tryz.func65.trans (congrArg some (by kernel_rfl))⟩
  f8 := ⟨Tryz.f102.name, by decide, Tryz.func102.trans (congrArg some (by kernel_rfl))⟩
  f11 := ⟨Tryz.f135.name, by decide, Tryz.func135.trans (congrArg some (by kernel_rfl))⟩
  t0 := Tryz.underlying0
  a0 := Tryz.isAgg0
  z0 := Tryz.sizeOf0
  v0 := Tryz.zeroValue0
  t24 := Tryz.underlying107
  a24 := Tryz.isAgg107
  z24 := Tryz.sizeOf107
  v24 := Tryz.zeroValue107
  t26 := Tryz.underlying9
  a26 := Tryz.isAgg9
  z26 := Tryz.sizeOf9
  v26 := Tryz.zeroValue9
  t28 := Tryz.underlying110
  a28 := Tryz.isAgg110
  z28 := Tryz.sizeOf110
  v28 := Tryz.zeroValue110
  i26 := by kernel_rfl }
def Tryz.sortS_ren : Go.Shelf.Ren := ⟨fun | 6 => 103 | 8 => 137 | 9 => 136 | 19 => 169 | 20 => 170 | 21 => 160 | 22 => 161 | 23 => 162 | 24 => 163 | 25 => 164 | 26 => 165 | 27 => 166 | 28 => 167 | 29 => 168 | 36 => 192 | 31 => 193 | 32 => 194 | 37 => 195 | 38 => 196 | 39 => 197 | 41 => 208 | n => n, fun | 27 => 107 | 29 => 9 | 3 => 3 | 32 => 54 | 26 => 107 | 0 => 0 | 44 => 164 | 46 => 74 | 4 => 4 | 36 => 218 | 35 => 217 | 41 => 135 | 5 => 5 | 9 => 9 | 53 => 248 | 57 => 252 | 63 => 265 | 64 => 266 | n => n, fun | n => n⟩
theorem Tryz.sortS : Go.Proofs.SlLaysM.n6 Tryz.prog Tryz.sortS_ren := {
  mixed := by kernel_rfl
  f6 := ⟨Tryz.f103.name, by decide, Tryz.func103.trans (congrArg some (by kernel_rfl))⟩
  f8 := Tryz.func137.trans (congrArg some (by kernel_rfl))
  f9 := ⟨Tryz.f136.name, by decide, Tryz.func136.trans (congrArg some (by kernel_rfl))⟩
  f19 := Tryz.func169.trans (congrArg some (by kernel_rfl))
  f20 := Tryz.func170.trans (congrArg some (by kernel_rfl))
  f21 := ⟨Tryz.f160.name, by decide, Tryz.func160.trans (congrArg some (by kernel_rfl))⟩
  f22 := ⟨Tryz.f161.name, by decide, Tryz.func161.trans (congrArg some (by kernel_rfl))⟩
  f23 := ⟨Tryz.f162.name, by decide, Tryz.func162.trans (congrArg some (by kernel_rfl))⟩
  f24 := ⟨Tryz.f163.name, by decide, Tryz.func163.trans (congrArg some (by kernel_rfl))⟩
  f25 := ⟨Tryz.f164.name, by decide, Tryz.func164.trans (congrArg some (by kernel_rfl))⟩
  f26 := ⟨Tryz.f165.name, by decide, Tryz.func165.trans (congrArg some (by kernel_rfl))⟩
  f27 := ⟨Tryz.f166.name, by decide, Tryz.func166.trans (congrArg some (by kernel_rfl))⟩
  f28 := ⟨Tryz.f167.name, by decide, Tryz.func167.trans (congrArg some (by kernel_rfl))⟩
  f29 := ⟨Tryz.f168.name, by decide, Tryz.func168.trans (congrArg some (by kernel_rfl))⟩
  f31 := Tryz.func193.trans (congrArg some (by kernel_rfl))
  f32 := Tryz.func194.trans (congrArg some (by kernel_rfl))
  f36 := ⟨Tryz.f192.name, by decide, Tryz.func192.trans (congrArg some (by kernel_rfl))⟩
  f37 := ⟨Tryz.f195.name, by decide, Tryz.func195.trans (congrArg some (by kernel_rfl))⟩
  f38 := ⟨Tryz.f196.name, by decide, Tryz.func196.trans (congrArg some (by kernel_rfl))⟩
  f39 := ⟨Tryz.f197.name, by decide, Tryz.func197.trans (congrArg some (by kernel_rfl))⟩
  f41 := ⟨Tryz.f208.name, by decide, Tryz.func208.trans (congrArg some (by kernel_rfl))⟩
  t0 := Tryz.underlying0
  a0 := Tryz.isAgg0
  z0 := Tryz.sizeOf0
  v0 := Tryz.zeroValue0
  t3 := Tryz.underlying3
  a3 := Tryz.isAgg3
  z3 := Tryz.sizeOf3
  v3 := Tryz.zeroValue3
  t4 := Tryz.underlying4
  a4 := Tryz.isAgg4
  z4 := Tryz.sizeOf4
  v4 := Tryz.zeroValue4
  t5 := Tryz.underlying5
  a5 := Tryz.isAgg5
  z5 := Tryz.sizeOf5
  v5 := Tryz.zeroValue5
  t9 := Tryz.underlying9
  a9 := Tryz.isAgg9
  z9 := Tryz.sizeOf9
  v9 := Tryz.zeroValue9
  t26 := Tryz.underlying107
  a26 := Tryz.isAgg107
  z26 := Tryz.sizeOf107
  v26 := Tryz.zeroValue107
  t27 := Tryz.underlying107
  a27 := Tryz.isAgg107
  z27 := Tryz.sizeOf107
  v27 := Tryz.zeroValue107
  t29 := Tryz.underlying9
  a29 := Tryz.isAgg9
  z29 := Tryz.sizeOf9
  v29 := Tryz.zeroValue9
  t32 := Tryz.underlying54
  a32 := Tryz.isAgg54
  z32 := Tryz.sizeOf54
  v32 := Tryz.zeroValue54
  t35 := Tryz.underlying217
  a35 := Tryz.isAgg217
  z35 := Tryz.sizeOf217
  v35 := Tryz.zeroValue217
  t36 := Tryz.underlying218
  a36 := Tryz.isAgg218
  z36 := Tryz.sizeOf218
  v36 := Tryz.zeroValue218
  t41 := Tryz.underlying135
  a41 := Tryz.isAgg135
  z41 := Tryz.sizeOf135
  v41 := Tryz.zeroValue135
  t44 := Tryz.underlying164
  a44 := Tryz.isAgg164
  z44 := Tryz.sizeOf164
  v44 := Tryz.zeroValue164
  t46 := Tryz.underlying74
  a46 := Tryz.isAgg74
  z46 := Tryz.sizeOf74
  v46 := Tryz.zeroValue74
  t53 := Tryz.underlying248
  a53 := Tryz.isAgg248
  z53 := Tryz.sizeOf248
  v53 := Tryz.zeroValue248
  t57 := Tryz.underlying252
  a57 := Tryz.isAgg252
  z57 := Tryz.sizeOf252
  v57 := Tryz.zeroValue252
  t63 := Tryz.underlying265
  a63 := Tryz.isAgg265
  z63 := Tryz.sizeOf265
  v63 := Tryz.zeroValue265
  t64 := Tryz.underlying266
  a64 := Tryz.isAgg266
  z64 := Tryz.sizeOf266
  v64 := Tryz.zeroValue266 }

theorem Tryz.sortsS (m : Nat) : AnyZ.SortsIn Tryz.prog Tryz.sortedS_ren Fence.wide m :=
  ⟨fun blk off cap ss W hH hblk hsz => callsIn_wide.2 (AnyM.slices_Sort_string Tryz.sortS blk off cap ss W hH hblk hsz),
   fun p cap W => callsIn_wide.2 (AnyM.slices_Sort_string_none Tryz.sortS p cap W)⟩
end Go.Proofs
namespace Go.Proofs.YtcpgbcabmcbclaaGreatDoor
open Go.GV Go.Proofs.Tryz Go.Maps Go.Sort Go.Shelf Go.RowKit
attribute [local irreducible] AA W Wq Wt
def Df(m:List (Int × Value)):List Int:=(m.map (·.1)).mergeSort fun x y=>decide (x<=y)
theorem Aib(mb:Option Nat)(w:World):Ret prog 98 #[.map mb] w fun v w'=>v=.func (.func 134) #[] #[.pointer (some ⟨w.heap.size,0,none⟩)]/\w'=w.alloc (Bl 70 [.map mb]):=by
 have h:=AnyZI.keys_in keysA Fence.wide 5 trivial rfl mb w;exact CallsIn.mono (callsIn_wide.2 (callsIn_wide.1 h)) fun e w' ⟨h1,h2⟩=>⟨_,h1,rfl,h2⟩
theorem Z2{w:World}{bx bm:Nat}{m:List (Int × Value)}{o:Obj}(hx:w.heap[bx]?=some (Bl 70 [.map (some bm)]))(hb:w.heap[bm]?=some o)(hM:Ki .i64 m o)(nd:(m.map (·.1)).Nodup)(hsz:m.length<=4096)(hr:∀p∈m,-9223372036854775808<=p.1/\p.1<=9223372036854775807) :
  Ret prog 97 #[.func (.func 134) #[] #[.pointer (some ⟨bx,0,none⟩)]] w fun v w'=>∃a c,v=.slice a (Df m).length c/\Rd w' a 1 (fun x:Int=>[.int .i64 x]) (Df m)/\(Df m).length<=c/\(Df m=[]\/w.heap.size<=(adr a).block)/\Ext [] w w':=by
 obtain⟨D0,hown,hperm,hsize⟩:=Zf (P:=prog) Gs hb hM nd (qaw hsz (by decide)) hr
 have hseq:SeqGives Fence.wide 2 prog 134 #[.pointer (some ⟨bx,0,none⟩)] encZ (fun ss=>ss.Perm (intKeys D0)) (Maps.size D0) w :=
  AnyZI.keys_gives (ρ:=keysA_ren) { keysA with } Fence.wide _ trivial rfl (by omega) bx bm m.length D0 w (Al hx) (by rw[Aq hx];rfl) hown
 have cS:=AnyZI.sorted_in sortedA Fence.wide 5 trivial trivial trivial trivial rfl (by omega) (sortsA _) (enters_of func125 (by kernel_rfl) rfl) 134 #[.pointer (some ⟨bx,0,none⟩)] trivial (enters_of func134 (by kernel_rfl) rfl) _ (Maps.size D0) (by rw[hsize];exact qaw hsz (by decide)) (by rw[hsize];omega) _ hseq;refine CallsIn.mono (callsIn_wide.2 (callsIn_wide.1 cS)) ?_;rintro e w' ⟨v,ss,rfl,hS,hrow,_,hbel⟩;have he:ss.mergeSort (fun x y=>decide (x<=y))=Df m:=mergeSort_of_perm_i (hS.trans hperm);rw[he]at hrow;obtain⟨a,c,rfl,R,hc,hnew⟩:=Zg (by rw[<-he,qcu]) hrow;exact⟨_,rfl,a,c,rfl,R,hc,hnew,Kl hbel⟩
theorem FI{m:List (Int × Value)}{k:Int}(h:k∈Df m):∃v,EW m k=some v:=by
 have h1:k∈m.map (·.1):=((qce _ _).mem_iff).1 h;clear h
 induction m with
 |nil=>cases h1
 |cons p m ih =>
  by_cases hp:p.1=k
  .exact⟨p.2,by simp[EW,hp]⟩
  .have h2:k∈m.map (·.1):=by
    rcases qac.1 h1 with h|h
    .exact absurd h.symm hp
    .exact h
   obtain⟨v,hv⟩:=ih h2;exact⟨v,by simpa[EW,hp]using hv⟩
theorem Nc(m:List (Int × Value)):(Df m).length=m.length:=by rw[Df,qcu,qai]
theorem St{w:World}{l bx bd bs bm n:Nat}{left:Int}{on:Bool}{m:List (Int × Value)}{o:Obj}(hx:w.heap[bx]?=some (Bl 27 [ptr bd]))(hd:w.heap[bd]?=some (Bl TD (DB n bs bm left on)))(hb:w.heap[bm]?=some o)(hM:Ki .i64 m o)(nd:(m.map (·.1)).Nodup)(hsz:m.length<=4096)(hr:∀p∈m,-9223372036854775808<=p.1/\p.1<=9223372036854775807)(J:World->Nat->World->Prop)(hJ0:∀wK,Ext [] w wK->J wK 0 wK)(hJ:∀wK i w',Ext [] w wK->J wK i w'->w'.heap[bx]?=some (Bl 27 [ptr bd])/\(∃bs' left' on',w'.heap[bd]?=some (Bl TD (DB n bs' bm left' on')))/\w'.heap[bm]?=some o/\∃S,Ext S wK w'/\∀x∈S,x<w.heap.size)(hround:∀wK i k v w',Ext [] w wK->(Df m)[i]?=some k->EW m k=some v->J wK i w'->Go.GV.YieldAt prog l [.int .i64 k,v] w' fun u w''=>u=.bool true/\J wK (i+1) w'') :
  Ret prog 96 #[.func (.yield l) #[] #[],ptr bx] w fun _ w'=>∃wK,Ext [] w wK/\J wK m.length w':=by
 obtain⟨w0,rfl,H⟩:=qE w;have hkl:=Nc m;refine A8 (fn:=f96) func96 U [.func (.yield l) #[] #[],.pointer (some ⟨bx,0,none⟩)] U ?_;refine Ad (Bd Dm U (H.old0 (Aq hx _)) ?_);refine A7 U (Af Ko U (Bd RP U (H.old0 (Aq hd _)) ?_));refine Aj qB (Aib (some bm) _) U ?_;rintro v w ⟨rfl,rfl⟩;replace H:=H.alloc (Bl 70 [.map (some bm)]);refine Aj qB (Z2 (H.get at0) (Ctx.oldb H hb) hM nd hsz hr) U ?_;rintro v w ⟨a,c,rfl,R,hc,hnew,hx10⟩;replace H:=H.call hx10;refine AO FE U (Ae U (qA (AB ?_)));obtain⟨wK,rfl⟩:=qD w;refine B6 134213648 (α:=Nat) (fun i=>[(12,.int .i64 i)]) (fun i w'=>i<=(Df m).length/\J wK i w') (fun i=>(Df m).length - i) 0 U ?_ ?_ ?_
 .exact⟨rfl,trivial⟩
 .exact⟨qak _,hJ0 wK H.ext⟩
 .rintro i j w ⟨hi,hJw⟩;obtain⟨hx',⟨bs',left',on',hd'⟩,hb',S,hS,hSlt⟩:=hJ wK i w H.ext hJw
  have Rw:Rd w a 1 (fun x:Int=>[.int .i64 x]) (Df m):=by
   rcases hnew with h0|h0
   .rw[h0];exact Rd.nil
   .refine R.ext hS fun h=>?_;have:=hSlt _ h;rw[World.size_alloc]at h0;omega
  refine Ad (Bj U U (qA (Ar (Av _ U ?_ ?_))))
  .intro h1;replace h1:=AR h1;obtain⟨k,hk⟩:=AP (l:=Df m) (i:=i);obtain⟨v,hv⟩:=FI (qad hk);refine Ap (Aa (Ar (AB (Ad (AY Rw FE HN U U (hn:=by rfl) ?_)))));refine Bd DV U (Rw.one (f:=fun x => .int .i64 x) hk) (Ac U (qA (Ad (DY U (.func _ _ _) U ?_))));refine Ae U (Bd Dm U (Aq hx' _) ?_);refine A7 U (Af Ko U (Bd RP U (Aq hd' _) ?_));refine Ae U (Ru U U0 Gs Ahv U U hb' hM ?_);rw[show(EW m k).getD (.slice none 0 0)=v from by rw[hv];rfl];refine RE U U (hround wK i k v w H.ext hk hv hJw) U ?_;rintro _ w ⟨rfl,hJ2⟩;refine Cl U (qA (Bz U (Ap (AE (Aa (Au (Ay U U ?_)))))));refine Ae U (qA ?_);exact⟨i+1,rfl,⟨rfl,trivial⟩,⟨by omega,hJ2⟩,by omega⟩
  .intro h1;replace h1:=AU h1;have hin:i=m.length:=by omega
   subst hin;refine B2 (Aw (Aw (AZ (HC U U ?_))));exact⟨wK,H.ext,hJw⟩
open Go.GV Go.Proofs.Tryz
theorem UA(bd:Nat)(w:World):Ret prog 60 #[ptr bd] w fun v w'=>∃bx,v=.func (.func 96) #[] #[ptr bx]/\w'.heap[bx]?=some (Bl 27 [ptr bd])/\w.heap.size<=bx/\Ext [] w w':=by
 obtain⟨w0,rfl,H⟩:=qE w;refine A8 (fn:=f60) func60 U [.pointer (some ⟨bd,0,none⟩)] U ?_;refine Ad (Cu _ (.pointer _) U U H ?_);rintro b1 w - H;refine Ei U .nilFunc U (qA (Ad (CG [.pointer _] U (Ei U (.func _ _ _) U ?_))));refine qA (A6 (AG (v:=(.func _ _ _)) U U U ?_));exact⟨b1,rfl,H.get at0,(H.own _ (qaf ..)).elim (fun h=>by cases h) id,H.ext⟩
def laid(f:Nat->Value)(sv:List Value)(ks:List Int):List Value:=ks.foldl (fun s k=>s.set k.toNat (f k.toNat)) sv
theorem NP(f:Nat->Value)(sv:List Value)(ks:List Int):(laid f sv ks).length=sv.length:=by
 unfold laid
 induction ks generalizing sv with
 |nil=>rfl
 |cons k ks ih=>rw[qdk,ih,qch]
theorem Pg(f:Nat->Value)(sv:List Value)(ks:List Int)(k:Int):laid f sv (ks++[k])=(laid f sv ks).set k.toNat (f k.toNat):=by
 unfold laid;rw[qdp];rfl
theorem Su(f:Nat->Value)(sv:List Value)(ks:List Int)(hk:∀k∈ks,0<=k){i:Nat}(hi:i<sv.length):(laid f sv ks)[i]?=if(i:Int)∈ks then some (f i)else sv[i]? := by
 unfold laid
 induction ks generalizing sv with
 |nil=>simp
 |cons k ks ih =>
  rw[qdk,ih (sv:=sv.set k.toNat (f k.toNat)) (fun x h=>hk x (qaj _ h)) (by rw[qch];exact hi)];have h0:=hk k (qaf ..)
  by_cases h1:(i:Int)∈ks
  .rw[if_pos h1,if_pos (qaj _ h1)]
  .rw[if_neg h1]
   by_cases h2:k=(i:Int)
   .subst h2;rw[if_pos (qaf ..),show((i:Int)).toNat=i from rfl,qew hi]
   .rw[if_neg (by simp[h1,Ne.symm h2]),qex (by omega)]
theorem DevR.last{w:World}{bd:Nat}{A:Dev}{role:Nat->Nat}{bs bm:Nat}{sv:List Value}{m:List (Int × Value)}{o:Obj}(D:DevR w bd A role bs bm sv m o) :
  ∃f:Nat->Value,∀i p,A.B[i]?=some p->p.2≠[]->BytesAt w role (f i) (stands p)/\∃al n c fl vs,EW m (i:Int)=some (.slice al n c)/\OS al n c 1 fl vs/\n=p.2.length/\(∀x∈ent al 24 fl,w.heap[x.1]?=some x.2/\role x.1=5+i)/\vs[n - 1]?=some (f i):=by
 have h:∀i:Nat,∃v,∀p,A.B[i]?=some p->p.2≠[]->BytesAt w role v (stands p)/\∃al n c fl vs,EW m (i:Int)=some (.slice al n c)/\OS al n c 1 fl vs/\n=p.2.length/\(∀x∈ent al 24 fl,w.heap[x.1]?=some x.2/\role x.1=5+i)/\vs[n - 1]?=some v:=fun i=>by
  by_cases hp:∃p,A.B[i]?=some p/\p.2≠[]
  .obtain⟨p,hp,hne⟩:=hp;obtain⟨_,⟨al,n,c,fl,vs,hv,O,hent,hvs⟩,hiff⟩:=D.part i p hp;have hn:n=vs.length:=by have:=O.llen;omega
   have hpos:0<p.2.length:=qbv.2 hne;have hvl:=hvs.1;obtain⟨b,hb⟩:=AP (l:=p.2) (i:=n - 1);obtain⟨v,hvv⟩:=AP (l:=vs) (i:=n - 1)
   have hst:stands p=b:=by
    rw[stands,List.getLast?_eq_getElem?,show p.2.length - 1=n - 1 by omega,hb];rfl
   refine⟨v,fun p' hp' _=>?_⟩;rw[hp]at hp';cases hp';refine⟨by rw[hst];exact hvs.2 _ _ _ hvv hb,al,n,c,fl,vs,?_,O,by omega,hent,hvv⟩;obtain⟨u,hu⟩:=qdh.1 (hiff.2 hne);rw[hu]at hv |-;rw[<-hv];rfl
  .exact⟨.nilFunc,fun p h1 h2=>absurd ⟨p,h1,h2⟩ hp⟩
 exact⟨fun i=>Classical.choose (h i),fun i=>Classical.choose_spec (h i)⟩
theorem DevR.keep{w w':World}{bd:Nat}{A:Dev}{role:Nat->Nat}{bs bm:Nat}{sv:List Value}{m:List (Int × Value)}{o:Obj}(D:DevR w bd A role bs bm sv m o){S:List Nat}(hx:Ext S w w')(hS':∀x∈S,role x=0):DevR w' bd A role bs bm sv m o:=by
 have hb:∀{b:Nat} {o:Obj},w.heap[b]?=some o->role b≠0->w'.heap[b]?=some o:=fun{b o} h1 h2=>by
  rw[hx.block b (Al h1) fun h=>h2 (hS' b h)];exact h1
 refine⟨fun x h=>qau (D.lt x h) hx.size,D.rd,D.rs,D.rm,hb D.hd (by rw[D.rd];decide),hb D.hs (by rw[D.rs];decide),hb D.hm (by rw[D.rm];decide),D.hM,D.nd,D.keys,D.len,fun i p hp=>?_,D.wf⟩;obtain⟨⟨v,h1,h2⟩,h3,h4⟩:=D.part i p hp;exact⟨⟨v,h1,h2.keep hx (fun x h=>by rw[hS' x h];decide) fun _ h=>h⟩,h3.keep hx (fun x h=>by rw[hS' x h];omega) (fun _ h=>h) (fun _ h=>h),h4⟩
theorem DevR.keep0{w w':World}{bd:Nat}{A:Dev}{role:Nat->Nat}{bs bm:Nat}{sv:List Value}{m:List (Int × Value)}{o:Obj}(D:DevR w bd A role bs bm sv m o)(hx:Ext [] w w'):DevR w' bd A role bs bm sv m o:=D.keep hx (by simp)
theorem DevR.swept{w w':World}{bd:Nat}{A:Dev}{role:Nat->Nat}{bs bm:Nat}{sv:List Value}{m:List (Int × Value)}{o o':Obj}(D:DevR w bd A role bs bm sv m o){A':Dev}{sv':List Value}(hx:Ext [bd,bs,bm] w w')(hlen:A'.B.length=A.B.length)(hd:w'.heap[bd]?=some (Bl TD (DB A'.B.length bs bm A'.left A'.on)))(hs:w'.heap[bs]?=some (Bl 24 sv'))(hm:w'.heap[bm]?=some o')(hM:Ki .i64 [] o')(hl:sv'.length=A.B.length)(hp:∀(i:Nat) (p:Byt × List Byt),A'.B[i]?=some p->p.2=[]/\∃v,sv'[i]?=some v/\SureAt w' role v p.1)(wf:Wf A'):DevR w' bd A' role bs bm sv' [] o':=by
 refine⟨fun x h=>qau (D.lt x h) hx.size,D.rd,D.rs,D.rm,hd,hs,hm,hM,qcb,fun k v h=>(by cases h),by rw[hl,hlen],fun i p h=>?_,wf⟩;obtain⟨h1,h2⟩:=hp i p h;refine⟨h2,?_,by simp[QW,h1]⟩;rw[h1];exact⟨none,0,0,[],[],rfl,OS.nil,by simp[ent],rfl,fun j x y h=>by cases h⟩
theorem VU:∀(n:Nat) (l:List Nat),l.Nodup->(∀x∈l,x<n)->l.length<=n
 |0,l,_,h=>by
  cases l with
  |nil=>exact qae _
  |cons x l=>exact absurd (h x (by simp)) (qc3 _)
 |n+1,l,hd,h=>by
  have h1:=VU n (l.filter (· != n)) (hd.filter _) (fun x hx=>by
   have:=h x (qbj.1 hx).1;have h2:=(qbj.1 hx).2
   simp at h2;omega)
  have h2:l.length=(l.filter (· != n)).length+l.count n:=by
   clear hd h h1
   induction l with
   |nil=>rfl
   |cons x l ih =>
    rw[qeg,qbk]
    by_cases hx:x=n
    .subst hx;simp;omega
    .simp[hx];omega
  have h3:l.count n<=1:=List.nodup_iff_count.1 hd n;omega
theorem DevR.bound{w:World}{bd:Nat}{A:Dev}{role:Nat->Nat}{bs bm:Nat}{sv:List Value}{m:List (Int × Value)}{o:Obj}(D:DevR w bd A role bs bm sv m o):∀p∈m,0<=p.1/\p.1<A.B.length:=by
 intro p hp
 have h:∃v,EW m p.1=some v:=by
  have hm:p.1∈Df m:=(qce _ _).mem_iff.2 (qah.2 ⟨p,hp,rfl⟩);exact FI hm
 obtain⟨v,hv⟩:=h;obtain⟨i,h1,h2⟩:=D.keys _ v hv;omega
theorem DevR.few{w:World}{bd:Nat}{A:Dev}{role:Nat->Nat}{bs bm:Nat}{sv:List Value}{m:List (Int × Value)}{o:Obj}(D:DevR w bd A role bs bm sv m o):m.length<=A.B.length:=by
 have h:=VU A.B.length (m.map fun p=>p.1.toNat) (by
  have nd:=D.nd;rw[qdo,qbs]at nd |-;refine nd.imp_of_mem fun{a b} ha hb hab he=>hab ?_;have:=D.bound a ha;have:=D.bound b hb
  omega) (fun x hx=>by
  obtain⟨p,hp,rfl⟩:=qah.1 hx;have:=D.bound p hp
  omega)
 simpa using h
theorem NQ{n a b:Nat}{tmps:Array Value}{g:Nat->Value}{x y:Value}(hts:tmps.size=n)(htm:∀i,tmps.getD i undef=g i)(ha:a<n:=by decide)(hb:b<n:=by decide):
  Sim n (put (put ⟨g,[]⟩ (some a) x) (some b) y) { tmps:=((#[a,b]:Array Tmp).zip [x,y].toArray).foldl (fun tmps (t,v)=>tmps.setIfInBounds t v) tmps,defers:=[] }:=by
 have h1:Sim n ⟨g,[]⟩ { tmps:=tmps,defers:=[] }:=⟨rfl,hts,htm⟩;have h2:=Sim.put (Sim.put h1 (some a) x (by rintro _ ⟨⟩;exact ha)) (some b) y (by rintro _ ⟨⟩;exact hb)
 simpa[Act.put]using h2
theorem Li{P:Program}{l n:Nat}{body:Code}{R:Value->World->Prop}{e:Env}{w:World}{lo:Loop}(h1:w.heap[l]?=some (.loop lo))(hst:lo.state=.ready)(h:∀wR lo2,Ext [l] w wR->wR.heap[l]?=some (.loop lo2)->lo2={ lo with state := .busy }->W P (some l) n body (Zi l R) e wR):Age P l n body R .normal e w :=
 ⟨lo,h1,hst,h _ _ (Ext.setB w l _) (IA h1) rfl⟩
theorem IG{l:Nat}{R:Value->World->Prop}{e:Env}{w:World}{lo lo2:Loop}(h1:w.heap[l]?=some (.loop lo2))(h2:lo2={ lo with state := .busy })(hst:lo.state=.ready)(hp:lo.pending=none)(h:∀wF,Ext [l] w wF->wF.heap[l]?=some (.loop lo)->R (.bool true) wF):Zi l R .normal e w:=by
 refine⟨lo2,h1,h _ (Ext.setB w l _) ?_⟩
 have:({ lo2 with state := .ready,pending:=none }:Loop)=lo:=by
  subst h2;cases lo;simp_all
 rw[IA h1,this]
theorem HR{Q:Exit->Env->World->Prop}{e:Env}{w:World}{j:Option Code}(hj:j=none)(h:Q .normal e w):OK Q e w j:=by subst hj;exact h
theorem Nf{m:List (Int × Value)}{k:Int}{v:Value}(h:EW m k=some v):k∈Df m:=by
 refine(qce _ _).mem_iff.2 ?_
 induction m with
 |nil=>cases h
 |cons p m ih =>
  by_cases hp:p.1=k
  .rw[<-hp];exact qaf ..
  .exact qaj _ (ih (by simpa[EW,hp]using h))
theorem Me{w:World}{bd:Nat}{A:Dev}{F:Nat->Prop}{mx:Nat}(hfew:Few A mx)(DA:DevAt w bd A F)(hmx:mx<=1000000000000:=by omega):
  Ret prog 54 #[ptr bd] w fun v w'=>v=.int .i64 (Ds A)/\DevAt w' bd (Cq A) F/\Turn F w w':=by
 obtain⟨w0,rfl⟩:=qD w;obtain⟨role,bs,bm,sv,m,o,D,hF⟩:=DA;have H:=Ctx.start w0 [];refine JK (fn:=f54) func54 U [.pointer (some ⟨bd,0,none⟩)] U ?_;refine Ad (Cu _ (.pointer _) U U H ?_);rintro b1 w - H;refine Ac U (qA (Ar (Ad (AH Dm U H at0 U (Aj qB (VT (Ctx.oldb H D.hd)) U ?_)))));rintro v w ⟨rfl,rfl⟩;refine Ac U (qA (Ad (Ae U (Be U U (qA (Av _ U ?_ ?_))))))
 .intro h1;replace h1:=Bv h1;have ho:A.on=false:=by cases h:A.on <;> simp_all
  refine Ad (Ae U (Ac U (qA (A6 (Ao (N9 (v:=(.int _ _)) U U ?_))))));exact⟨by rw[Ds,ho];rfl,by rw[Cq,ho];exact⟨role,bs,bm,sv,m,o,D.keep0 H.ext,hF⟩,.of0 H.ext⟩
 .intro h1;replace h1:=Bw h1;have ho:A.on=true:=by cases h:A.on <;> simp_all
  refine Ap (Aa (Ad (AH Dm U H at0 U (Aj qB (Sq (D.keep0 H.ext)) U ?_))));rintro v w ⟨rfl,D1,hx1⟩;refine Ac U (qA (Ar (Ad (Ae U (BA U U (qA (Av _ U ?_ ?_)))))))
  .intro h3;replace h3:=AR h3;have hg:A.goes=false:=by cases h:A.goes <;> simp_all
   have hbd0:=Al D.hd;have ho1:w0.heap.size<=b1:=(H.own _ (qaf ..)).elim (fun h=>by cases h) id
   have hb1:w.heap[b1]?=some (Bl 27 [ptr bd]):=by
    rw[hx1.block b1 (H.lt at0) (by simp;omega)];exact H.get at0
   refine Ar (Ad (Bd Dm U (Aq hb1 _) ?_));refine Aj qB (UA bd _) U ?_;rintro v w ⟨bx,rfl,hbx,hbxn,hx17⟩;refine qA (AB ?_);have D2:=D1.keep0 hx17;have hb1L:w.heap[b1]?=some (Bl 27 [ptr bd]):=by rw[hx17.block b1 (Al hb1) (by simp)];exact hb1
   obtain⟨f,hf⟩:=D2.last;refine HM U qB ?_;intro fn tmps hts htm Db l w2 hDb hl hx2 hD hrec;have D3:=D2.keep0 hx2;have up2:∀{b:Nat} {o:Obj},w.heap[b]?=some o->w2.heap[b]?=some o:=fun{b o} g=>by rw[hx2.block b (Al g) (by simp)];exact g
   obtain⟨lo,hlo,hrec'⟩:∃lo,lo=_/\w2.heap[l]?=some (.loop lo):=⟨_,rfl,hrec⟩;have hhi:=D3.wf.hi;have hlen:m.length<=4096:=qaw D3.few hhi;have hbs0:=D2.lt bs (by rw[D2.rs];decide);have hbd1:=D2.lt bd (by rw[D2.rd];decide);have hbm1:=D2.lt bm (by rw[D2.rm];decide);have hbxL:=Al hbx;have hbsl:bs≠l:=by omega
   have hb1s:b1≠bs:=by have:=D.lt bs (by rw[D.rs];decide);omega
   have hbxs:bx≠bs:=by have:=D1.lt bs (by rw[D1.rs];decide);omega
   have hbds:bd≠bs:=fun h=>by have h1:=D3.rd;rw[h,D3.rs]at h1;omega
   have hbms:bm≠bs:=fun h=>by have h1:=D3.rm;rw[h,D3.rs]at h1;omega
   refine Ret.mono (St (l:=l) (up2 hbx) D3.hd D3.hm D3.hM D3.nd hlen (fun p hp=>by have:=D3.bound p hp;omega)
    (fun wK i w'=>w'.heap[l]?=some (.loop lo)/\Ext [bs,l] wK w'/\w'.heap[bs]?=some (Bl 24 (laid f sv ((Df m).take i)))) ?_ ?_ ?_) ?_
   .intro wK hx;refine⟨by rw[hx.block l (Al hrec') (by simp)];exact hrec',.refl _ _,?_⟩;rw[hx.block bs (Al D3.hs) (by simp)];exact D3.hs
   .rintro wK i w' hx ⟨h1,h2,h3⟩
    have e1:∀{b:Nat} {o:Obj},w.heap[b]?=some o->b≠bs->w'.heap[b]?=some o:=fun{b o} g1 g2=>by
     have g3:b≠l:=by have:=Al g1;omega
     rw[h2.block b (qau (Al (up2 g1)) hx.size) (by simp[g2,g3]),hx.block b (Al (up2 g1)) (by simp)];exact up2 g1
    refine⟨e1 hbx hbxs,⟨bs,_,_,e1 D2.hd hbds⟩,e1 D2.hm hbms,_,h2,fun x h=>?_⟩;simp only[qac,qam,or_false]at h
    rcases h with rfl|rfl
    .exact Al D3.hs
    .exact Al hrec'
   .rintro wK i k v w' hxK hk hv ⟨h1,h2,h3⟩;obtain⟨q,rfl,hq⟩:=D3.keys _ v hv;obtain⟨p,hp⟩:∃p,A.less.B[q]?=some p:=⟨_,qbe hq⟩;have hne:p.2≠[]:=(D3.part q p hp).2.2.1 (by rw[hv];rfl);obtain⟨hby,al,nl,cl,fl,vs,hv',O,hnl,hent,hlast⟩:=hf q p hp hne;rw[hv]at hv';cases hv';have hpl:=JP hfew p (qad hp);have hpos:0<nl:=by rw[hnl];exact qbv.2 hne
    subst hlo;refine KW h1 U (IP _ (NQ hts htm) ?_);refine Ad (Ac U (qA (Au (Ak U (Ab (Li h1 U ?_))))));intro wR lo2 hxR hlR hlo2
    have eR:∀{b:Nat} {o:Obj},w.heap[b]?=some o->b≠bs->wR.heap[b]?=some o:=fun{b o} g1 g2=>by
     have g3:b≠l:=by have:=Al g1;omega
     have g4:w'.heap[b]?=some o:=by
      rw[h2.block b (qau (Al (up2 g1)) hxK.size) (by simp[g2,g3]),hxK.block b (Al (up2 g1)) (by simp)];exact up2 g1
     rw[hxR.block b (Al g4) (by simpa using g3)];exact g4
    have hbs2:=D3.rs;have hbdR:=eR D2.hd hbds;have hb1R:=eR hb1L hb1s;have hbsR:wR.heap[bs]?=some (Bl 24 (laid f sv ((Df m).take i))):=by rw[hxR.block bs (Al h3) (by simpa using hbsl)];exact h3
    have Rl:Rd wR al 1 (fun v:Value=>[v]) vs:=OS.rdV O fun x hx=>eR (hent x hx).1 (fun h=>by have:=(hent x hx).2;rw[h]at this;omega);have hlv:(laid f sv ((Df m).take i)).length=sv.length:=NP ..;have hsvl:=D3.len;have hvn:nl=vs.length:=by have:=O.llen;omega
    obtain⟨a9,c9,hfq,_⟩:=hby;rw[hfq]at hlast;have HT:∀x,Ext [] wR x->Ctx wR [] x []:=fun x hx=>(Ctx.start wR []).call hx;refine AB (IK [([0,1,2,3,4,5,6,7,8,9,10,11],12)] (fun x=>Ext [] wR x) [12] mixed (Ext.drew _ wR) ?_);refine AD U U (BC Dm U (fun _ hx=>hx.cell (Aq hb1R 0) (by simp)) ?_);refine Bm U (AC NI U (BC Uy U (fun _ hx=>hx.cell (Aq hbdR (0+0)) (by simp)) ?_));refine B0 U (B9 U (B9 U (PO EZ U (IB U U U ?_))));rw[show((nl:Int) - 1)=((nl - 1:Nat):Int)by omega];refine BX Rl EZ Gg U U (BC B1 U (fun _ hx=>(Rl.ext0 hx).one (f:=fun v=>v) hlast) ?_);refine FC U EZ Gg U U (AV ?_)
    skip
    refine Bf (.slice _ _ _) Gg U U U (Ctx.start1 (show(World.drew wR).heap[bs]?=_ from hbsR)) at0 (by omega) ?_;rintro wE HE;refine Ab (CQ U (B4 (AE ?_)));have hlE:wE.heap[l]?=some (.loop lo2):=by rw[HE.ext.block l (Al hlR) (by simp;omega)];exact hlR
    refine IG hlE hlo2 U U ?_;intro wF hxF hlF;refine⟨rfl,hlF,(h2.trans (hxR.mono (by simp))).trans ((Ext.drew _ _).trans ((HE.ext.mono (by simp)).trans (hxF.mono (by simp)))),?_⟩;rw[hxF.block bs (Al (HE.get at0)) (by simpa using hbsl),HE.get at0,Bp hk,Pg];simp only[qbp,qa2,qcj,hfq]
   .rintro v w3 ⟨wK,hxK,hl3,hx3,hs3⟩;rw[<-Nc m,qbf]at hs3;refine⟨_,hl3,by subst hlo;exact(fun h=>by cases h),HR (by rw[hlo]) ?_⟩;have hx4:=Ext.setB w3 l (.loop { lo with state := .exhausted });generalize w3.putObj l (.loop { lo with state := .exhausted })=w4 at hx4 |-;refine AE (Aa ?_);have hz:Ext [bd,bs,bm] w w4:=(((hx2.trans hxK).mono (by simp)).then hx3 (by intro x h;simp only[qac,qam,or_false]at h |-;omega)).then hx4 (by intro x h;simp only[qac,qam,or_false]at h |-;omega)
    have up4:∀{b:Nat} {o:Obj},w.heap[b]?=some o->b≠bs->w4.heap[b]?=some o:=fun{b o} g1 g2=>by
     have g3:b≠l:=by have:=Al g1;omega
     rw[hx4.block b (qau (Al (up2 g1)) (qaw hxK.size hx3.size)) (by simpa using g3),hx3.block b (qau (Al (up2 g1)) hxK.size) (by simp[g2,g3]),hxK.block b (Al (up2 g1)) (by simp)];exact up2 g1
    have hD4:w4.heap[Db]?=some (.deferred (some [])):=by
     have g3:Db≠l:=by omega
     have g2:Db≠bs:=by omega
     rw[hx4.block Db (qau (Al hD) (qaw hxK.size hx3.size)) (by simpa using g3),hx3.block Db (qau (Al hD) hxK.size) (by simp[g2,g3]),hxK.block Db (Al hD) (by simp)];exact hD
    have hs4:w4.heap[bs]?=some (Bl 24 (laid f sv (Df m))):=by
     rw[hx4.block bs (Al hs3) (by simpa using hbsl)];exact hs3
    have hb14:=up4 hb1L hb1s;have hd4:=up4 D2.hd hbds;have H4:=Ctx.start1 (up4 D2.hm hbms);refine Au (Bd Dm U (Aq hb14 _) ?_);refine A7 U (Af Ko U (Bd RP U (Aq hd4 _) ?_));refine WE U U0 U H4 at0 D2.hM ?_;rintro o' w5 hM' H5;refine qA (Ad (Ae U (Ac U (qA (A6 (N9 (v:=(.int _ _)) U U ?_))))));refine⟨Db,rfl,by rw[H5.ext.block Db (Al hD4) (by simp;omega)];exact hD4,?_⟩;have hxD:=Ext.setB w5 Db (.deferred none);obtain⟨w6,hw6⟩:=qD (w5.putObj Db (.deferred none));rw[<-hw6]at hxD |-;have hz6:Ext [bd,bs,bm] w w6:=(hz.then H5.ext (by intro x h;simp only[qac,qam,or_false]at h |-;omega)).then hxD (by intro x h;simp only[qac,qam,or_false]at h |-;omega)
    have up6:∀{b:Nat} {o:Obj},w4.heap[b]?=some o->b≠bm->b≠Db->w6.heap[b]?=some o:=fun{b o} g1 g2 g3=>by
     rw[hxD.block b (qau (Al g1) H5.ext.size) (by simpa using g3),H5.ext.block b (Al g1) (by simpa using g2)];exact g1
    have hbdm:bd≠bm:=fun h=>by have h1:=D3.rd;rw[h,D3.rm]at h1;omega
    refine⟨by rw[Ds,ho,hg];rfl,?_,?_⟩
    .rw[Cq,ho,hg];refine⟨role,bs,bm,laid f sv (Df m),[],o',D2.swept (A':=Io A.less) hz6 (by simp[Io]) ?_ (up6 hs4 (Ne.symm hbms) (by omega)) ?_ hM' (by rw[NP,D2.len]) ?_ (Ah9 D2.wf),hF⟩
     .rw[show(Io A.less).B.length=A.less.B.length by simp[Io]];exact up6 hd4 hbdm (by omega)
     .rw[hxD.block bm (Al (H5.get at0)) (by simp;omega)];exact H5.get at0
     .intro i p hp
      obtain⟨p0,hp0,rfl⟩:∃p0,A.less.B[i]?=some p0/\p=(stands p0,[]):=by
       simp only[Io,qas,qey]at hp;obtain⟨p0,h1,h2⟩:=hp;exact⟨p0,h1,h2.symm⟩
      have hi:i<A.less.B.length:=(qap.1 hp0).1;refine⟨rfl,?_⟩
      have hr4:∀x∈[bd,bs,bm],role x≠4:=by
       intro x h;simp only[qac,qam,or_false]at h
       rcases h with rfl|rfl|rfl
       .rw[D2.rd];decide
       .rw[D2.rs];decide
       .rw[D2.rm];decide
      rw[Su f sv _ (fun k hk=>by obtain⟨v,hv⟩:=FI hk;obtain⟨j,rfl,_⟩:=D2.keys k v hv;omega) (by rw[D2.len];exact hi)];have hpart:=D2.part i p0 hp0
      split
      .rename_i hin
       obtain⟨v,hv⟩:=FI hin;have hne:p0.2≠[]:=hpart.2.2.1 (by rw[hv];rfl);exact⟨_,rfl,.inr ((hf i p0 hp0 hne).1.keep hz6 hr4 fun _ h=>h)⟩
      .rename_i hin
       have he:p0.2=[]:=Classical.byContradiction fun hne=>by
        obtain⟨v,hv⟩:=qdh.1 (hpart.2.2.2 hne);exact hin (Nf hv)
       obtain⟨v,h1,h2⟩:=hpart.1;refine⟨v,h1,?_⟩;rw[show stands p0=p0.1 by rw[stands,he];rfl];exact h2.keep hz6 hr4 fun _ h=>h
    .refine Turn.trans (.of0 H.ext) (Turn.trans (.of hx1 fun x h=>hF x (by rw[qaa.1 h,D.rd];decide)) (.of ((hx17.mono (by simp)).trans hz6) fun x h=>?_) fun x h => .inl h) fun x h => .inl h;refine hF x ?_;simp only[qac,qam,or_false]at h
     rcases h with rfl|rfl|rfl
     .rw[D2.rd];decide
     .rw[D2.rs];decide
     .rw[D2.rm];decide
  .intro h3;replace h3:=AU h3;have hg:A.goes=true:=by cases h:A.goes <;> simp_all
   refine Ap (Aa (Ad (Ae U (Ac U (qA (A6 (N9 (v:=(.int _ _)) U U ?_)))))));exact⟨by rw[Ds,ho,hg];rfl,by rw[Cq,ho,hg];exact⟨role,bs,bm,sv,m,o,D1,hF⟩,Turn.trans (.of0 H.ext) (.of hx1 fun x h=>hF x (by rw[qaa.1 h,D.rd];decide)) fun x h => .inl h⟩
theorem Ew{α:Type}{l:List α}{i:Nat}{p:α}(h:l[i]?=some p):l.drop i=p::l.drop (i+1):=by
 obtain⟨hi,rfl⟩:=qap.1 h;exact qdz hi
def NR(B:List (Byt × List Byt)):Nat:=B.countP fun p => !p.2.isEmpty
theorem Adl(l:List (Byt × List Byt))(p:Byt × List Byt):NR (l++[p])=if p.2=[]then NR l else NR l+1:=by
 unfold NR;rw[List.countP_append]
 by_cases hp:p.2=[] <;> simp[hp]
def keepI(B:List (Byt × List Byt))(picks:List Int)(i:Nat):List (Byt × List Byt):=En (B.take i) picks++B.drop i
theorem Aic(p:Byt × List Byt)(x:Int)(l:List Int):(max x 0) % ((p.2.length:Int)+1)=((MM p (x::l):Nat):Int):=by
 unfold MM;dsimp only;rw[Int.natCast_emod,Int.toNat_of_nonneg (by omega)];rfl
theorem Adm{xs ys:List Int}(hx:xs.Pairwise (·<·))(hy:ys.Pairwise (·<·))(h:∀k,k∈xs↔k∈ys):xs=ys:=by
 induction xs generalizing ys with
 |nil =>
  cases ys with
  |nil=>rfl
  |cons y ys=>exact absurd ((h y).2 (qaf ..)) (by simp)
 |cons x xs ih =>
  cases ys with
  |nil=>exact absurd ((h x).1 (qaf ..)) (by simp)
  |cons y ys =>
   rw[qbh]at hx hy
   have hxy:x=y:=by
    have h1:=(h x).1 (qaf ..);have h2:=(h y).2 (qaf ..);rw[qac]at h1 h2
    rcases h1 with h1|h1
    .exact h1
    .rcases h2 with h2|h2
     .exact h2.symm
     .have:=hy.1 x h1;have:=hx.1 y h2;omega
   subst hxy
   congr 1
   refine ih hx.2 hy.2 fun k=>?_;have h1:=h k;rw[qac,qac]at h1;constructor
   .intro hk
    rcases h1.1 (.inr hk)with h2|h2
    .have:=hx.1 k hk;omega
    .exact h2
   .intro hk
    rcases h1.2 (.inr hk)with h2|h2
    .have:=hy.1 k hk;omega
    .exact h2
def Lj(B:List (Byt × List Byt)):List Nat:=(List.range B.length).filter fun i => !(B.getD i ([],[])).2.isEmpty
theorem TQ{m:List (Int × Value)}(nd:(m.map (·.1)).Nodup):(Df m).Pairwise (·<·):=by
 have h1:(Df m).Pairwise fun x y=>decide (x<=y)=true:=qfd (by intro a b c;simp;omega) (by intro a b;simp;omega) _;have h2:(Df m).Nodup:=(qce _ _).nodup_iff.2 nd;rw[qdo]at h2;exact(h1.and h2).imp fun⟨h3,h4⟩=>by rw[qaq]at h3;omega
theorem DevR.keys_eq{w:World}{bd:Nat}{A:Dev}{role:Nat->Nat}{bs bm:Nat}{sv:List Value}{m:List (Int × Value)}{o:Obj}(D:DevR w bd A role bs bm sv m o):Df m=(Lj A.B).map Int.ofNat:=by
 refine Adm (TQ D.nd) ?_ fun k=>?_
 .rw[qbs];exact(List.pairwise_lt_range.filter _).imp fun h=>by simpa using h
 .constructor
  .intro hk;obtain⟨v,hv⟩:=FI hk;obtain⟨i,rfl,hi⟩:=D.keys k v hv;obtain⟨p,hp⟩:∃p,A.B[i]?=some p:=⟨_,qbe hi⟩;have hne:=(D.part i p hp).2.2.1 (by rw[hv];rfl);refine qah.2 ⟨i,qbj.2 ⟨qdc.2 hi,?_⟩,rfl⟩;rw[qa9,hp]
   simpa using hne
  .intro hk;obtain⟨i,hi,rfl⟩:=qah.1 hk;rw[Lj,qbj,qdc]at hi;obtain⟨p,hp⟩:∃p,A.B[i]?=some p:=⟨_,qbe hi.1⟩;rw[qa9,hp]at hi;obtain⟨v,hv⟩:=qdh.1 ((D.part i p hp).2.2.2 (by simpa using hi.2));exact Nf hv
theorem Z3(B:List (Byt × List Byt))(q:Nat)(hq:q<=B.length:=by omega):NR (B.take q)=((List.range q).filter fun i => !(B.getD i ([],[])).2.isEmpty).length:=by
 induction q with
 |zero=>rfl
 |succ q ih =>
  obtain⟨p,hp⟩:∃p,B[q]?=some p:=⟨_,qbe (by omega)⟩;rw[Bp hp,Adl,ih (by omega),List.range_succ,qbn,qan,qbk,qa9,hp]
  by_cases h:p.2=[]
  .simp[h]
  .simp[h]
theorem Adn{B:List (Byt × List Byt)}{i q:Nat}(h:(Lj B)[i]?=some q):i=NR (B.take q):=by
 have hm:=qad h;rw[Lj,qbj,qdc]at hm;obtain⟨hq,hne⟩:=hm;rw[Z3 B q]
 have hsp:Lj B=((List.range q).filter fun i => !(B.getD i ([],[])).2.isEmpty)++q::((List.range' (q+1) (B.length - q - 1)).filter fun i => !(B.getD i ([],[])).2.isEmpty):=by
  have hr:List.range B.length=List.range q++q::List.range' (q+1) (B.length - q - 1):=by
   have h1:List.range B.length=List.range' 0 q++List.range' (0+1*q) (B.length - q):=by
    rw[List.range'_append,List.range_eq_range'];congr 1;omega
   rw[h1,List.range_eq_range']
   congr 1
   obtain⟨n,hn⟩:∃n,B.length - q=n+1:=⟨B.length - q - 1,by omega⟩;rw[hn,List.range'_succ];simp
  rw[Lj,hr,qbn,qbk,if_pos hne]
 have hnd:(Lj B).Pairwise (·<·):=List.pairwise_lt_range.filter _;have h2:(Lj B)[((List.range q).filter fun i => !(B.getD i ([],[])).2.isEmpty).length]?=some q:=by rw[hsp];simp
 obtain⟨hi,h3⟩:=qap.1 h;obtain⟨hj,h4⟩:=qap.1 h2;rw[qb9]at hnd
 rcases Nat.lt_trichotomy i ((List.range q).filter fun i => !(B.getD i ([],[])).2.isEmpty).length with h5|h5|h5
 .have:=hnd i _ hi hj h5;omega
 .exact h5
 .have:=hnd _ i hj hi h5;omega
theorem DevR.key_at{w:World}{bd:Nat}{A:Dev}{role:Nat->Nat}{bs bm:Nat}{sv:List Value}{m:List (Int × Value)}{o:Obj}(D:DevR w bd A role bs bm sv m o){i q:Nat}(h:(Df m)[i]?=some (q:Int)):i=NR (A.B.take q):=by
 rw[D.keys_eq,qas,qey]at h;obtain⟨q',h1,h2⟩:=h
 have:q'=q:=Int.ofNat.inj h2
 subst this;exact Adn h1
theorem Sw:∀(B:List (Byt × List Byt)) (picks:List Int) {i:Nat} {p:Byt × List Byt},B[i]?=some p->(En B picks)[i]?=some (if p.2=[]then(p.1,[])else(Pd p (MM p (picks.drop (NR (B.take i)))),[]))
 | [],_,i,p,h=>by simp at h
 |b::B,picks,0,p,h=>by
  simp only[qc7,qbb]at h;subst h;unfold En
  by_cases hb:b.2=[]
  .rw[if_pos hb,if_pos hb];rfl
  .rw[if_neg hb,if_neg hb];rfl
 |b::B,picks,i+1,p,h=>by
  have ih:=Sw B;unfold En;rw[qeh]
  by_cases hb:b.2=[]
  .rw[if_pos hb,qez,ih picks (by simpa using h)]
   congr 6
   simp[NR,hb]
  .rw[if_neg hb,qez,ih picks.tail (by simpa using h)]
   congr 4
   rw[show NR (b::B.take i)=NR (B.take i)+1 by simp[NR,hb]];cases picks <;> simp
theorem Aid{α:Type}{l:List α}{i:Nat}{x:α}(h:l[i]?=some x):l.set i x=l:=by
 apply qci;intro j;rw[qc6]
 by_cases hj:i=j
 .subst hj;rw[if_pos rfl,if_pos (qap.1 h).1,h]
 .rw[if_neg hj]
theorem DevR.picked{w:World}{bd:Nat}{A:Dev}{role:Nat->Nat}{bs bm:Nat}{sv:List Value}{m:List (Int × Value)}{o:Obj}(D:DevR w bd A role bs bm sv m o)(x:Nat->Nat) :
  ∃f:Nat->Value,∀i p,A.B[i]?=some p->p.2≠[]->x i<=p.2.length->SureAt w role (f i) (Pd p (x i))/\(x i=0->sv[i]?=some (f i))/\(0<x i->BytesAt w role (f i) (Pd p (x i))/\∃al n c fl vs,EW m (i:Int)=some (.slice al n c)/\OS al n c 1 fl vs/\n=p.2.length/\(∀y∈ent al 24 fl,w.heap[y.1]?=some y.2/\role y.1=5+i)/\vs[x i - 1]?=some (f i)):=by
 have h:∀i:Nat,∃v,∀p,A.B[i]?=some p->p.2≠[]->x i<=p.2.length->SureAt w role v (Pd p (x i))/\(x i=0->sv[i]?=some v)/\(0<x i->BytesAt w role v (Pd p (x i))/\∃al n c fl vs,EW m (i:Int)=some (.slice al n c)/\OS al n c 1 fl vs/\n=p.2.length/\(∀y∈ent al 24 fl,w.heap[y.1]?=some y.2/\role y.1=5+i)/\vs[x i - 1]?=some v):=fun i=>by
  by_cases hp:∃p,A.B[i]?=some p/\p.2≠[]/\x i<=p.2.length
  .obtain⟨p,hp,hne,hx⟩:=hp;obtain⟨⟨sv0,hs0,hs1⟩,⟨al,n,c,fl,vs,hv,O,hent,hvs⟩,hiff⟩:=D.part i p hp
   by_cases h0:x i=0
   .refine⟨sv0,fun p' hp' _ _=>?_⟩;rw[hp]at hp';cases hp';exact⟨by rw[h0];exact hs1,fun _=>hs0,fun h=>absurd h (by omega)⟩
   .have hn:n=vs.length:=by have:=O.llen;omega
    have hvl:=hvs.1;obtain⟨b,hb⟩:=AP (l:=p.2) (i:=x i - 1);obtain⟨v,hvv⟩:=AP (l:=vs) (i:=x i - 1)
    have hst:Pd p (x i)=b:=by
     rw[Pd,if_neg h0,qa9,hb];rfl
    refine⟨v,fun p' hp' _ _=>?_⟩;rw[hp]at hp';cases hp';have hB:BytesAt w role v (Pd p (x i)):=by rw[hst];exact hvs.2 _ _ _ hvv hb
    refine⟨.inr hB,fun h=>absurd h h0,fun _=>⟨hB,al,n,c,fl,vs,?_,O,by omega,hent,hvv⟩⟩;obtain⟨u,hu⟩:=qdh.1 (hiff.2 hne);rw[hu]at hv |-;rw[<-hv];rfl
  .exact⟨.nilFunc,fun p h1 h2 h3=>absurd ⟨p,h1,h2,h3⟩ hp⟩
 exact⟨fun i=>Classical.choose (h i),fun i=>Classical.choose_spec (h i)⟩
theorem Aln{w:World}{bd:Nat}{A:Dev}{F:Nat->Prop}(a:Option Addr)(c n:Nat)(picks:List Int)(R:Rd w a 1 (fun x:Int=>[.int .i64 x]) picks)(hn:picks.length=n)(hm:n<=9223372036854775000)(hc:n<=c)(hFa:picks=[]\/¬F (adr a).block)(hi64:∀x∈picks,-9223372036854775808<=x/\x<=9223372036854775807){mx:Nat}(hfew:Few A mx)(hmx:mx<=1000000000000)(DA:DevAt w bd A F) :
  Ret prog 18 #[ptr bd,.slice a n c] w fun v w'=>v=.int .i64 (onE A)/\DevAt w' bd (onD A picks) F/\Turn F w w':=by
 subst hn;obtain⟨w0,rfl⟩:=qD w;obtain⟨role,bs,bm,sv,m,o,D,hF⟩:=DA;have H:=Ctx.start w0 [];refine JK (fn:=f18) func18 U [.pointer (some ⟨bd,0,none⟩),.slice a picks.length c] U ?_;refine Ad (Cu _ (.pointer _) U U H ?_);rintro b2 w - H;refine Cu _ (.slice _ _ _) U U H ?_;rintro b3 w - H;refine Ac U (qA (Ar (AB (Ad (AH Dm U H at1 U (BU MK U ?_))))));refine Am U (qA (Bz U (Ad (AH Dm U H at1 U (A7 U (Af Ma U (Bd Ge U (Ctx.old0 H (Aq D.hd _)) ?_)))))));refine Cl U (Am U (qA (Av _ U ?_ ?_)))
 .intro h1;replace h1:=C8 h1;have ho:A.on=true:=by cases h:A.on <;> simp_all
  refine Ad (Ac U (qA (A6 (AK (Ao (N9 (v:=(.int _ _)) U U ?_))))));exact⟨by rw[onE,ho];rfl,by rw[onD,ho];exact⟨role,bs,bm,sv,m,o,D.keep0 H.ext,hF⟩,.of0 H.ext⟩
 .intro h1;replace h1:=CA h1;have ho:A.on=false:=by cases h:A.on <;> simp_all
  have hb2:=H.get at1;have hb3:=H.get at0;have ho2:w0.heap.size<=b2:=(H.own _ (qaj _ (qaf ..))).elim (fun h=>by cases h) id;have ho3:w0.heap.size<=b3:=(H.own _ (qaf ..)).elim (fun h=>by cases h) id;have hb23:b3≠b2:=H.ne at0 at1 (by decide);have hx00:=H.ext;have D1:=D.keep0 H.ext;refine Ap (AE (Aa (Ar (Ad (AH Dm U H at1 U (Aj qB (UA bd _) U ?_))))));rintro v w ⟨bx,rfl,hbx,hbxn,hx17⟩;refine qA (AB ?_);have D2:=D1.keep0 hx17;have hb2L:w.heap[b2]?=some (Bl 27 [ptr bd]):=by rw[hx17.block b2 (Al hb2) (by simp)];exact hb2
  have hb3L:w.heap[b3]?=some (Bl 40 [.slice a picks.length c]):=by rw[hx17.block b3 (Al hb3) (by simp)];exact hb3
  obtain⟨xq,hxq⟩:=qD (fun q=>MM (A.B.getD q ([],[])) (picks.drop (NR (A.B.take q))):Nat->Nat);obtain⟨f,hf⟩:=D2.picked xq;refine HM U qB ?_;intro fn tmps hts htm Db l w2 hDb hl hx2 hD hrec;have D3:=D2.keep0 hx2;have up2:∀{b:Nat} {o:Obj},w.heap[b]?=some o->w2.heap[b]?=some o:=fun{b o} g=>by rw[hx2.block b (Al g) (by simp)];exact g
  obtain⟨lo,hlo,hrec'⟩:∃lo,lo=_/\w2.heap[l]?=some (.loop lo):=⟨_,rfl,hrec⟩;have hhi:=D3.wf.hi;have hlen:m.length<=4096:=qaw D3.few hhi;have hbs0:=D.lt bs (by rw[D.rs];decide);have hbs2:=D2.lt bs (by rw[D2.rs];decide);have hbd1:=D2.lt bd (by rw[D2.rd];decide);have hbm1:=D2.lt bm (by rw[D2.rm];decide);have hbdo:=D.lt bd (by rw[D.rd];decide);have hbmo:=D.lt bm (by rw[D.rm];decide);have hbxL:=Al hbx;have hb3s:=Al hb3L;have hw1:=Al hb3;have hbsl:bs≠l:=by omega
  have hbxs:bx≠bs:=by omega
  have hbx3:bx≠b3:=by omega
  have hbds:bd≠bs:=fun h=>by have h1:=D3.rd;rw[h,D3.rs]at h1;omega
  have hbms:bm≠bs:=fun h=>by have h1:=D3.rm;rw[h,D3.rs]at h1;omega
  have hx02:Ext [] w0 w2:=(H.ext.trans hx17).trans hx2
  refine Ret.mono (St (l:=l) (up2 hbx) D3.hd D3.hm D3.hM D3.nd hlen (fun p hp=>by have:=D3.bound p hp;omega)
   (fun wK i w'=>w'.heap[l]?=some (.loop lo)/\Ext [bs,b3,l] wK w'/\w'.heap[bs]?=some (Bl 24 (laid f sv ((Df m).take i))) /\
    ∃a' c',w'.heap[b3]?=some (Bl 40 [.slice a' (picks.drop i).length c'])/\Rd w0 a' 1 (fun x:Int=>[.int .i64 x]) (picks.drop i)/\(picks.drop i).length<=c'/\(adr a').block=(adr a).block) ?_ ?_ ?_) ?_
  .intro wK hx;refine⟨by rw[hx.block l (Al hrec') (by simp)];exact hrec',.refl _ _,?_,a,c,?_,R,hc,rfl⟩
   .rw[hx.block bs (Al D3.hs) (by simp)];exact D3.hs
   .rw[hx.block b3 (Al (up2 hb3L)) (by simp)];exact up2 hb3L
  .rintro wK i w' hx ⟨h1,h2,h3,h4⟩
   have e1:∀{b:Nat} {o:Obj},w.heap[b]?=some o->b≠bs->b≠b3->w'.heap[b]?=some o:=fun{b o} g1 g2 g4=>by
    have g3:b≠l:=by have:=Al g1;omega
    rw[h2.block b (qau (Al (up2 g1)) hx.size) (by simp[g2,g3,g4]),hx.block b (Al (up2 g1)) (by simp)];exact up2 g1
   refine⟨e1 hbx hbxs hbx3,⟨bs,_,_,e1 D2.hd hbds (by omega)⟩,e1 D2.hm hbms (by omega),_,h2,fun x h=>?_⟩;simp only[qac,qam,or_false]at h
   rcases h with rfl|rfl|rfl
   .exact Al D3.hs
   .exact Al (up2 hb3L)
   .exact Al hrec'
  .rintro wK i k v w' hxK hk hv ⟨h1,h2,h3,a',c',h4,R',hc',ha'⟩;obtain⟨q,rfl,hq⟩:=D3.keys _ v hv;obtain⟨p,hp⟩:∃p,A.B[q]?=some p:=⟨_,qbe hq⟩;have hne:p.2≠[]:=(D3.part q p hp).2.2.1 (by rw[hv];rfl);have hiq:=D3.key_at hk;have hxv:xq q=MM p (picks.drop i):=by rw[hxq,hiq];dsimp only;rw[qa9,hp];rfl
   have hxle:xq q<=p.2.length:=by
    rw[hxv];unfold MM
    split
    .exact qak _
    .exact Nat.le_of_lt_succ (qbm _ (Nat.succ_pos _))
   obtain⟨hsu,hz0,hby⟩:=hf q p hp hne hxle;obtain⟨_,⟨al0,nl,cl0,fl0,vs0,hv0,O0,_,hvs0⟩,_⟩:=D2.part q p hp;rw[hv]at hv0;have hv0:v=.slice al0 nl cl0:=hv0;have hnl:nl=p.2.length:=by have:=O0.llen;have:=hvs0.1;omega
   subst hv0;have hpl:=hfew p (qad hp);subst hlo;refine KW h1 U (IP _ (NQ hts htm) ?_);refine Ad (Ac U (qA (Au (Ak U (Ab (Li h1 U ?_))))));intro wR lo2 hxR hlR hlo2;have hb3l:b3≠l:=by omega
   have eR:∀{b:Nat} {o:Obj},w.heap[b]?=some o->b≠bs->b≠b3->wR.heap[b]?=some o:=fun{b o} g1 g2 g4=>by
    have g3:b≠l:=by have:=Al g1;omega
    have g4:w'.heap[b]?=some o:=by
     rw[h2.block b (qau (Al (up2 g1)) hxK.size) (by simp[g2,g3,g4]),hxK.block b (Al (up2 g1)) (by simp)];exact up2 g1
    rw[hxR.block b (Al g4) (by simpa using g3)];exact g4
   have hx0R:Ext [bs,b3,l] w0 wR:=((hx02.trans hxK).mono (by simp)).trans (h2.trans (hxR.mono (by simp)))
   have hRok:picks.drop i≠[]->(adr a').block∉[bs,b3,l]:=fun hne=>by
    have hne':picks≠[]:=fun h=>hne (by rw[h];simp)
    have hlt:(adr a').block<w0.heap.size:=by
     cases hd:picks.drop i with
     |nil=>exact absurd hd hne
     |cons x xs =>
      have h9:=World.block_lt_of_cell? w0 ⟨(adr a').block,_,none⟩ (R'.cell 0 x (by rw[hd];rfl) 0 _ rfl (by decide));exact h9
    have hnF:=hFa.resolve_left hne'
    have:(adr a').block≠bs:=fun h=>hnF (by rw[<-ha',h];exact hF bs (by rw[D.rs];decide))
    simp only[qac,qam,or_false];omega
   have RR:Rd wR a' 1 (fun x:Int=>[.int .i64 x]) (picks.drop i):=by
    by_cases hne:picks.drop i=[]
    .rw[hne];exact Rd.nil
    .exact R'.ext hx0R (hRok hne)
   have hbdR:=eR D2.hd hbds (by omega);have hb2R:=eR hb2L (by omega) (Ne.symm hb23);have hb3R:wR.heap[b3]?=some (Bl 40 [.slice a' (picks.drop i).length c']):=by rw[hxR.block b3 (Al h4) (by simpa using hb3l)];exact h4
   have hbsR:wR.heap[bs]?=some (Bl 24 (laid f sv ((Df m).take i))):=by rw[hxR.block bs (Al h3) (by simpa using hbsl)];exact h3
   have hlv:(laid f sv ((Df m).take i)).length=sv.length:=NP ..;have hsvl:=D3.len;refine AB (Ad (Ac U (qA (Ar (Ad (Bd IQ U (Aq hb3R 0) ?_))))));refine AO FE U (BZ U U (qA (Gn 17163092096 (α:=Unit) (fun _=>[(7,.int .i64 (xq q:Int))]) (fun _ w5=>Ext [bs,b3,l] wR w5/\(∀x o,wR.heap[x]?=some o->x≠b3->w5.heap[x]?=some o)/\∃a' c',w5.heap[b3]?=some (Bl 40 [.slice a' (picks.drop (i+1)).length c'])/\Rd w0 a' 1 (fun x:Int=>[.int .i64 x]) (picks.drop (i+1))/\(picks.drop (i+1)).length<=c'/\(adr a').block=(adr a).block) U ?_ ?_)))
   .skip
    refine Av _ U ?_ ?_
    .intro g1;replace g1:=AR g1;obtain⟨x,hx0⟩:=AP (l:=picks.drop i) (i:=0)
     have hxx:picks.drop i=x::picks.drop (i+1):=by
      cases hd:picks.drop i with
      |nil=>rw[hd]at hx0;cases hx0
      |cons y ys =>
       rw[hd]at hx0;cases hx0;rw[<-qdq,hd];rfl
     have hxi:=hi64 x (qcy (by rw[hxx];exact qaf ..));have HT:∀x,Ext [] wR x->Ctx wR [] x []:=fun x hx=>(Ctx.start wR []).call hx;have hdl:(picks.drop i).length=(picks.drop (i+1)).length+1:=by rw[hxx];rfl
     refine IK [([0,1,2,3,4,5,6,7,8,9,10],11)] (fun x=>Ext [] wR x) [11] mixed (Ext.drew _ wR) (AD U U ?_);refine BC IQ U (fun _ hx=>hx.cell (Aq hb3R 0) (by simp)) (BX RR FE HN U U (hn:=by rfl) ?_);refine BC DV U (fun _ hx=>(RR.ext0 hx).one (f:=fun x => .int .i64 x) hx0) (An6 U U U ?_);refine B9 U (PO EZ U (Fl U U ?_));refine Am8 U U U (BC IQ U (fun _ hx=>hx.cell (Aq hb3R 0) (by simp)) ?_);refine Gq FE HN U U (Un U U (AV ?_))
     skip
     refine Bf (.slice _ _ _) Sf U U U (Ctx.start1 (show(World.drew wR).heap[b3]?=_ from hb3R)) at0 (Nat.succ_pos _) ?_;rintro wE HE;refine Ab (CQ U (B4 (Aa ?_)));refine⟨(),rfl,⟨?_,trivial⟩,(Ext.drew _ _).trans (HE.ext.mono (by simp)),fun y o h hy=>by rw[HE.ext.block y (Al h) (by simpa using hy)];exact h,EH a' c' 1 1,c' - 1,?_,?_,?_,?_⟩
     .show Value.int .i64 _=_;rw[hxv,hxx,<-Aic,hnl]
     .rw[HE.get at0,hdl];rfl
     .have h9:=R'.cut 1 c' hc'
      rwa [qdq]at h9
     .omega
     .rw[<-ha'];unfold EH;split
      .rfl
      .cases a' <;> rfl
    .intro g1;replace g1:=AU g1;have hd0:picks.drop i=[]:=List.length_eq_zero_iff.1 (by omega);refine Ap (Aa ?_);have hd1:picks.drop (i+1)=[]:=by rw[<-qdq,hd0];rfl
     refine⟨(),rfl,⟨?_,trivial⟩,.refl _ _,fun _ _ h _=>h,a',c',?_,?_,?_,ha'⟩
     .show Value.int .i64 0=_;rw[hxv,hd0];rfl
     .rw[hd1,<-hd0];exact hb3R
     .rw[hd1];exact Rd.nil
     .rw[hd1];exact qak _
   .rintro - j7 w5 ⟨hx5,hs5,a6,c6,h6,R6,hc6,ha6⟩;have e5:∀{b:Nat} {o:Obj},w.heap[b]?=some o->b≠bs->b≠b3->w5.heap[b]?=some o:=fun{b o} g1 g2 g3=>hs5 _ _ (eR g1 g2 g3) g3;have hb25:=e5 hb2L (by omega) (Ne.symm hb23);have hbd5:=e5 D2.hd hbds (by omega);have hbs5:=hs5 _ _ hbsR (by omega);have hl5:=hs5 _ _ hlR (Ne.symm hb3l);refine Ad (Ae U (BZ U U (qA (Av _ U ?_ ?_))))
    .intro g1;replace g1:=AR g1;have hgt:0<xq q:=by omega
     obtain⟨hB,al,n9,c9,fl,vs,hv9,O,hnn,hent,hlast⟩:=hby hgt;rw[hv]at hv9;cases hv9
     have Rl:Rd w5 al0 1 (fun v:Value=>[v]) vs:=OS.rdV O fun x hx=>by
      have hlt:=Al (hent x hx).1;refine e5 (hent x hx).1 (fun h=>by have:=(hent x hx).2;rw[h,D3.rs]at this;omega) fun h=>?_;have h7:=(hent x hx).2;have:=D.lt x.1 (by omega);omega
     have hvn:nl=vs.length:=by have:=O.llen;omega
     obtain⟨a8,c8,hfq,_⟩:=hB;rw[hfq]at hlast;have HT:∀x,Ext [] w5 x->Ctx w5 [] x []:=fun x hx=>(Ctx.start w5 []).call hx;refine IK [([0,1,2,3,4,5,6,7,8,9,10],11)] (fun x=>Ext [] w5 x) [11] mixed (Ext.drew _ w5) (AD U U ?_);refine BC Dm U (fun _ hx=>hx.cell (Aq hb25 0) (by simp)) ?_;refine Bm U (AC NI U (BC Uy U (fun _ hx=>hx.cell (Aq hbd5 (0+0)) (by simp)) ?_));refine B0 U (B9 U (B0 U (IB U U U ?_)));rw[show((xq q:Int) - 1)=((xq q - 1:Nat):Int)by omega];refine BX Rl EZ Gg U U (BC B1 U (fun _ hx=>(Rl.ext0 hx).one (f:=fun v=>v) hlast) ?_);refine FC U EZ Gg U U (AV ?_)
     skip
     refine Bf (.slice _ _ _) Gg U U U (Ctx.start1 (show(World.drew w5).heap[bs]?=_ from hbs5)) at0 (by omega) ?_;rintro wE HE;refine Ab (CQ U (B4 (AE ?_)));have hlE:wE.heap[l]?=some (.loop lo2):=by rw[HE.ext.block l (Al hl5) (by simp;omega)];exact hl5
     refine IG hlE hlo2 U U ?_;intro wF hxF hlF;refine⟨rfl,hlF,(h2.trans (hxR.mono (by simp))).trans (hx5.trans ((Ext.drew _ _).trans ((HE.ext.mono (by simp)).trans (hxF.mono (by simp))))),?_,a6,c6,?_,R6,hc6,ha6⟩
     .rw[hxF.block bs (Al (HE.get at0)) (by simpa using hbsl),HE.get at0,Bp hk,Pg];simp only[qbp,qa2,qcj,hfq]
     .have h7:wE.heap[b3]?=some (Bl 40 [.slice a6 (picks.drop (i+1)).length c6]):=by rw[HE.ext.block b3 (Al h6) (by simp;omega)];exact h6
      rw[hxF.block b3 (Al h7) (by simpa using hb3l)];exact h7
    .intro g1;replace g1:=AU g1;have hz9:xq q=0:=by omega
     refine Ap (AE (IG hl5 hlo2 U U ?_));intro wF hxF hlF;refine⟨rfl,hlF,(h2.trans (hxR.mono (by simp))).trans (hx5.trans (hxF.mono (by simp))),?_,a6,c6,?_,R6,hc6,ha6⟩
     .rw[hxF.block bs (Al hbs5) (by simpa using hbsl),hbs5,Bp hk,Pg,qbp,Aid];rw[Su f sv _ (fun k hk=>by obtain⟨v,hv⟩:=FI (qbq hk);obtain⟨j,rfl,_⟩:=D2.keys k v hv;omega) (by rw[D2.len];exact hq),hz0 hz9]
      split <;> rfl
     .rw[hxF.block b3 (Al h6) (by simpa using hb3l)];exact h6
  .rintro v w3 ⟨wK,hxK,hl3,hx3,hs3,_⟩;rw[<-Nc m,qbf]at hs3;refine⟨_,hl3,by subst hlo;exact(fun h=>by cases h),HR (by rw[hlo]) ?_⟩;have hx4:=Ext.setB w3 l (.loop { lo with state := .exhausted });generalize w3.putObj l (.loop { lo with state := .exhausted })=w4 at hx4 |-;refine AE (Aa ?_);have hz:Ext [bd,bs,bm,b3] w w4:=(((hx2.trans hxK).mono (by simp)).then hx3 (by intro x h;simp only[qac,qam,or_false]at h |-;omega)).then hx4 (by intro x h;simp only[qac,qam,or_false]at h |-;omega)
   have up4:∀{b:Nat} {o:Obj},w.heap[b]?=some o->b≠bs->b≠b3->w4.heap[b]?=some o:=fun{b o} g1 g2 g4=>by
    have g3:b≠l:=by have:=Al g1;omega
    rw[hx4.block b (qau (Al (up2 g1)) (qaw hxK.size hx3.size)) (by simpa using g3),hx3.block b (qau (Al (up2 g1)) hxK.size) (by simp[g2,g3,g4]),hxK.block b (Al (up2 g1)) (by simp)];exact up2 g1
   have hD4:w4.heap[Db]?=some (.deferred (some [])):=by
    have g3:Db≠l:=by omega
    have g2:Db≠bs:=by omega
    have g4:Db≠b3:=by omega
    rw[hx4.block Db (qau (Al hD) (qaw hxK.size hx3.size)) (by simpa using g3),hx3.block Db (qau (Al hD) hxK.size) (by simp[g2,g3,g4]),hxK.block Db (Al hD) (by simp)];exact hD
   have hs4:w4.heap[bs]?=some (Bl 24 (laid f sv (Df m))):=by
    rw[hx4.block bs (Al hs3) (by simpa using hbsl)];exact hs3
   have hb24:=up4 hb2L (by omega) (Ne.symm hb23);have hd4:=up4 D2.hd hbds (by omega);have H4:=Ctx.start1 (up4 D2.hm hbms (by omega));refine Ad (Bd Dm U (Aq hb24 _) ?_);refine A7 U (Af Ko U (Bd RP U (Aq hd4 _) ?_));refine WE U U0 U H4 at0 D2.hM ?_;rintro o' w5 hM' H5;refine qA ?_;have hbdm:bd≠bm:=fun h=>by have h1:=D3.rd;rw[h,D3.rm]at h1;omega
   have hb25:w5.heap[b2]?=some (Bl 27 [ptr bd]):=by rw[H5.ext.block b2 (Al hb24) (by simp;omega)];exact hb24
   have hd5:w5.heap[bd]?=some (Bl TD (DB A.B.length bs bm A.left A.on)):=by rw[H5.ext.block bd (Al hd4) (by simpa using hbdm)];exact hd4
   replace H:=Ctx.start1 hd5;have HT:∀x,Ext [bd] w5 x->Ctx w5 [bd] x []:=fun x hx=>⟨hx,by simp,List.Pairwise.nil,by simp⟩;refine BV [([0,1,2,3],4),([5,6],7)] (fun x=>Ext [bd] w5 x) [] mixed (Ext.drew _ w5) (AD U U ?_);refine BC Dm U (fun _ hx=>hx.cell (Aq hb25 0) (by simp;omega)) ?_;refine BC Dm U (fun _ hx=>hx.cell (Aq hb25 0) (by simp;omega)) ?_;refine Bm U (AC Ma U (AV ?_));replace H:=H.drew;refine Bf (.bool _) Ahq U U U H at0 (by(simp;done)) ?_;rintro w H;refine Ab (Bb (H.ext) (AD U U ?_));refine Bm U (AC Q2 U (AV (Bf (.int _ _) HN U U U H at0 (by(simp;done)) ?_)));rintro w H;refine Ab (Bb (H.ext) (B4 (Ad (Ac U (qA (A6 (N9 (v:=(.int _ _)) U U ?_)))))));refine⟨Db,rfl,by rw[H.ext.block Db (qau (Al hD4) H5.ext.size) (by simp;omega),H5.ext.block Db (Al hD4) (by simp;omega)];exact hD4,?_⟩
   have hxD:=Ext.setB w Db (.deferred none);generalize w.putObj Db (.deferred none)=w6 at hxD |-;have hz5:=hz.then H5.ext (fun x h => .inl (by rw[qaa.1 h];simp));have hz5':=hz5.then H.ext (fun x h => .inl (by rw[qaa.1 h];simp));have hz6:=hz5'.then hxD (fun x h=>by have h9:x=Db:=qaa.1 h;right;omega);have hz06:Ext [bd,bs,bm] w0 w6:=((hx00.trans hx17).mono (by simp)).then hz6 (by intro x h;simp only[qac,qam,or_false]at h |-;omega)
   have up6:∀{b:Nat} {o:Obj},w5.heap[b]?=some o->b≠bd->b≠Db->w6.heap[b]?=some o:=fun{b o} g1 g2 g3=>by
    rw[hxD.block b (qau (Al g1) H.ext.size) (by simpa using g3),H.ext.block b (Al g1) (by simpa using g2)];exact g1
   refine⟨by rw[onE,ho];rfl,?_,?_⟩
   .rw[onD,ho];refine⟨role,bs,bm,laid f sv (Df m),[],o',D.swept (A':=⟨En A.B picks,-1,true⟩) hz06 (GN ..) ?_ (up6 (by rw[H5.ext.block bs (Al hs4) (by simp;omega)];exact hs4) (Ne.symm hbds) (by omega)) (up6 (H5.get at0) (Ne.symm hbdm) (by omega)) hM' (by rw[NP,D2.len]) ?_ (by have h9:=on_wf D.wf picks;rwa [onD,ho]at h9),hF⟩
    .rw[show(Dev.B ⟨En A.B picks,-1,true⟩).length=A.B.length from GN ..,hxD.block bd (Al (H.get at0)) (by simp;omega)];exact H.get at0
    .intro i p hp;have hi:i<A.B.length:=by have:=(qap.1 hp).1;rwa [GN]at this
     obtain⟨p0,hp0⟩:∃p0,A.B[i]?=some p0:=⟨_,qbe hi⟩;have hp:(En A.B picks)[i]?=some p:=hp;rw[Sw A.B picks hp0]at hp;cases hp
     have hr4:∀x∈[bd,bs,bm,b3],role x≠4:=by
      intro x h;simp only[qac,qam,or_false]at h
      rcases h with rfl|rfl|rfl|rfl
      .rw[D2.rd];decide
      .rw[D2.rs];decide
      .rw[D2.rm];decide
      .intro h9;have:=D.lt x (by omega);omega
     rw[Su f sv _ (fun k hk=>by obtain⟨v,hv⟩:=FI hk;obtain⟨j,rfl,_⟩:=D2.keys k v hv;omega) (by rw[D2.len];exact hi)];have hpart:=D2.part i p0 hp0
     by_cases hne:p0.2=[]
     .rw[if_pos hne,if_neg (fun hin=>by obtain⟨v,hv⟩:=FI hin;exact hpart.2.2.1 (by rw[hv];rfl) hne)];obtain⟨v,h1,h2⟩:=hpart.1;exact⟨rfl,v,h1,h2.keep hz6 hr4 fun _ h=>h⟩
     .obtain⟨v,hv⟩:=qdh.1 (hpart.2.2.2 hne);rw[if_neg hne,if_pos (Nf hv)];have hxv:xq i=MM p0 (picks.drop (NR (A.B.take i))):=by rw[hxq];dsimp only;rw[qa9,hp0];rfl
      have hxle:xq i<=p0.2.length:=by
       rw[hxv];unfold MM
       split
       .exact qak _
       .exact Nat.le_of_lt_succ (qbm _ (Nat.succ_pos _))
      refine⟨rfl,_,rfl,?_⟩;have h9:=(hf i p0 hp0 hne hxle).1;rw[hxv]at h9;exact h9.keep hz6 hr4 fun _ h=>h
   .refine .of hz06 fun x h=>hF x ?_;simp only[qac,qam,or_false]at h
    rcases h with rfl|rfl|rfl
    .rw[D2.rd];decide
    .rw[D2.rs];decide
    .rw[D2.rm];decide
structure Own(w0 w:World)(bd:Nat)(A:Dev)(F:Nat->Prop):Prop where
 ext:Ext [] w0 w
 dev:DevAt w bd A F
 own:∀x,F x->w0.heap.size<=x/\x<w.heap.size
def Grown(F F':Nat->Prop)(w w':World):Prop:=Turn F w w'/\∀x,F' x->F x\/w.heap.size<=x
theorem Turn.new{F:Nat->Prop}{w0 w w':World}(h:Turn F w w')(hx:Ext [] w0 w)(hF:∀x,F x->w0.heap.size<=x):Ext [] w0 w' :=
 let ⟨_,hS,h⟩:=h;hx.then h fun x hx => .inr (hF x (hS x hx))
theorem Own.grow{w0 w w':World}{bd:Nat}{A A':Dev}{F:Nat->Prop}(O:Own w0 w bd A F)(h:DevAt w' bd A' (grow F w w'))(t:Turn F w w'):Own w0 w' bd A' (grow F w w')/\Grown F (grow F w w') w w' :=
 ⟨⟨t.new O.ext fun x h=>(O.own x h).1,h,fun x hx=>by
  have h1:=t.size;have h2:=O.ext.size
  rcases hx with hx|hx
  .have:=O.own x hx;omega
  .omega⟩,t,fun x hx=>hx.elim .inl fun h => .inr h.1⟩
theorem Own.same{w0 w w':World}{bd:Nat}{A A':Dev}{F:Nat->Prop}(O:Own w0 w bd A F)(h:DevAt w' bd A' F)(t:Turn F w w'):Own w0 w' bd A' F/\Grown F F w w' :=
 ⟨⟨t.new O.ext fun x h=>(O.own x h).1,h,fun x hx=>by have h1:=t.size;have:=O.own x hx;omega⟩,t,fun x hx => .inl hx⟩
theorem Own.call{w0 w w':World}{bd:Nat}{A:Dev}{F:Nat->Prop}(O:Own w0 w bd A F)(hx:Ext [] w w'):Own w0 w' bd A F :=
 ⟨O.ext.trans hx,O.dev.keep0 hx,fun x h=>by have:=O.own x h;have:=hx.size;omega⟩
def Rdx(w:World)(F:Nat->Prop)(a:Option Addr)(l:Byt):Prop:=Rd w a 1 B8 l/\(l=[]\/¬F (adr a).block)
theorem Rd.lt8{w:World}{a:Option Addr}{l:Byt}(R:Rd w a 1 B8 l):l=[]\/(adr a).block<w.heap.size:=by
 cases l with
 |nil=>exact .inl rfl
 |cons x l =>
  have h9:=World.block_lt_of_cell? w ⟨(adr a).block,_,none⟩ (R.cell 0 x rfl 0 _ rfl (by decide));exact .inr h9
theorem Rdx.turn{w w':World}{F F':Nat->Prop}{a:Option Addr}{l:Byt}(h:Rdx w F a l)(t:Grown F F' w w'):Rdx w' F' a l:=by
 obtain⟨R,hn⟩:=h
 rcases hn with rfl|hn
 .exact⟨Rd.nil,.inl rfl⟩
 .obtain⟨⟨S,hS,hx⟩,hF⟩:=t;refine⟨R.ext hx fun h=>hn (hS _ h),?_⟩
  rcases Rd.lt8 R with h1|h1
  .exact .inl h1
  .exact .inr fun h=>(hF _ h).elim hn fun h=>by omega
theorem Rdx.call{w w':World}{F:Nat->Prop}{a:Option Addr}{l:Byt}(h:Rdx w F a l)(hx:Ext [] w w'):Rdx w' F a l:=⟨h.1.ext0 hx,h.2⟩
theorem Own.loaded{w0 w w':World}{bd:Nat}{A:Dev}{F:Nat->Prop}{a:Option Addr}{l:Byt}(O:Own w0 w bd A F)(R:Rd w' a 1 B8 l)(hn:l=[]\/w.heap.size<=(adr a).block):Rdx w' F a l :=
 ⟨R,hn.imp id fun h hF=>by have:=O.own _ hF;omega⟩
theorem Own.old{w0 w:World}{bd:Nat}{A:Dev}{F:Nat->Prop}{a:Option Addr}{l:Byt}(O:Own w0 w bd A F)(R:Rd w0 a 1 B8 l):Rdx w F a l :=
 ⟨R.ext0 O.ext,(Rd.lt8 R).imp id fun h hF=>by have:=O.own _ hF;omega⟩
theorem Aie{w0 w:World}{bd:Nat}{A:Dev}{F:Nat->Prop}(O:Own w0 w bd A F)(a:Option Addr)(c n:Nat)(picks:List Int)(R:Rd w a 1 (fun x:Int=>[.int .i64 x]) picks)(hn:picks.length=n)(hm:n<=9223372036854775000)(hc:n<=c)(hFa:picks=[]\/¬F (adr a).block)(hi64:∀x∈picks,-9223372036854775808<=x/\x<=9223372036854775807){mx:Nat}(hfew:Few A mx)(hmx:mx<=1000000000000:=by decide):
  Ret prog 18 #[ptr bd,.slice a n c] w fun v w'=>v=.int .i64 (onE A)/\Own w0 w' bd (onD A picks) F/\Grown F F w w' :=
 (Aln a c n picks R hn hm hc hFa hi64 hfew hmx O.dev).mono fun _ _ ⟨hv,hd,ht⟩=>⟨hv,O.same hd ht⟩
theorem Abo{w0 w:World}{bd:Nat}{A:Dev}{F:Nat->Prop}(O:Own w0 w bd A F) :
  Ret prog 17 #[ptr bd] w fun v w'=>v=.int .i64 (bif A.on then 0 else 8)/\Own w0 w' bd (KF A) F/\Grown F F w w' :=
 (Alk O.dev).mono fun _ _ ⟨hv,hd,ht⟩=>⟨hv,O.same hd ht⟩
theorem Abp{n:Int}(h1:1<=n)(h2:n<=4096)(w:World):Ret prog 9 #[.int .i64 n] w fun v w'=>∃bd F,v=.tuple #[ptr bd,.int .i64 0]/\Own w w' bd (Fu n.toNat) F :=
 (All n w).mono fun _ _ ⟨hx,h⟩=>by
  rcases h with⟨he,_⟩|⟨_,_,_,bd,rfl,hd⟩
  .rw[Ah8,qag (show ¬n<1 by omega),qag (show ¬4096<n by omega)]at he;cases he
  .exact⟨bd,_,rfl,hx,hd,fun x h=>h⟩
end Go.Proofs.YtcpgbcabmcbclaaGreatDoor
