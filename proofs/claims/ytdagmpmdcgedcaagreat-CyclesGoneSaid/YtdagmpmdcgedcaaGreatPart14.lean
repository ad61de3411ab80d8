/- Part 14 of the proof. -/
import Derived.Test.YtdagmpmdcgedcaaGreatPart13
set_option maxHeartbeats 4000000
namespace Go.Proofs.YtdagmpmdcgedcaaGreat
open Go.GV Go.Proofs.Tryz
abbrev Du.enc(d:Du):List Value:=CM d
def Du.fine(d:Du):Bool :=
 !decide (d.fr=d.to) && (E5 d.fr && (E5 d.to && (decide (1<=d.am) && (decide (d.am<=4503599627370496) && (decide (1<=d.we) && (decide (d.we<=1000) && decide (0<=d.un)))))))
end Go.Proofs.YtdagmpmdcgedcaaGreat
namespace Go.Proofs.YtdagmpmdcgedcaaGreat.Cy
open Go.GV Go.Proofs.Tryz
attribute [local irreducible] AN W Wq
theorem Zz(k:Int)(w:World):Ret prog 202 #[.int .i64 k] w fun v w'=>v=.bool (E5 k)/\w=w':=by
 refine A2 (fn:=f202) func202 U [.int .i64 k] U (Ad (Ai U (qA (Ad (Ae U (Cq U U (Au U (AE 5 U ?_ ?_))))))))
 .intro h1;replace h1:=AJ h1;refine Ae U (AZ U U (A8 U (.bool _) U (Ai U (qA (A6 (AD (v:=(.bool _)) U U U ?_))))));exact⟨qaa Value.bool (by rw[qad];simp[E5];try omega),rfl⟩
 .intro h2;replace h2:=AK h2;refine Ag U (Ag U (AA U (.bool _) U (Ai U (qA (A6 (AD (v:=(.bool _)) U U U ?_))))));exact⟨qaa Value.bool (by rw[qad];simp[E5];try omega),rfl⟩
theorem Akz(d:Du)(w:World):Ret prog 159 #[.agg d.enc.toArray] w fun v w'=>v=.bool d.fine/\Ext [] w w':=by
 have H:=Ctx.start w [];refine A2 (fn:=f159) func159 U [.agg d.enc.toArray] U (Ad (Bu _ (.agg _) U U H ?_));rintro b1 w - H;refine Ai U (qA (Ad (Dg U (.func _ _ _) U ?_)));refine qA (Ad (Ah Dk U (AG B6 U H at0 U (Ah D7 U (AG B6 U H at0 U (C0 U U (Au U (AE 9 U ?_ ?_))))))))
 .intro h1;replace h1:=CC h1;refine De U (.func _ _ _) U (Ah Dk U (AG B6 U H at0 U (EC U qB (Zz _ w) U ?_)));rintro v w ⟨rfl,rfl⟩;refine A8 U (.bool _) U (Au U (AE 15 U ?_ ?_))
  .intro h2;refine De U (.func _ _ _) U (Ah D7 U (AG B6 U H at0 U (EC U qB (Zz _ w) U ?_)));rintro v w ⟨rfl,rfl⟩;refine A8 U (.bool _) U (Au U (AE 21 U ?_ ?_))
   .intro h3;refine Ah Dl U (AG Bm U H at0 U (Cq U U (A8 U (.bool _) U (Au U (AE 26 U ?_ ?_)))))
    .intro h4;replace h4:=AJ h4;refine Ah Dl U (AG Bm U H at0 U (Ib U U (A8 U (.bool _) U (Au U (AE 31 U ?_ ?_)))))
     .intro h5;replace h5:=AJ h5;refine Ah Hs U (AG Bm U H at0 U (Cq U U (A8 U (.bool _) U (Au U (AE 36 U ?_ ?_)))))
      .intro h6;replace h6:=AJ h6;refine Ah Hs U (AG Bm U H at0 U (Ib U U (A8 U (.bool _) U (Au U (AE 41 U ?_ ?_)))))
       .intro h7;replace h7:=AJ h7;refine Ah Nc U (AG Bm U H at0 U (Cq U U (A8 U (.bool _) U (Ai U (qA (A6 (AD (v:=(.bool _)) U U U ?_)))))));exact⟨qaa Value.bool (by simp_all[Du.fine];try omega),H.ext⟩
       .intro h8;replace h8:=AK h8;refine Ag U (Ag U (Ag U (AA U (.bool _) U (Ai U (qA (A6 (AD (v:=(.bool _)) U U U ?_)))))));exact⟨qaa Value.bool (by simp_all[Du.fine];try omega),H.ext⟩
      .intro h9;replace h9:=AK h9;refine Ag U (Ag U (Ag U (AA U (.bool _) U (Au U (Ag U (Ag U (Ag U (AA U (.bool _) U (Ai U ?_)))))))));refine qA (A6 (AD (v:=(.bool _)) U U U ?_));exact⟨qaa Value.bool (by simp_all[Du.fine];try omega),H.ext⟩
     .intro h10;replace h10:=AK h10;refine Ag U (Ag U (Ag U (AA U (.bool _) U (Au U (Ag U (Ag U (Ag U (AA U (.bool _) U (Au U ?_)))))))));refine Ag U (Ag U (Ag U (AA U (.bool _) U (Ai U (qA (A6 (AD (v:=(.bool _)) U U U ?_)))))));exact⟨qaa Value.bool (by simp_all[Du.fine];try omega),H.ext⟩
    .intro h11;replace h11:=AK h11;refine Ag U (Ag U (Ag U (AA U (.bool _) U (Au U (Ag U (Ag U (Ag U (AA U (.bool _) U (Au U ?_)))))))));refine Ag U (Ag U (Ag U (AA U (.bool _) U (Au U (Ag U (Ag U (Ag U (AA U (.bool _) U (Ai U ?_)))))))));refine qA (A6 (AD (v:=(.bool _)) U U U ?_));exact⟨qaa Value.bool (by simp_all[Du.fine];try omega),H.ext⟩
   .intro h12;refine Ag U (Ag U (Ag U (AA U (.bool _) U (Au U (Ag U (Ag U (Ag U (AA U (.bool _) U (Au U ?_)))))))));refine Ag U (Ag U (Ag U (AA U (.bool _) U (Au U (Ag U (Ag U (Ag U (AA U (.bool _) U (Au U ?_)))))))));refine Ag U (Ag U (Ag U (AA U (.bool _) U (Ai U (qA (A6 (AD (v:=(.bool _)) U U U ?_)))))));exact⟨qaa Value.bool (by simp_all[Du.fine];try omega),H.ext⟩
  .intro h13;refine Ag U (Ag U (Ag U (Ag U (AA U (.bool _) U (Au U (Ag U (Ag U (Ag U (AA U (.bool _) U ?_)))))))));refine Au U (Ag U (Ag U (Ag U (AA U (.bool _) U (Au U (Ag U (Ag U (Ag U (AA U (.bool _) U ?_)))))))));refine Au U (Ag U (Ag U (Ag U (AA U (.bool _) U (Au U (Ag U (Ag U (Ag U (AA U (.bool _) U ?_)))))))));refine Ai U (qA (A6 (AD (v:=(.bool _)) U U U ?_)));exact⟨qaa Value.bool (by simp_all[Du.fine];try omega),H.ext⟩
 .intro h14;replace h14:=CD h14;refine Ag U (Ag U (Ag U (Ag U (AA U (.bool _) U (Au U (Ag U (Ag U (Ag U (Ag U ?_)))))))));refine AA U (.bool _) U (Au U (Ag U (Ag U (Ag U (AA U (.bool _) U (Au U (Ag U (Ag U (Ag U ?_)))))))));refine AA U (.bool _) U (Au U (Ag U (Ag U (Ag U (AA U (.bool _) U (Au U (Ag U (Ag U (Ag U ?_)))))))));refine AA U (.bool _) U (Au U (Ag U (Ag U (Ag U (AA U (.bool _) U (Ai U (qA (A6 (AD (v:=(.bool _)) U U U ?_)))))))));exact⟨qaa Value.bool (by simp_all[Du.fine];try omega),H.ext⟩
theorem Ak0(d:Du)(w:World):Ret prog 158 #[.agg d.enc.toArray] w fun v w'=>v=.bool (!d.fine)/\Ext [] w w':=by
 have H:=Ctx.start w [];refine A2 (fn:=f158) func158 U [.agg d.enc.toArray] U (Ad (Bu _ (.agg _) U U H ?_));rintro b1 w - H;refine Ai U (qA (Ad (BV EF BC U H at0 U (Am qB (Akz d w) U ?_))));rintro v w ⟨rfl,hx⟩;refine B1 U (Ai U (qA (A6 (AD (v:=(.bool _)) U U U ?_))));exact⟨rfl,H.ext.trans hx⟩
def Asks(w:World)(f:Nat)(ca:List Value)(p:Du->Bool):Prop:=∀d w',Ext [] w w'->Ret prog f (.agg d.enc.toArray::ca).toArray w' fun v w''=>v=.bool (p d)/\Ext [] w' w''
theorem Ahv(a:Option Addr)(c:Nat)(xs:List Du)(f:Nat)(ca:List Value)(p:Du->Bool)(w:World)(R:Rd w a 7 Du.enc xs)(hm:xs.length<=9223372036854775807)(hf:A0 prog f=true)(hp:Asks w f ca p) :
  Ret prog 201 #[.slice a xs.length c,.func (.func f) #[] ca.toArray] w fun v w'=>(∃n:Int,v=.int .i64 n/\decide (0<=n)=xs.any p)/\Ext [] w w':=by
 have H:=Ctx.start w [];refine A2 (fn:=f201) func201 U [.slice a xs.length c,.func (.func f) #[] ca.toArray] U (Ad (Af U (qA (Ap (Ad (Ao U (AU BT U (Ae U (qA (Ax ?_))))))))));refine Bn 524080 (α:=Nat) (fun k=>[(8,.int .i64 k)]) (fun k w'=>k<=xs.length/\Ctx w [] w' []/\(xs.take k).any p=false) (fun k=>xs.length - k) 0 U ?_ ?_ ?_
 .exact⟨rfl,trivial⟩
 .exact⟨qaf _,H,rfl⟩
 .rintro k j w1 ⟨hk,H,hn⟩;refine Ad (AZ U U (qA (Ap (Av _ U ?_ ?_))))
  .intro h1;replace h1:=AJ h1;obtain⟨d,hd⟩:=AB (l:=xs) (i:=k);refine Aq (Aa (Ap (Ax (Ad (Ae U (Af U (qA (Ad (De U (.func _ _ _) U ?_)))))))));refine Ao U (Ae U (AM R BT BC U U (by rfl) ?_));refine Ca d.enc EF BC U U ((R.ext0 H.ext).row hd U) (EC U hf (hp d _ H.ext) U ?_);rintro v w1 ⟨rfl,hx⟩;refine qA (Av _ U ?_ ?_)
   .intro h2;refine Ad (Ae U (Af U (qA (A6 (A5 (Al (Al (A5 (Al (AD (v:=(.int _ _)) U U U ?_))))))))));refine⟨⟨k,rfl,?_⟩,H.ext.trans hx⟩;rw[qal (by omega)];exact(List.any_eq_true.2 ⟨d,qac hd,h2⟩).symm
   .intro h2;refine Aq (A7 (Aa (Ay (Aw U U ?_))));refine Ae U (qA ?_);refine⟨k+1,rfl,⟨by simp[put],trivial⟩,⟨by omega,H.call hx,?_⟩,by omega⟩;rw[CP hd,List.any_append,hn];simp[h2]
  .intro h1;replace h1:=AK h1;refine Be (Aj (Aj (AH (Aa (Ad (Af U (qA (A6 (AD (v:=(.int _ _)) U U U ?_)))))))));refine⟨⟨-1,rfl,?_⟩,H.ext⟩;rw[qcf (by omega)]at hn;rw[hn];rfl
theorem Pf(a:Option Addr)(c:Nat)(xs:List Du)(f:Nat)(ca:List Value)(p:Du->Bool)(w:World)(R:Rd w a 7 Du.enc xs)(hm:xs.length<=9223372036854775807)(hf:A0 prog f=true)(hp:Asks w f ca p) :
  Ret prog 157 #[.slice a xs.length c,.func (.func f) #[] ca.toArray] w fun v w'=>v=.bool (xs.any p)/\Ext [] w w':=by
 refine A2 (fn:=f157) func157 U [.slice a xs.length c,.func (.func f) #[] ca.toArray] U (Ad (Ai U (qA (Ad (Ao U (De U (.func _ _ _) U ?_))))));refine Am qB (Ahv a c xs f ca p w R hm hf hp) U ?_;rintro v w1 ⟨⟨n,rfl,hn⟩,hx⟩;refine Cq U U (Ai U (qA (A6 (AD (v:=(.bool _)) U U U ?_))));exact⟨qaa Value.bool hn,hx⟩
def Ow(xs:List Du):Bool:=decide (xs.length<=64) && xs.all Du.fine
def MD(banks:Int)(xs:List Du):Bool:=xs.all fun d=>decide (d.fr<banks) && decide (d.to<banks)
theorem XW(a:Option Addr)(c:Nat)(xs:List Du)(w:World)(R:Rd w a 7 Du.enc xs)(hm:xs.length<=9223372036854775807) :
  Ret prog 94 #[.slice a xs.length c] w fun v w'=>v=.bool (Ow xs)/\Ext [] w w':=by
 refine A2 (fn:=f94) func94 U [.slice a xs.length c] U (Ad (Ai U (qA (Ad (Ao U (AU BT U (Ib U U (Au U (AE 6 U ?_ ?_)))))))))
 .intro h1;replace h1:=AJ h1;refine Ao U (Am qB (Pf a c xs 158 [] (fun d => !d.fine) w R hm qB (fun d w' _=>Ak0 d w')) U ?_);rintro v w1 ⟨rfl,hx⟩;refine B1 U (A8 U (.bool _) U (Ai U (qA (A6 (AD (v:=(.bool _)) U U U ?_)))));refine⟨qaa Value.bool ?_,hx⟩;have h2:xs.length<=64:=by omega
  rw[Yq,Bool.not_not];simp[Ow,h2]
 .intro h1;replace h1:=AK h1;refine Ag U (Ag U (Ag U (AA U (.bool _) U (Ai U (qA (A6 (AD (v:=(.bool _)) U U U ?_)))))));refine⟨qaa Value.bool ?_,Ext.refl _ _⟩;have h2:¬xs.length<=64:=by omega
  simp[Ow,h2]
theorem Abz(d:Du)(b:Nat)(banks:Int)(w:World)(hb:w.heap[b]?=some (Bl 3 [.int .i64 banks])) :
  Ret prog 160 #[.agg d.enc.toArray,.pointer (some ⟨b,0,none⟩)] w fun v w'=>v=.bool (!(decide (d.fr<banks) && decide (d.to<banks)))/\Ext [] w w':=by
 have H:=Ctx.start w [];refine A2 (fn:=f160) func160 U [.agg d.enc.toArray,.pointer (some ⟨b,0,none⟩)] U ?_;refine Ad (Bu _ (.agg _) U U H ?_);rintro b2 w - H;refine Ai U (qA (Ad (Ah Dk U (AG B6 U H at0 U (Ba B6 U (H.old0 (p:=⟨b,0,none⟩) (An hb 0)) ?_)))));refine Cq U U (Au U (AE 8 U ?_ ?_))
 .intro h1;replace h1:=AJ h1;refine Ag U (Ag U (Ag U (Ag U (A8 U (.bool _) U (Ai U (qA (A6 (AD (v:=(.bool _)) U U U ?_))))))));exact⟨qaa Value.bool (by rw[qad];simp;try omega),H.ext⟩
 .intro h2;replace h2:=AK h2;refine Ah D7 U (AG B6 U H at0 U (Ba B6 U (H.old0 (p:=⟨b,0,none⟩) (An hb 0)) ?_));refine Cq U U (AA U (.bool _) U (Ai U (qA (A6 (AD (v:=(.bool _)) U U U ?_)))));exact⟨qaa Value.bool (by rw[qad];simp;try omega),H.ext⟩
theorem Wh(banks:Int)(a:Option Addr)(c:Nat)(xs:List Du)(w:World)(R:Rd w a 7 Du.enc xs)(hm:xs.length<=9223372036854775807) :
  Ret prog 95 #[.int .i64 banks,.slice a xs.length c] w fun v w'=>v=.bool (MD banks xs)/\Ext [] w w':=by
 have H:=Ctx.start w [];refine A2 (fn:=f95) func95 U [.int .i64 banks,.slice a xs.length c] U (Ad (Bu _ (.int _ _) U U H ?_));rintro b2 w - H;refine Ai U (qA (Ad (Ao U (Cm [.pointer _] U (Am qB (Pf a c xs 160 [.pointer (some ⟨b2,0,none⟩)] (fun d => !(decide (d.fr<banks) && decide (d.to<banks))) w (R.ext0 H.ext) hm qB (fun d w' hx=>Abz d b2 banks w' ((H.call hx).get at0))) U ?_)))));rintro v w1 ⟨rfl,hx⟩;refine B1 U (Ai U (qA (A6 (AD (v:=(.bool _)) U U U ?_))));refine⟨qaa Value.bool ?_,H.ext.trans hx⟩;rw[Yq (fun d:Du=>decide (d.fr<banks) && decide (d.to<banks)),Bool.not_not];rfl
def mayD(banks:Int)(xs:List Du):Bool:=decide (0<=banks) && (decide (banks<=16) && (decide (xs.length<=64) && xs.all fun d=>d.fine && (decide (d.fr<banks) && decide (d.to<banks))))
abbrev I64(x:Int):List Value:=[.int .i64 x]
theorem Ak1(a b:Option Addr)(c c':Nat)(xs ys:List Int)(w:World)(R:Rd w a 1 I64 xs)(R':Rd w b 1 I64 ys)(hm:xs.length<=9223372036854775807:=by decide):
  Ret prog 42 #[.slice a xs.length c,.slice b ys.length c'] w fun v w'=>v=.bool (decide (xs=ys))/\Ext [] w w':=by
 obtain⟨w0,rfl,H⟩:=qE w;refine A2 (fn:=f42) func42 U [.slice a xs.length c,.slice b ys.length c'] U (Ad (Ai U (qA (Ap (Ad (Ao U (AU Ct U (Ao U (AU Ct U (C0 U U ?_))))))))));refine qA (Av _ U ?_ ?_)
 .intro h1;replace h1:=CC h1;refine Ad (Ai U (qA (A6 (Al (AD (v:=(.bool _)) U U U ?_)))));refine⟨qaa Value.bool ?_,H.ext⟩;rw[qay];rintro rfl;exact h1 U
 .intro h1;replace h1:=CD h1;have hl:xs.length=ys.length:=by omega
  refine Aq (Aa (Ap (Ad (Af U (qA (Ax (Bn 67106864 (α:=Nat) (fun k=>[(5,.int .i64 k)]) (fun k w'=>k<=xs.length/\Ctx w0 [] w' []/\xs.take k=ys.take k) (fun k=>xs.length - k) 0 U ?_ ?_ ?_)))))))
  .exact⟨rfl,trivial⟩
  .exact⟨qaf _,H,rfl⟩
  .rintro k j w ⟨hk,H,hn⟩;refine Ap (Ad (Ae U (Ao U (AU Ct U (AZ U U (qA (Av _ U ?_ ?_)))))))
   .intro h2;replace h2:=AJ h2;obtain⟨x,hx⟩:=AB (l:=xs) (i:=k);obtain⟨y,hy⟩:=AB (l:=ys) (i:=k);refine Aq (Aa (Ap (Ax (CN (fun x=>x=_) Bs U ?_))));refine B0 U (AY U (Bo R Ct D9 U U U ?_));refine BF B6 U (by rintro _ rfl;exact((R.ext0 H.ext).one (f:=fun x => .int .i64 x) hx)) ?_;refine B0 U (AY U (Bo R' Ct D9 U U U ?_));refine BF B6 U (by rintro _ rfl;exact((R'.ext0 H.ext).one (f:=fun x => .int .i64 x) hy)) ?_;refine Gi U U (BM ?_);rintro _ rfl;replace H:=H.drew;refine Av _ U ?_ ?_
    .intro h3;replace h3:=CC h3;refine Ad (Ai U (qA (A6 (A5 (Al (Al (A5 (Al (AD (v:=(.bool _)) U U U ?_)))))))));refine⟨qaa Value.bool ?_,H.ext⟩;rw[qay];rintro rfl;rw[hx]at hy
     injection hy with hy
     exact h3 hy
    .intro h3;replace h3:=CD h3;refine Aq (A7 (Aa (Ay (Ae U (Aw U U ?_)))));refine Af U (qA ?_);refine⟨k+1,rfl,⟨by simp[put],trivial⟩,⟨by omega,H,?_⟩,by omega⟩;rw[CP hx,CP hy,hn,h3]
   .intro h2;replace h2:=AK h2;refine Be (Aj (Aj (AH (Aa (Ad (Ai U (qA (A6 (AD (v:=(.bool _)) U U U ?_)))))))));rw[qcf (by omega),qcf (by omega)]at hn;refine⟨qaa Value.bool ?_,H.ext⟩;rw[qal hn]
def dq(l:List Du)(way:List Int)(i:Nat):Du:=(l[((way[i]?).getD 0).toNat]?).getD ⟨0,0,0,0,0,0,false⟩
def okI(l:List Du)(way:List Int)(i:Nat):Bool:=decide (0<=(way[i]?).getD 0) && (decide ((way[i]?).getD 0<l.length) && !(dq l way i).held)
def FY(l:List Du)(way:List Int)(i:Nat):Bool:=okI l way i && (List.range i).all fun k => !decide ((dq l way k).fr=(dq l way i).fr)
def IW(l:List Du)(way:List Int)(i:Nat):Bool:=decide ((dq l way i).to=(dq l way ((i+1) % way.length)).fr)
def Fz(l:List Du)(way:List Int):Bool:=(List.range way.length).all (FY l way) && ((List.range way.length).all (IW l way) && decide (0<way.length))
theorem Ir{l:List Du}{way:List Int}{i:Nat}(hi:i<way.length)(h:okI l way i=true) :
  ∃x d,way[i]?=some x/\0<=x/\x<l.length/\l[x.toNat]?=some d/\dq l way i=d/\d.held=false:=by
 obtain⟨x,hx⟩:=AB (h:=hi);unfold okI at h;rw[hx]at h;simp only[qdq,qae,qam,qbr]at h;obtain⟨d,hd⟩:=AB (l:=l) (i:=x.toNat);have hq:dq l way i=d:=by unfold dq;rw[hx,qdq,hd];rfl
 exact⟨x,d,hx,h.1,h.2.1,hd,hq,by rw[<-hq];exact h.2.2⟩
theorem Gv{p:Nat->Bool}{k:Nat}(h:(List.range k).all p=true)(hp:p k=true):(List.range (k+1)).all p=true:=by
 rw[qc9,List.all_append,h];simp[hp]
theorem J0{p:Nat->Bool}{k i:Nat}(h:(List.range k).all p=true)(hi:i<k):p i=true:=by
 rw[qas]at h;exact h i (qaz.2 hi)
theorem LW{p:Nat->Bool}{n i:Nat}(hi:i<n)(hp:p i=false):(List.range n).all p=false:=by
 rw[Bool.eq_false_iff];intro h;rw[J0 h hi]at hp;cases hp
theorem Ab0(a b:Option Addr)(c c':Nat)(l:List Du)(way:List Int)(w:World)(R:Rd w a 7 Du.enc l)(R':Rd w b 1 I64 way)(_:l.length<=9223372036854775807:=by decide)(hm':way.length<=9223372036854775807:=by omega):
  Ret prog 93 #[.slice a l.length c,.slice b way.length c'] w fun v w'=>v=.bool (Fz l way)/\Ext [] w w':=by
 obtain⟨w0,rfl,H⟩:=qE w;refine A2 (fn:=f93) func93 U [.slice a l.length c,.slice b way.length c'] U (Ad (Ai U (qA (Ap (Ad (Af U (qA (Ax (Bn 1152921504606846832 (α:=Nat) (fun k=>[(5,.int .i64 k)]) (fun k w'=>k<=way.length/\Ctx w0 [] w' []/\(List.range k).all (FY l way)=true) (fun k=>way.length - k) 0 U ?_ ?_ ?_)))))))))
 .exact⟨rfl,trivial⟩
 .exact⟨qaf _,H,rfl⟩
 .rintro k j w ⟨hk,H,hn⟩;refine Ap (Ad (Ae U (Ao U (AU Ct U (AZ U U (qA (Av _ U ?_ ?_)))))))
  .intro h1;replace h1:=AJ h1;have hkl:k<way.length:=by omega
   obtain⟨x,hx⟩:=AB (h:=hkl);refine Aq (Aa (Ap (Ax (Ap (Ad (B9 (α:=Unit) 274877890560 (fun _=>[(37,.bool (!okI l way k))]) (fun _ w'=>Ctx w0 [] w' []) U ?_ ?_))))))
   .refine Ao U (Ae U (AM R' Ct D9 U U U ?_));refine Ba B6 U ((R'.ext0 H.ext).one (f:=fun x => .int .i64 x) hx) ?_;refine AZ U U (Au U (AE 19 U ?_ ?_))
    .intro h1;replace h1:=AJ h1;refine Ag U (Ag U (Ag U (Ag U (Ag U (Ag U (Ag U (A8 U (.bool _) U (Au U (Ag U ?_)))))))));refine Ag U (Ag U (Ag U (Ag U (Ag U (Ag U (Ag U (A8 U (.bool _) U (Ab ?_))))))));exact⟨rfl,(),rfl,⟨qaa Value.bool (by unfold okI;rw[hx];simp_all;try omega),trivial⟩,H⟩
    .intro h2;replace h2:=AK h2;refine Ao U (Ae U (AM R' Ct D9 U U U ?_));refine Ba B6 U ((R'.ext0 H.ext).one (f:=fun x => .int .i64 x) hx) ?_;refine Ao U (AU BT U (Cq U U (AA U (.bool _) U (Au U (AE 28 U ?_ ?_)))))
     .intro h3;replace h3:=AJ h3;refine Ag U (Ag U (Ag U (Ag U (Ag U (Ag U (Ag U (Ag U (A8 U (.bool _) U (Ab ?_)))))))));exact⟨rfl,(),rfl,⟨qaa Value.bool (by unfold okI;rw[hx];simp_all;try omega),trivial⟩,H⟩
     .intro h4;replace h4:=AK h4;refine Ao U (Ao U (Ae U (AM R' Ct D9 U U U ?_)));refine Ba B6 U ((R'.ext0 H.ext).one (f:=fun x => .int .i64 x) hx) (AM R BT BC U U U ?_);obtain⟨d,hd⟩:=AB (l:=l) (i:=x.toNat);have hq:dq l way k=d:=by unfold dq;rw[hx,qdq,hd];rfl
      refine Ah F6 U (Ba HI U ((R.ext0 H.ext).fld hd U (j:=6) U) ?_);refine AA U (.bool _) U (Ab ?_);exact⟨rfl,(),rfl,⟨qaa Value.bool (by unfold okI;rw[hx];simp_all;try omega),trivial⟩,H⟩
   rintro - j37 w H;refine Av _ U ?_ ?_
   .intro h2;replace h2:=Bv h2;refine Ad (Ai U (qA (A6 (Al (A5 (Al (Al (A5 (Al (AD (v:=(.bool _)) U U U ?_))))))))));refine⟨qaa Value.bool ?_,H.ext⟩;rw[Fz,LW hkl (by rw[FY,h2];rfl)];rfl
   .intro h2;replace h2:=Bw h2;obtain⟨x,d,hx,hx0,hx1,hd,hq,hh⟩:=Ir hkl h2;refine Aq (Aa (Ad (Af U (qA (Ax (Bn 1152921229728940112 (α:=Nat) (fun q=>[(6,.int .i64 q)]) (fun q w'=>q<=k/\Ctx w0 [] w' []/\((List.range q).all fun q => !decide ((dq l way q).fr=(dq l way k).fr))=true) (fun q=>k - q) 0 U ?_ ?_ ?_))))))
    .exact⟨rfl,trivial⟩
    .exact⟨qaf _,H,rfl⟩
    .rintro q j2 w ⟨hqk,H,hn2⟩;refine Ap (Ad (Ae U (Ae U (AZ U U (qA (Av _ U ?_ ?_))))))
     .intro h3;replace h3:=AJ h3;have hr:=J0 hn (i:=q) (by omega);rw[FY,qae]at hr;obtain⟨x2,d2,hx2,hx20,hx21,hd2,hq2,hh2⟩:=Ir (by omega) hr.1;refine Aq (Aa (Ap (Ax (CN (fun x=>x=_) Bs U ?_))));refine B0 U (B0 U (AY U (Bo R' Ct D9 U U U ?_)));refine BF B6 U (by rintro _ rfl;exact((R'.ext0 H.ext).one (f:=fun x => .int .i64 x) hx2)) ?_;refine Bo R BT BC U U U ?_;refine A3 Dk U (BF B6 U (by rintro _ rfl;exact((R.ext0 H.ext).fld hd2 rfl (j:=1) rfl)) ?_);refine B0 U (B0 U (AY U (Bo R' Ct D9 U U U ?_)));refine BF B6 U (by rintro _ rfl;exact((R'.ext0 H.ext).one (f:=fun x => .int .i64 x) hx)) ?_;refine Bo R BT BC U U U ?_;refine A3 Dk U (BF B6 U (by rintro _ rfl;exact((R.ext0 H.ext).fld hd rfl (j:=1) rfl)) ?_);refine UW U U U (BM ?_)
      rintro _ rfl;replace H:=H.drew;refine Av _ U ?_ ?_
      .intro h4;replace h4:=AJ h4;refine Ad (Ai U (qA (A6 (A5 (Al (Al (A5 (A5 (Al (Al (A5 (Al (AD (v:=(.bool _)) U U U ?_)))))))))))));refine⟨qaa Value.bool ?_,H.ext⟩;rw[Fz,LW hkl (by rw[FY,h2,LW (i:=q) (by omega) (by rw[hq,hq2,qal h4];rfl)];rfl)];rfl
      .intro h4;replace h4:=AK h4;refine Aq (A7 (Aa (Ay (Ae U (Aw U U ?_)))));refine Af U (qA ?_);refine⟨q+1,rfl,⟨by simp[put],trivial⟩,⟨by omega,H,Gv hn2 (by rw[hq,hq2,qay h4];rfl)⟩,by omega⟩
     .intro h3;replace h3:=AK h3;have hqe:q=k:=by omega
      subst hqe;refine Be (Aj (Aj (AH (A7 (Aa (Ay (Ae U (Aw U U ?_))))))));refine Af U (qA ?_);refine⟨q+1,rfl,⟨by simp[put],trivial⟩,⟨by omega,H,Gv hn (by rw[FY,h2,hn2];rfl)⟩,by omega⟩
  .intro h1;replace h1:=AK h1;have hke:k=way.length:=by omega
   subst hke;refine Be (Aj (Aj (AH (Aa (Ap (Ad (Af U (qA (Ax (Bn 154742503757751029755543696 (α:=Nat) (fun k=>[(7,.int .i64 k)]) (fun k w'=>k<=way.length/\Ctx w0 [] w' []/\(List.range k).all (IW l way)=true) (fun k=>way.length - k) 0 U ?_ ?_ ?_))))))))))
   .exact⟨rfl,trivial⟩
   .exact⟨qaf _,H,rfl⟩
   .rintro k j2 w ⟨hk2,H,hn2⟩;refine Ap (Ad (Ae U (Ao U (AU Ct U (AZ U U (qA (Av _ U ?_ ?_)))))))
    .intro h2;replace h2:=AJ h2;have hkl:k<way.length:=by omega
     have hm1:(k+1) % way.length<way.length:=qdf _ (by omega);have hr:=J0 hn (i:=k) hkl;have hr2:=J0 hn (i:=(k+1) % way.length) hm1;rw[FY,qae]at hr hr2;obtain⟨x,d,hx,hx0,hx1,hd,hq,hh⟩:=Ir hkl hr.1;obtain⟨x2,d2,hx2,hx20,hx21,hd2,hq2,hh2⟩:=Ir hm1 hr2.1;have hcast:((k:Int)+1) % (way.length:Int)=(((k+1) % way.length:Nat):Int):=by rw[Int.natCast_emod,qc5];rfl
     refine Aq (Aa (Ap (Ax (CN (fun x=>x=_) Bs U ?_))));refine B0 U (B0 U (AY U (Bo R' Ct D9 U U U ?_)));refine BF B6 U (by rintro _ rfl;exact((R'.ext0 H.ext).one (f:=fun x => .int .i64 x) hx)) ?_;refine Bo R BT BC U U U ?_;refine A3 D7 U (BF B6 U (by rintro _ rfl;exact((R.ext0 H.ext).fld hd rfl (j:=2) rfl)) ?_);refine B0 U (B0 U (AY U (CX U U ?_)));refine B0 U (Mf Ct U (q_rem U U U (by omega) (by omega) ?_));rw[hcast];refine Bo R' Ct D9 U U U ?_;refine BF B6 U (by rintro _ rfl;exact((R'.ext0 H.ext).one (f:=fun x => .int .i64 x) hx2)) ?_;refine Bo R BT BC U U U ?_;refine A3 Dk U (BF B6 U (by rintro _ rfl;exact((R.ext0 H.ext).fld hd2 rfl (j:=1) rfl)) ?_);refine Gi U U (BM ?_);rintro _ rfl;replace H:=H.drew
     refine Av _ U ?_ ?_
     .intro h4;replace h4:=CC h4;refine Ad (Ai U (qA (A6 (A5 (Al (Al (A5 (Al (AD (v:=(.bool _)) U U U ?_)))))))));refine⟨qaa Value.bool ?_,H.ext⟩;rw[Fz,LW (p:=IW l way) hkl (by rw[IW,hq,hq2,qay h4]),hn];rfl
     .intro h4;replace h4:=CD h4;refine Aq (A7 (Aa (Ay (Ae U (Aw U U ?_)))));refine Af U (qA ?_);refine⟨k+1,rfl,⟨by simp[put],trivial⟩,⟨by omega,H,Gv hn2 (by rw[IW,hq,hq2,qal h4])⟩,by omega⟩
    .intro h2;replace h2:=AK h2;have hke:k=way.length:=by omega
     subst hke;refine Be (Aj (Aj (AH (Aa (Ad (Ao U (AU Ct U (Cp U U (Ai U (qA (A6 (AD (v:=(.bool _)) U U U ?_))))))))))));refine⟨qaa Value.bool ?_,H.ext⟩;rw[Fz,hn,hn2];rw[qad];simp
def Seen(l:List Du)(way:List Int)(k:Nat)(m:List (Int × Value)):Prop :=
 ∀f,∃c:Int,(Eg m f).getD (.int .i64 0)=.int .i64 c/\(0<c↔∃q,q<k/\(dq l way q).fr=f)
theorem Seen.step{l:List Du}{way:List Int}{k:Nat}{m:List (Int × Value)}(h:Seen l way k m):Seen l way (k+1) (KG m (dq l way k).fr (.int .i64 1)):=by
 intro f;rw[ZD]
 by_cases hf:f=(dq l way k).fr
 .rw[if_pos hf];exact⟨1,rfl,fun _=>⟨k,by omega,hf.symm⟩,fun _=>by omega⟩
 .rw[if_neg hf];obtain⟨c,h1,h2⟩:=h f;refine⟨c,h1,h2.trans ⟨fun⟨q,hq,he⟩=>⟨q,by omega,he⟩,fun⟨q,hq,he⟩=>?_⟩⟩
  rcases qap q k with hlt|hge
  .exact⟨q,hlt,he⟩
  .have:q=k:=by omega
   subst this;exact absurd he.symm hf
theorem XX{l:List Du}{way:List Int}{k:Nat}(ho:okI l way k=true):FY l way k=true↔¬ ∃q,q<k/\(dq l way q).fr=(dq l way k).fr:=by
 rw[FY,ho];simp only[qb9,qas,qaz,qbr,qda,not_exists,not_and]
theorem Ab1{l:List Du}{way:List Int}{k:Nat}{c1:Int}(ho:okI l way k=true)(hc:0<c1↔∃q,q<k/\(dq l way q).fr=(dq l way k).fr):decide (0<c1) = !FY l way k:=by
 have hr:=XX ho;rw[<-hc]at hr
 cases hb:FY l way k with
 |true=>rw[qay (hr.1 hb)];rfl
 |false =>
  rw[hb]at hr
  have:0<c1:=by
   rcases qci 0 c1 with h|h
   .exact h
   .exact absurd (hr.2 (by omega)) (by simp)
  rw[qal this];rfl
theorem Ak2(a b:Option Addr)(c c':Nat)(l:List Du)(way:List Int)(w:World)(R:Rd w a 7 Du.enc l)(R':Rd w b 1 I64 way)(hm':way.length<=9223372036854775807) :
  Ret prog 156 #[.slice a l.length c,.slice b way.length c'] w fun v w'=>v=.bool (Fz l way)/\Ext [] w w':=by
 obtain⟨w0,rfl,H⟩:=qE w;refine A2 (fn:=f156) func156 U [.slice a l.length c,.slice b way.length c'] U (Ad (Ai U (qA (Ad (Mx .i64 U H ?_)))));rintro b8 o8 w hM H;refine WR U U (qA (Ap (Ad (Ao U (AU Ct U (Ae U (qA (Ax (Bn 147573952589676411088 (α:=Nat) (fun k=>[(11,.int .i64 k)]) (fun k w'=>k<=way.length/\(List.range k).all (FY l way)=true/\(List.range (k - 1)).all (IW l way)=true/\∃m o,Ds .i64 m o/\Ctx w0 [] w' [(b8,o)]/\Seen l way k m) (fun k=>way.length - k) 0 U ?_ ?_ ?_)))))))))
 .exact⟨rfl,trivial⟩
 .exact⟨qaf _,rfl,rfl,_,_,hM,H,fun f=>⟨0,rfl,fun h=>by omega,fun⟨q,hq,_⟩=>by omega⟩⟩
 .rintro k j w ⟨hk,hn,hn2,m,o,hM,H,hs⟩;refine Ad (AZ U U (qA (Ap (Av _ U ?_ ?_))))
  .intro h1;replace h1:=AJ h1;have hkl:k<way.length:=by omega
   obtain⟨x,hx⟩:=AB (h:=hkl);refine Aq (Aa (Ap (Ax (Ad (Ae U (AM R' Ct D9 U U U ?_))))));refine Ba B6 U ((R'.ext0 H.ext).one (f:=fun x => .int .i64 x) hx) ?_;refine Af U (Af U (qA (Ap (Ad (B9 (α:=Unit) 2199023190016 (fun _=>[(40,.bool (!FY l way k))]) (fun _ w'=>Ctx w0 [] w' [(b8,o)]) U ?_ ?_)))))
   .refine Ae U (AZ U U (Au U (AE 18 U ?_ ?_)))
    .intro h1;replace h1:=AJ h1;refine Ag U (Ag U (Ag U (Ag U (A8 U (.bool _) U (Au U (Ag U (Ag U (Ag U (Ag U ?_)))))))));refine Ag U (A8 U (.bool _) U (Au U (Ag U (Ag U (Ag U (Ag U (Ag U (Ag U (Ag U ?_)))))))));refine Ag U (A8 U (.bool _) U (Ab ?_));exact⟨rfl,(),rfl,⟨qaa Value.bool (by(rw[FY,okI,hx];simp_all;try omega)),trivial⟩,H⟩
    .intro h2;replace h2:=AK h2;refine Ae U (Ao U (AU BT U (Cq U U (AA U (.bool _) U (Au U (AE 24 U ?_ ?_))))))
     .intro h3;replace h3:=AJ h3;refine Ag U (Ag U (Ag U (Ag U (Ag U (A8 U (.bool _) U (Au U (Ag U (Ag U (Ag U ?_)))))))));refine Ag U (Ag U (Ag U (Ag U (Ag U (A8 U (.bool _) U (Ab ?_))))));exact⟨rfl,(),rfl,⟨qaa Value.bool (by(rw[FY,okI,hx];simp_all;try omega)),trivial⟩,H⟩
     .intro h4;replace h4:=AK h4;refine Ao U (Ae U (AM R BT BC U U U ?_));obtain⟨d,hd⟩:=AB (l:=l) (i:=x.toNat);have hq:dq l way k=d:=by unfold dq;rw[hx,qdq,hd];rfl
      refine Ah F6 U (Ba HI U ((R.ext0 H.ext).fld hd U (j:=6) U) ?_);refine AA U (.bool _) U (Au U (AE 31 U ?_ ?_))
      .intro h5;refine Ag U (Ag U (Ag U (Ag U (Ag U (Ag U (Ag U (Ag U (A8 U (.bool _) U (Ab ?_)))))))));exact⟨rfl,(),rfl,⟨qaa Value.bool (by(rw[FY,okI,hx];simp_all;try omega)),trivial⟩,H⟩
      .intro h6;refine Va U U (Ao U (Ae U (AM R BT BC U U U ?_)));refine Ah Dk U (Ba B6 U ((R.ext0 H.ext).fld hd U (j:=1) U) ?_);refine ZE U Ad6 NY zv_3 U U H at0 hM ?_;obtain⟨c1,hc1,hc2⟩:=hs d.fr;rw[hc1];rw[<-hq]at hc2;have ho:okI l way k=true:=by unfold okI;rw[hx,hq];simp_all
       refine Cp U U (AA U (.bool _) U (Ab ?_));exact⟨rfl,(),rfl,⟨qaa Value.bool (by exact Ab1 ho hc2),trivial⟩,H⟩
   rintro - j40 w H;refine Av _ U ?_ ?_
   .intro h2;replace h2:=Bv h2;refine Ad (Ai U (qA (A6 (Al (A5 (Al (Al (A5 (Al (AD (v:=(.bool _)) U U U ?_))))))))));refine⟨qaa Value.bool ?_,H.ext⟩;rw[Fz,LW hkl h2];rfl
   .intro h2;replace h2:=Bw h2;have ho:okI l way k=true:=by rw[FY,qae]at h2;exact h2.1
    obtain⟨x',d,hx',hx0,hx1,hd,hq,hh⟩:=Ir hkl ho;rw[hx]at hx'
    injection hx' with hx'
    subst hx'
    obtain⟨xp,dp,hp⟩:∃(xp:Int) (dp:Du),0<k->way[k - 1]?=some xp/\0<=xp/\xp<l.length/\l[xp.toNat]?=some dp/\dq l way (k - 1)=dp:=by
     by_cases h0:0<k
     .have hr:=J0 hn (i:=k - 1) (by omega);rw[FY,qae]at hr;obtain⟨xp,dp,e1,e2,e3,e4,e5,_⟩:=Ir (by omega) hr.1;exact⟨xp,dp,fun _=>⟨e1,e2,e3,e4,e5⟩⟩
     .exact⟨0,d,fun h=>absurd h h0⟩
    have hs':=hs.step;rw[hq]at hs';refine Aq (Aa (Ad (Va U U (Ao U (Ae U (AM R BT BC U U U ?_))))));refine Ah Dk U (Ba B6 U ((R.ext0 H.ext).fld hd U (j:=1) U) ?_);refine Im (.int _ _) U Ad6 NY U U U H at0 hM ?_;rintro o w hM H;refine qA (CN (fun x=>x=_) Bs U ?_);refine AY U (K9 U U (Co U (DE 49 U ?_ ?_)))
    .intro h3;replace h3:=AJ h3;obtain⟨hxp,hp0,hp1,hdp,hqp⟩:=hp (by omega);have hcast:((k:Int) - 1)=((k - 1:Nat):Int):=by omega
     have hmod:(k - 1+1) % way.length=k:=by rw[Nat.sub_add_cancel (by omega)];exact qcg hkl
     refine B0 U (B0 U (AY U (Dp U U ?_)));rw[hcast];refine Bo R' Ct D9 U U U ?_;refine BF B6 U (by rintro _ rfl;exact((R'.ext0 H.ext).one (f:=fun x => .int .i64 x) hxp)) ?_;refine Bo R BT BC U U U ?_;refine A3 D7 U (BF B6 U (by rintro _ rfl;exact((R.ext0 H.ext).fld hdp rfl (j:=2) rfl)) ?_);refine B0 U (AY U (Bo R BT BC U U U ?_));refine A3 Dk U (BF B6 U (by rintro _ rfl;exact((R.ext0 H.ext).fld hd rfl (j:=1) rfl)) ?_);refine Gi U U (Gb U (.bool _) U (BM ?_));rintro _ rfl;replace H:=H.drew;refine Av _ U ?_ ?_
     .intro h4;replace h4:=CC h4;refine Ad (Ai U (qA (A6 (A5 (Al (Al (A5 (Al (AD (v:=(.bool _)) U U U ?_)))))))));refine⟨qaa Value.bool ?_,H.ext⟩;rw[Fz,LW (p:=IW l way) (i:=k - 1) (by omega) (by rw[IW,hmod,hqp,hq,qay h4])];simp
     .intro h4;replace h4:=CD h4;refine Aq (A7 (Aa (Ay (Aw U U ?_))));refine Ae U (qA ?_);refine⟨k+1,rfl,⟨by simp[put],trivial⟩,⟨by omega,Gv hn h2,?_,_,_,hM,H,hs'⟩,by omega⟩;have:=Gv hn2 (by rw[IW,hmod,hqp,hq,qal h4])
      rwa [show k - 1+1=k+1 - 1 from by omega]at this
    .intro h3;replace h3:=AK h3;refine A4 U (A4 U (A4 U (A4 U (A4 U (A4 U (A4 U (A4 U (A4 U (A4 U ?_)))))))));refine A4 U (A4 U (A4 U (A4 U (A4 U (D6 U (.bool _) U (BM ?_))))));rintro _ rfl;replace H:=H.drew;refine D5 U (Aq (A7 (Aa (Ay (Aw U U ?_)))));refine Ae U (qA ?_);refine⟨k+1,rfl,⟨by simp[put],trivial⟩,⟨by omega,Gv hn h2,?_,_,_,hM,H,hs'⟩,by omega⟩;have:k=0:=by omega
     subst this;rfl
  .intro h1;replace h1:=AK h1;have hke:k=way.length:=by omega
   subst hke
   obtain⟨xp,dp,x0,d0,hp⟩:∃(xp:Int) (dp:Du) (x0:Int) (d0:Du),0<way.length->way[way.length - 1]?=some xp/\0<=xp/\xp<l.length/\l[xp.toNat]?=some dp/\dq l way (way.length - 1)=dp/\way[0]?=some x0/\0<=x0/\x0<l.length/\l[x0.toNat]?=some d0/\dq l way 0=d0:=by
    by_cases h0:0<way.length
    .have hr:=J0 hn (i:=way.length - 1) (by omega);have hr0:=J0 hn (i:=0) (by omega);rw[FY,qae]at hr hr0;obtain⟨xp,dp,e1,e2,e3,e4,e5,_⟩:=Ir (by omega) hr.1;obtain⟨x0,d0,f1,f2,f3,f4,f5,_⟩:=Ir (by omega) hr0.1;exact⟨xp,dp,x0,d0,fun _=>⟨e1,e2,e3,e4,e5,f1,f2,f3,f4,f5⟩⟩
    .exact⟨0,⟨0,0,0,0,0,0,false⟩,0,⟨0,0,0,0,0,0,false⟩,fun h=>absurd h h0⟩
   refine Be (Aj (Aj (AH (Aa (CN (fun x=>x=_) Bs U ?_)))));refine B0 U (Mf Ct U (K9 U U (Co U (DE 70 U ?_ ?_))))
   .intro h2;replace h2:=AJ h2;obtain⟨hxp,hp0,hp1,hdp,hqp,hx0,h00,h01,hd0,hq0⟩:=hp (by omega);have hcast:((way.length:Int) - 1)=((way.length - 1:Nat):Int):=by omega
    refine B0 U (B0 U (B0 U (Mf Ct U (Dp U U ?_))));rw[hcast];refine Bo R' Ct D9 U U U ?_;refine BF B6 U (by rintro _ rfl;exact((R'.ext0 H.ext).one (f:=fun x => .int .i64 x) hxp)) ?_;refine Bo R BT BC U U U ?_;refine A3 D7 U (BF B6 U (by rintro _ rfl;exact((R.ext0 H.ext).fld hdp rfl (j:=2) rfl)) ?_);refine B0 U (B0 U (Bo R' Ct D9 U U U ?_));refine BF B6 U (by rintro _ rfl;exact((R'.ext0 H.ext).one (f:=fun x => .int .i64 x) hx0)) ?_;refine Bo R BT BC U U U ?_;refine A3 Dk U (BF B6 U (by rintro _ rfl;exact((R.ext0 H.ext).fld hd0 rfl (j:=1) rfl)) ?_);refine UW U U U (Gb U (.bool _) U (J6 U U (BM ?_)));rintro _ rfl;replace H:=H.drew;refine A6 (AD (v:=(.bool _)) U U U ?_);have hlen:way.length - 1+1=way.length:=by omega
    refine⟨qaa Value.bool ?_,H.ext⟩;have hr2:IW l way (way.length - 1)=decide (dp.to=d0.fr):=by rw[IW,hlen,Nat.mod_self,hqp,hq0]
    have hall:(List.range way.length).all (IW l way)=decide (dp.to=d0.fr):=by
     rw[<-hlen,qc9,List.all_append,hn2];simp[hr2]
    rw[Fz,hn,hall,qal (show 0<way.length by omega)];simp
   .intro h2;replace h2:=AK h2;refine A4 U (A4 U (A4 U (A4 U (A4 U (A4 U (A4 U (A4 U (A4 U (A4 U ?_)))))))));refine A4 U (A4 U (A4 U (A4 U (A4 U (A4 U (A4 U (A4 U (D6 U (.bool _) U (J6 U U ?_)))))))));refine BM ?_;rintro _ rfl;replace H:=H.drew;refine A6 (AD (v:=(.bool _)) U U U ?_);refine⟨qaa Value.bool ?_,H.ext⟩;rw[Fz,qay (show ¬0<way.length by omega)];simp
def N5(l:List Du)(way:List Int):Nat->Int
 |0=>(dq l way 0).am
 |k+1=>min (N5 l way k) (dq l way k).am
def XY(l:List Du)(way:List Int):Int:=N5 l way way.length
theorem G4{l:List Du}{way:List Int}(h:Fz l way=true):(List.range way.length).all (FY l way)=true/\(List.range way.length).all (IW l way)=true/\0<way.length:=by
 simp only[Fz,qae,qam]at h;exact⟨h.1,h.2.1,h.2.2⟩
theorem N6{l:List Du}{way:List Int}(h:Fz l way=true){k:Nat}(hk:k<way.length) :
  ∃x d,way[k]?=some x/\0<=x/\x<l.length/\l[x.toNat]?=some d/\dq l way k=d/\d.held=false:=by
 have h1:=J0 (G4 h).1 hk;rw[FY,qae]at h1;exact Ir hk h1.1
def Rg(l:List Du)(way:List Int):Value:=bif Fz l way then .tuple #[.int .i64 (XY l way),.bool true]else .tuple #[.int .i64 0,.bool false]
theorem Ahw(a b:Option Addr)(c c':Nat)(l:List Du)(way:List Int)(w:World)(R:Rd w a 7 Du.enc l)(R':Rd w b 1 I64 way)(hm':way.length<=9223372036854775807:=by omega):
  Ret prog 91 #[.slice a l.length c,.slice b way.length c'] w fun v w'=>v=Rg l way/\Ext [] w w':=by
 obtain⟨w0,rfl,H⟩:=qE w;refine A2 (fn:=f91) func91 U [.slice a l.length c,.slice b way.length c'] U (Ad (Af U (Ai U (qA (Ap (Ad (Ao U (Ao U (Am qB (Ak2 a b c c' l way _ R R' hm') U ?_)))))))));rintro v w ⟨rfl,hx⟩;replace H:=H.call hx;refine B1 U (qA (Av _ U ?_ ?_))
 .intro h1;replace h1:=Bv h1;refine Ad (Af U (Ai U (qA (A6 (Al (BG (v1:=(.int _ _)) (v2:=(.bool _)) U U U U ?_))))));exact⟨by rw[Rg,h1];rfl,H.ext⟩
 .intro h1;replace h1:=Bw h1;obtain⟨x0,d0,hx0,h00,h01,hd0,hq0,_⟩:=N6 h1 (k:=0) (G4 h1).2.2;have hpos:=(G4 h1).2.2;refine Aq (Aa (Ad (Ao U (Ao U (AM R' Ct D9 U U U ?_)))));refine Ba B6 U ((R'.ext0 H.ext).one (f:=fun x => .int .i64 x) hx0) (AM R BT BC U U U ?_);refine Ah Dl U (Ba Bm U ((R.ext0 H.ext).fld hd0 U (j:=3) U) ?_);refine Af U (qA (Ap (Ad (Ao U (AU Ct U (Ae U (qA (Ax (Bn 17175675200 (α:=Nat) (fun k=>[(22,.int .i64 k),(6,.int .i64 (N5 l way k))]) (fun k w'=>k<=way.length/\Ctx w0 [] w' []) (fun k=>way.length - k) 0 U ?_ ?_ ?_)))))))))
  .exact⟨rfl,by rw[N5,hq0];rfl,trivial⟩
  .exact⟨qaf _,H⟩
  .rintro k j w ⟨hk,H⟩;refine Ad (AZ U U (qA (Ap (Av _ U ?_ ?_))))
   .intro h2;replace h2:=AJ h2;obtain⟨x,d,hx,hx0',hx1',hd,hq,_⟩:=N6 h1 (k:=k) (by omega);refine Aq (Aa (Ap (Ax (Ad (AM R' Ct D9 U U U ?_)))));refine Ba B6 U ((R'.ext0 H.ext).one (f:=fun x => .int .i64 x) hx) (Af U (qA (Ay (Ae U (Ao U (Ae U (AM R BT BC U U U ?_)))))));refine Ah Dl U (Ba Bm U ((R.ext0 H.ext).fld hd U (j:=3) U) ?_);refine Yo U U U (Af U (Ab (A7 (Aa (Ay (Aw U U ?_))))));refine Ae U (qA ?_);exact⟨k+1,rfl,⟨by simp[put],by rw[N5,hq];rfl,trivial⟩,⟨by omega,H⟩,by omega⟩
   .intro h2;replace h2:=AK h2;have hke:k=way.length:=by omega
    subst hke;refine Be (Aj (Aj (AH (Aa (Ad (Ae U (Af U (Ai U (qA (A6 (BG (v1:=(.int _ _)) (v2:=(.bool _)) U U U U ?_)))))))))));exact⟨by rw[Rg,h1];rfl,H.ext⟩
theorem Ahx(a:Option Addr)(c:Nat)(xs:List Int)(w:World)(R:Rd w a 1 I64 xs)(hm:xs.length<=1048576) :
  Ret prog 97 #[.slice a xs.length c] w fun v w'=>Fresh w w' 3 1 v (xs.map fun x => .int .i64 x):=by
 obtain⟨w0,rfl,H⟩:=qE w;refine A2 (fn:=f97) func97 U [.slice a xs.length c] U (Ad (Az U (qA (Ap (Ad (Ao U (Iu U Ct U (qA (Av _ U ?_ ?_)))))))))
 .intro h1;have ha:a=none:=by simpa using h1
  subst ha
  have hxs:xs=[]:=by
   cases xs with
   |nil=>rfl
   |cons x xs=>obtain⟨b,o,h⟩:=R.some' (by simp);cases h
  subst hxs;refine Ad (Az U (qA (A6 (Al (AD (v:=(.slice _ _ _)) U U U ?_)))));exact Fresh.nil H _ _
 .intro h1;refine Aq (Aa (Ad (Hd Ct D9 H ?_)));rintro b5 w H O;refine Ao U (Hb U Ct Ct D9 Vp M4 U (xs.map fun x => .int .i64 x) U U H O (by simp) (by simp[AS]) (R.ext0 H.ext).app1 ?_);rintro a7 c7 full7 w H O;refine Az U (qA (A6 (AD (v:=(.slice _ _ _)) U U U ?_)));exact H.fresh O
def DB(out:List Nat)(b:Nat)(d:Du):Bool := !d.held && (decide (d.to=(b:Int)) && !out.contains d.fr.toNat)
def Z0(l:List Du)(out:List Nat)(b:Nat):Bool := !out.contains b && !l.any (DB out b)
def Z4(l:List Du)(banks:Nat)(out:List Nat):Option Nat:=(List.range banks).find? (Z0 l out)
def GU(l:List Du)(banks:Nat):Nat->List Nat->Option (List Nat)
 |0,out=>some out
 |k+1,out=>match Z4 l banks out with
  |none=>none
  |some b=>GU l banks k (out++[b])
def J2(banks:Int)(l:List Du):Option (List Nat):=bif mayD banks l then GU l banks.toNat banks.toNat []else none
theorem Rh(l:List Du)(out:List Nat)(b:Nat):((l.countP (DB out b):Nat):Int)=0↔l.any (DB out b)=false:=by
 rw[show(((l.countP (DB out b):Nat):Int)=0)↔l.countP (DB out b)=0 from by omega,List.countP_eq_zero,List.any_eq_false]
theorem Z5{l:List Du}{banks:Nat}{out:List Nat}{b:Nat}(h:Z4 l banks out=some b):b<banks/\out.contains b=false/\l.any (DB out b)=false:=by
 have h1:=List.mem_of_find?_eq_some h;have h2:=List.find?_some h;simp only[Z0,qae,qbr]at h2;exact⟨qaz.1 h1,h2.1,h2.2⟩
theorem XZ{p:Nat->Bool}{n k:Nat}(h:((List.range k).find? p)=none)(hp:p k=true)(hk:k<n:=by omega):(List.range n).find? p=some k:=by
 have hsplit:List.range n=List.range k++(k::(List.range' (k+1) (n - k - 1))):=by
  rw[List.range_eq_range',List.range_eq_range'];have:List.range' 0 n=List.range' 0 k++List.range' (0+k) (n - k):=by rw[List.range'_append_1];congr 1;omega
  rw[this,qa2]
  congr 1
  rw[show n - k=(n - k - 1)+1 from by omega,List.range'_succ]
  congr 1
 rw[hsplit,List.find?_append,h];simp[hp]
theorem TJ{p:Nat->Bool}{k:Nat}(h:((List.range k).find? p)=none)(hp:p k=false):(List.range (k+1)).find? p=none:=by
 rw[qc9,List.find?_append,h];simp[hp]
def J3(l:List Du)(out:List Nat)(nx k b:Nat):Nat:=(l.take k).countP (DB (out++[nx]) b)+(l.drop k).countP (DB out b)
theorem Ahy(l:List Du)(out:List Nat)(nx b:Nat):J3 l out nx 0 b=l.countP (DB out b):=by simp[J3]
theorem Ak3(l:List Du)(out:List Nat)(nx b:Nat):J3 l out nx l.length b=l.countP (DB (out++[nx]) b):=by simp[J3]
theorem Ya{out:List Nat}{nx b:Nat}{d:Du}(h:¬(d.held=false/\d.fr=(nx:Int)))(h0:0<=d.fr):DB (out++[nx]) b d=DB out b d:=by
 unfold DB
 cases hh:d.held with
 |true=>rfl
 |false =>
  have hne:¬d.fr.toNat=nx:=fun e=>h ⟨hh,by omega⟩;simp[hne]
theorem Wi{l:List Du}{out:List Nat}{nx k b:Nat}{d:Du}(hd:l[k]?=some d)(h:¬(d.held=false/\d.fr=(nx:Int)))(h0:0<=d.fr):J3 l out nx (k+1) b=J3 l out nx k b:=by
 have hk:=Cb hd;have he:l.drop k=d::l.drop (k+1):=by rw[qdi hk];congr 1;rw[qbq hk]at hd;injection hd
 unfold J3;rw[CP hd,he,qem,qds,qds,qen,Ya h h0];omega
theorem N0{l:List Du}{out:List Nat}{nx k b:Nat}{d:Du}(hd:l[k]?=some d)(hh:d.held=false)(hf:d.fr=(nx:Int))(ho:out.contains nx=false) :
  (J3 l out nx (k+1) b:Int)=if d.to=(b:Int)then(J3 l out nx k b:Int) - 1 else J3 l out nx k b:=by
 have hk:=Cb hd;have he:l.drop k=d::l.drop (k+1):=by rw[qdi hk];congr 1;rw[qbq hk]at hd;injection hd
 have hfn:d.fr.toNat=nx:=by omega
 have h1:DB (out++[nx]) b d=false:=by simp[DB,hfn]
 have h2:DB out b d=decide (d.to=(b:Int)):=by simp only[DB,hh,hfn,ho];simp
 unfold J3;rw[CP hd,he,qem,qds,qds,qen,h1,h2]
 by_cases ht:d.to=(b:Int)
 .simp[ht];omega
 .simp[ht]
theorem I6(banks:Int)(l:List Du):mayD banks l=(decide (0<=banks) && (decide (banks<=16) && (Ow l && MD banks l))):=by
 have h:(l.all fun d=>d.fine && (decide (d.fr<banks) && decide (d.to<banks)))=(l.all Du.fine && l.all fun d=>decide (d.fr<banks) && decide (d.to<banks)):=by
  induction l with
  |nil=>rfl
  |cons d l ih=>simp only[List.all_cons,ih];cases d.fine <;> cases l.all Du.fine <;> simp
 rw[mayD,Ow,MD,h];cases decide (l.length<=64) <;> simp
theorem Aq5(l:List Du)(out:List Nat)(nx k b:Nat):J3 l out nx k b<=l.length:=by
 unfold J3;have h1:(l.take k).countP (DB (out++[nx]) b)<=(l.take k).length:=qe9;have h2:(l.drop k).countP (DB out b)<=(l.drop k).length:=qe9;have h3:(l.take k).length+(l.drop k).length=l.length:=by rw[<-qat,qbn]
 omega
structure MayF(n:Nat)(l:List Du):Prop where
 n16:n<=16
 len:l.length<=64
 due:∀d,d∈l->d.fine=true/\0<=d.fr/\d.fr<n/\0<=d.to/\d.to<n/\d.fr≠d.to/\1<=d.am/\d.am<=4503599627370496
theorem TK{banks:Int}{l:List Du}(h:mayD banks l=true):∃n:Nat,banks=n/\MayF n l:=by
 simp only[mayD,qae,qam,qas]at h;obtain⟨h1,h2,h3,h4⟩:=h;refine⟨banks.toNat,by omega,by omega,h3,fun d hd=>?_⟩;obtain⟨hf,hfr,hto⟩:=h4 d hd;have hf':=hf;simp only[Du.fine,E5,qae,qbr,qda,qam]at hf';exact⟨hf,by omega,by omega,by omega,by omega,hf'.1,by omega,by omega⟩
def Gh(banks:Int)(l:List Du)(w:World)(v:Value)(w':World):Prop :=
 match J2 banks l with
 |none=>v=.tuple #[.slice none 0 0,.bool false]/\Ext [] w w'
 |some out=>∃s,v=.tuple #[s,.bool true]/\Fresh w w' 3 1 s (out.map fun(x:Nat)=>Value.int .i64 (x:Int))
theorem TL{banks:Int}{l:List Du}{w w':World}{v:Value}(h:J2 banks l=none)(hv:v=.tuple #[.slice none 0 0,.bool false])(hx:Ext [] w w'):Gh banks l w v w':=by
 unfold Gh;rw[h];exact⟨hv,hx⟩
theorem Ab2{banks:Int}{l:List Du}{out:List Nat}{w w':World}{v s:Value}(h:J2 banks l=some out)(hv:v=.tuple #[s,.bool true])(hx:Fresh w w' 3 1 s (out.map fun(x:Nat)=>Value.int .i64 (x:Int))):Gh banks l w v w':=by
 unfold Gh;rw[h];exact⟨s,hv,hx⟩
theorem Wj(banks:Int)(a:Option Addr)(c:Nat)(l:List Du)(w:World)(R:Rd w a 7 Du.enc l)(hm:l.length<=9223372036854775807:=by decide):
  Ret prog 92 #[.int .i64 banks,.slice a l.length c] w fun v w'=>Gh banks l w v w':=by
 obtain⟨w0,rfl,H⟩:=qE w;refine A2 (fn:=f92) func92 U [.int .i64 banks,.slice a l.length c] U ?_;refine Ad (Az U (Ai U (qA (Ap (Ad (B9 (α:=Unit) 4294934528 (fun _=>[(31,.bool (!mayD banks l))]) (fun _ w'=>Ctx w0 [] w' []) U ?_ ?_))))))
 .refine Ae U (AZ U U (Au U (AE 17 U ?_ ?_)))
  .intro h1;replace h1:=AJ h1;refine Ag U (Ag U (A8 U (.bool _) U (Au U (Ag U (Ag U (Ag U (A8 U (.bool _) U (Au U (Ag U ?_)))))))));refine Ag U (Ag U (Ag U (A8 U (.bool _) U (Ab ?_))));exact⟨rfl,(),rfl,⟨qaa Value.bool (by rw[I6];simp_all;try omega),trivial⟩,H⟩
  .intro h2;replace h2:=AK h2;refine Ae U (Cp U U (AA U (.bool _) U (Au U (AE 21 U ?_ ?_))))
   .intro h3;replace h3:=AJ h3;refine Ag U (Ag U (Ag U (A8 U (.bool _) U (Au U (Ag U (Ag U (Ag U (Ag U (A8 U (.bool _) U ?_)))))))));refine Ab ?_;exact⟨rfl,(),rfl,⟨qaa Value.bool (by rw[I6];simp_all;try omega),trivial⟩,H⟩
   .intro h4;replace h4:=AK h4;refine Ao U (Am qB (XW a c l _ (R.ext0 H.ext) hm) U ?_);rintro v w ⟨rfl,hx⟩;replace H:=H.call hx;refine B1 U (AA U (.bool _) U (Au U (AE 26 U ?_ ?_)))
    .intro h5;replace h5:=Bv h5;refine Ag U (Ag U (Ag U (Ag U (A8 U (.bool _) U (Ab ?_)))));exact⟨rfl,(),rfl,⟨qaa Value.bool (by rw[I6];simp_all;try omega),trivial⟩,H⟩
    .intro h6;replace h6:=Bw h6;refine Ae U (Ao U (Am qB (Wh banks a c l _ (R.ext0 H.ext) hm) U ?_));rintro v w ⟨rfl,hx⟩;replace H:=H.call hx;refine B1 U (AA U (.bool _) U (Ab ?_));exact⟨rfl,(),rfl,⟨qaa Value.bool (by rw[I6];simp_all;try omega),trivial⟩,H⟩
 rintro - j31 w H;refine Av _ U ?_ ?_
 .intro h1;replace h1:=Bv h1;refine Ad (Az U (Ai U (qA (A6 (Al (BG (v1:=(.slice _ _ _)) (v2:=(.bool _)) U U U U ?_))))));exact TL (by rw[J2,h1];rfl) U H.ext
 .intro h1;replace h1:=Bw h1;obtain⟨nb,rfl,F⟩:=TK h1;have h16:=F.n16;have h64:=F.len;refine Aq (Aa (Ad (Ae U (F2 Ct D9 Vp M4 U U H ?_))));rintro b33 w - H;rw[show((nb:Int)).toNat=nb from rfl,Ej]at H;refine Az U (qA (Ap (Ad (Ao U (AU BT U (Ae U (qA (Ax (Bn 2251731094208768 (α:=Nat) (fun k=>[(36,.int .i64 k)]) (fun k w'=>k<=l.length/\Ctx w0 [] w' [(b33,Bl 3 ((List.range nb).map fun b => .int .i64 (((l.take k).countP (DB [] b):Nat):Int)))]) (fun k=>l.length - k) 0 U ?_ ?_ ?_)))))))))
  .exact⟨rfl,trivial⟩
  .exact⟨qaf _,H⟩
  .rintro k j w ⟨hk,H⟩;refine Ad (AZ U U (qA (Ap (Av _ U ?_ ?_))))
   .intro h2;replace h2:=AJ h2;obtain⟨d,hd⟩:=AB (l:=l) (i:=k);obtain⟨hfine,d1,d2,d3,d4,d5,_⟩:=F.due d (qac hd);obtain⟨t,ht⟩:∃t:Nat,d.to=t:=⟨d.to.toNat,by omega⟩;have hcnt:(l.take k).countP (DB [] t)<=64:=qbe qe9 (by simp;omega);refine Aq (Aa (Ap (Ax (Ad (AM R BT BC U U (by rfl) ?_)))));refine Ca d.enc EF BC U U ((R.ext0 H.ext).row hd U) (AX DR H ?_);rintro b8 w - H;refine Bi BC U U U (by simp[AS,Du.enc]) H at0 U ?_;rintro w H;refine qA (Ad (Ah F6 U (AG HI U H at0 U (B1 U (qA (Av _ U ?_ ?_))))))
    .intro h3;replace h3:=Bv h3;refine Ay (Ao U (Ah D7 U (AG B6 U H at0 U (Bq Ct D9 U U ?_))));refine Ka t _ B6 U H at1 (by rw[ht];simp) U ?_;refine Aw U U (Bq Ct D9 U U ?_);refine Cl t (fun b => .int .i64 (((l.take (k+1)).countP (DB [] b):Nat):Int)) (.int _ _) D9 U U U H at1 (by rw[ht];simp) ?_ ?_ ?_
     rotate_left
     rotate_left
     rintro w H;refine Ab (A7 (Aa (Ay (Aw U U ?_))));refine Ae U (qA ?_)
     .refine⟨k+1,rfl,⟨by simp[put],trivial⟩,⟨by omega,H.tail⟩,by omega⟩
     .rw[CP hd,qem,qds,qen];simp[DB,ht,h3]
     .intro q hq hne;rw[CP hd,qem,qds,qen];have:¬(t:Int)=(q:Int):=by omega
      simp[DB,ht,this]
    .intro h3;replace h3:=Bw h3;refine Aq (A7 (Aa (Ay (Aw U U ?_))));refine Ae U (qA ?_);refine⟨k+1,rfl,⟨by simp[put],trivial⟩,⟨by omega,?_⟩,by omega⟩
     have he:(fun b:Nat=>Value.int .i64 (((l.take (k+1)).countP (DB [] b):Nat):Int))=fun b => .int .i64 (((l.take k).countP (DB [] b):Nat):Int):=by
      funext b
      rw[CP hd,qem,qds,qen];simp[DB,h3]
     rw[he];exact H.tail
   .intro h2;replace h2:=AK h2;have hke:k=l.length:=by omega
    subst hke;rw[qbf]at H;refine Be (Aj (Aj (AH (Aa (Ad (Ae U (F2 Ct D9 Vp M4 U U H ?_)))))));rintro b52 w - H;refine Az U (qA (Ad (Ae U (F2 Xq NV by_4 zc_4 U U H ?_))));rintro b54 w - H;rw[show((nb:Int)).toNat=nb from rfl,Ej nb (Value.bool false)]at H
    refine Az U (qA (Ap (Ax (Bn 649037107316853417537515022211632 (α:=List Nat × Option Addr × Nat × List Value) (fun x=>[(9,.slice x.2.1 x.1.length x.2.2.1)]) (fun x w'=>Ctx w0 [] w' ((b54,Bl 4 ((List.range nb).map fun b => .bool (x.1.contains b)))::(b33,Bl 3 ((List.range nb).map fun b => .int .i64 ((l.countP (DB x.1 b):Nat):Int)))::ent x.2.1 3 x.2.2.2)/\OS x.2.1 x.1.length x.2.2.1 1 x.2.2.2 (x.1.map fun(x:Nat)=>Value.int .i64 (x:Int))/\GU l nb nb []=GU l nb (nb - x.1.length) x.1/\x.1.length<=nb) (fun x=>nb - x.1.length) ([],some ⟨b52,0,none⟩,nb,List.replicate nb (.int .i64 0)) U ?_ ?_ ?_))))
    .exact⟨rfl,trivial⟩
    .exact⟨H.perm ((List.Perm.swap _ _ _).cons _),⟨(fun p hp=>by injection hp with hp;subst hp;rfl),(fun h=>by cases h),by simp,qaf _,by simp⟩,rfl,qaf _⟩
    .rintro⟨out,a',c',full⟩ j w ⟨H,O,hgo,hlen⟩;dsimp only at H O hgo hlen;dsimp only;refine Ap (Ad (Ao U (AU Ct U (Ae U (AZ U U (qA (Av _ U ?_ ?_)))))))
     .intro h2;replace h2:=AJ h2;refine Aq (Aa (Ax (Ad (Af U (qA (Ap (Ad (Ae U (Ae U (qA ?_))))))))));refine Ax (Bn 151114574530324039997440 (α:=Nat) (fun k=>[(60,.int .i64 k),(11,.int .i64 (-1))]) (fun k w'=>k<=nb/\Ctx w0 [] w' ((b54,Bl 4 ((List.range nb).map fun b => .bool (out.contains b)))::(b33,Bl 3 ((List.range nb).map fun b => .int .i64 ((l.countP (DB out b):Nat):Int)))::ent a' 3 full)/\(List.range k).find? (Z0 l out)=none) (fun k=>nb - k) 0 U ?_ ?_ ?_)
      .exact⟨rfl,rfl,trivial⟩
      .exact⟨qaf _,H,rfl⟩
      .rintro k j w ⟨hk,H,hn⟩;refine Ad (AZ U U (qA (Ap (Av _ U ?_ ?_))))
       .intro h3;replace h3:=AJ h3;have hfree:Z0 l out k=(!out.contains k && !l.any (DB out k)):=rfl;refine Aq (Aa (Ap (Ax (Ad (Ae U (Af U (qA (Ad (Ao U (Ae U ?_))))))))));refine Bq Xq NV U U (Ka k _ HI U H at0 (by simp) U ?_);refine B1 U (Au U (AE 68 U ?_ ?_))
        .intro h4;replace h4:=Bv h4;refine Ao U (Ae U (Bq Ct D9 U U ?_));refine Ka k _ B6 U H at1 (by simp) U ?_;refine Cj U U (A8 U (.bool _) U (qA (Av _ U ?_ ?_)))
         .intro h5;replace h5:=AJ h5;have hnx:Z4 l nb out=some k:=XZ hn (by rw[hfree,h4,(Rh l out k).1 h5];rfl)
          have hstep:GU l nb (nb - out.length) out=GU l nb (nb - (out.length+1)) (out++[k]):=by
           rw[show nb - out.length=(nb - (out.length+1))+1 from by omega,GU,hnx]
          have hlt:k<nb:=by omega
          clear hk h3;refine Ad (Ae U (Af U (qA (Be (FJ U (Aj (Aj (AH (Aa (Ap (Ad (Ae U (AZ U U (qA ?_))))))))))))));refine Av _ U ?_ ?_
          .intro h6;replace h6:=AJ h6;omega
          .intro h6;replace h6:=AK h6;refine Aq (Aa (Ad (Ao U (Ae U (Bq Xq NV U U ?_)))));refine Cl k (fun b => .bool ((out++[k]).contains b)) (.bool true) NV U U U H at0 (by simp) (by simp) (fun q hq hne=>by simp[hne]) ?_;rintro w H;refine qA (Ad (Ao U (Ae U (Cs _ (.int _ _) Ct D9 M4 U U U U H ?_))));rintro b84 w - H;refine C3 (L:=[_,_]) Ct Ct D9 Vp M4 U U U H O U (by simp[AS]) ?_;rintro a9 c9 full9 w H O;refine Az U (qA (Ad (Ao U (AU BT U (Ae U (qA (Ax ?_)))))));have hml:∀q b,J3 l out k q b<=64:=fun q b=>qbe (Aq5 _ _ _ _ _) h64;replace H:Ctx w0 [] w ((b54,Bl 4 ((List.range nb).map fun b => .bool ((out++[k]).contains b)))::(b33,Bl 3 ((List.range nb).map fun b => .int .i64 ((J3 l out k 0 b:Nat):Int)))::ent a9 3 full9):=by simp only[Ahy];exact H
           refine Bn 649036797831843632221243316387840 (α:=Nat) (fun q=>[(88,.int .i64 q)]) (fun q w'=>q<=l.length/\Ctx w0 [] w' ((b54,Bl 4 ((List.range nb).map fun b => .bool ((out++[k]).contains b)))::(b33,Bl 3 ((List.range nb).map fun b => .int .i64 ((J3 l out k q b:Nat):Int)))::ent a9 3 full9)) (fun q=>l.length - q) 0 U ?_ ?_ ?_
           .exact⟨rfl,trivial⟩
           .exact⟨qaf _,H⟩
           .rintro q j w ⟨hq,H⟩;refine Ad (AZ U U (qA (Ap (Av _ U ?_ ?_))))
            .intro h7;replace h7:=AJ h7;obtain⟨d,hd⟩:=AB (l:=l) (i:=q);obtain⟨hfine,d1,d2,d3,d4,d5,_⟩:=F.due d (qac hd);obtain⟨t,ht⟩:∃t:Nat,d.to=t:=⟨d.to.toNat,by omega⟩;have hcnt:=hml q t;refine Aq (Aa (Ap (Ax (Ad (AM R BT BC U U (by rfl) ?_)))));refine Ca d.enc EF BC U U ((R.ext0 H.ext).row hd U) (AX DR H ?_);rintro b14 w - H;refine Bi BC U U U (by simp[AS,Du.enc]) H at0 U ?_;rintro w H;refine qA (Ad (Ah F6 U (AG HI U H at0 U (B1 U (Au U (AE 95 U ?_ ?_))))))
             .intro h8;replace h8:=Bv h8;refine Ah Dk U (AG B6 U H at0 U (Ae U (Cj U U (A8 U (.bool _) U (qA (Av _ U ?_ ?_))))))
              .intro h9;replace h9:=AJ h9;refine Ay (Ao U (Ah D7 U (AG B6 U H at0 U (Bq Ct D9 U U ?_))));refine Ka t _ B6 U H at2 (by rw[ht];simp) U ?_;refine B3 U U (Bq Ct D9 U U ?_);refine Cl t (fun b => .int .i64 ((J3 l out k (q+1) b:Nat):Int)) (.int _ _) D9 U U U H at2 (by rw[ht];simp) ?_ ?_ ?_
               rotate_left
               rotate_left
               rintro w H;refine Ab (A7 (Aa (Ay (Aw U U ?_))));refine Ae U (qA ?_)
               .exact⟨q+1,rfl,⟨rfl,trivial⟩,⟨by omega,H.tail⟩,by omega⟩
               .refine qaa (Value.int .i64) ?_;rw[N0 hd h8 h9 (Z5 hnx).2.1,if_pos ht]
               .intro b hb hne;refine qaa (Value.int .i64) ?_;rw[N0 hd h8 h9 (Z5 hnx).2.1,if_neg (by omega)]
              .intro h9;replace h9:=AK h9;refine Aq (A7 (Aa (Ay (Aw U U ?_))));refine Ae U (qA ?_);refine⟨q+1,rfl,⟨rfl,trivial⟩,⟨by omega,?_⟩,by omega⟩;rw[show(fun b:Nat=>Value.int .i64 ((J3 l out k (q+1) b:Nat):Int))=fun b => .int .i64 ((J3 l out k q b:Nat):Int)from by funext b;rw[Wi hd (fun h=>h9 h.2) d1]];exact H.tail
             .intro h8;replace h8:=Bw h8;refine Ag U (Ag U (Ag U (Ag U (AA U (.bool _) U (qA (D5 U (Aq (A7 (Aa (Ay (Aw U U ?_)))))))))));refine Ae U (qA ?_);refine⟨q+1,rfl,⟨rfl,trivial⟩,⟨by omega,?_⟩,by omega⟩;rw[show(fun b:Nat=>Value.int .i64 ((J3 l out k (q+1) b:Nat):Int))=fun b => .int .i64 ((J3 l out k q b:Nat):Int)from by funext b;rw[Wi hd (fun h=>by simp[h.1]at h8) d1]];exact H.tail
            .intro h7;replace h7:=AK h7;have hqe:q=l.length:=by omega
             subst hqe;refine Be (Aj (Aj (AH (A7 (Aa ?_)))));refine⟨(out++[k],a9,c9,full9),rfl,⟨by rw[qat];rfl,trivial⟩,⟨by simpa only[Ak3]using H,by simpa using O,?_,by simp;omega⟩,by simp;omega⟩;rw[hgo,hstep];simp
         .intro h5;replace h5:=AK h5;refine Aq (A7 (Aa (Ay (Aw U U ?_))));refine Ae U (qA ?_);refine⟨k+1,rfl,⟨by simp[put],rfl,trivial⟩,⟨by omega,H,TJ hn ?_⟩,by omega⟩;rw[hfree,h4]
          cases ha:l.any (DB out k)with
          |true=>rfl
          |false=>exact absurd ((Rh l out k).2 ha) h5
        .intro h4;replace h4:=Bw h4;refine Ag U (Ag U (Ag U (Ag U (Ag U (AA U (.bool _) U (qA (D5 U (Aq (A7 (Aa (Ay ?_)))))))))));refine Aw U U (Ae U (qA ?_));refine⟨k+1,rfl,⟨by simp[put],rfl,trivial⟩,⟨by omega,H,TJ hn ?_⟩,by omega⟩;rw[hfree,h4];rfl
       .intro h3;replace h3:=AK h3;have hke:k=nb:=by omega
        subst hke;refine Be (Aj (Aj (AH (Aa (Ap (Ad (Ae U (AZ U U (qA (Av _ U ?_ ?_))))))))))
        .intro h6;replace h6:=AJ h6;refine Ad (Az U (Ai U (qA (A6 (Al (A5 (Al (A5 (Al (BG (v1:=(.slice _ _ _)) (v2:=(.bool _)) U U U U ?_))))))))));refine TL ?_ U H.ext;rw[J2,h1];show GU l k k []=none;rw[hgo,show k - out.length=(k - out.length - 1)+1 from by omega,GU,show Z4 l k out=none from hn]
        .intro h6;replace h6:=AK h6;omega
     .intro h2;replace h2:=AK h2;have hle:out.length=nb:=by omega
      refine Be (Aj (Aj (AH (Aa (Ad (Ao U (Az U (Ai U (qA (A6 (BG (v1:=(.slice _ _ _)) (v2:=(.bool _)) U U U U (Ab2 (out:=out) ?_ U (H.fresh (L:=[_,_]) O)))))))))))));rw[J2,h1];show GU l nb nb []=some out;rw[hgo,hle,qd2,GU]
def FZ:List Du->Int
 | []=>0
 |d::l=>d.am+FZ l
def Hi(b:Nat)(d:Du):Int:=if d.held=false/\d.to=(b:Int)then d.am else 0
def HZ(b:Nat)(d:Du):Int:=if d.held=false/\d.fr=(b:Int)then d.am else 0
def netB:List Du->Nat->Int
 | [],_=>0
 |d::l,b=>(Hi b d - HZ b d)+netB l b
def netsE(banks:Int)(l:List Du):Int :=
 bif !(decide (0<=banks) && (decide (banks<=16) && Ow l))then 1 else bif !MD banks l then 10 else bif decide (4503599627370496<FZ l)then 13 else 0
theorem Wk(l m:List Du):FZ (l++m)=FZ l+FZ m:=by
 induction l with
 |nil=>simp[FZ]
 |cons d l ih=>simp only[qcm,FZ,ih];omega
theorem Wl(l m:List Du)(b:Nat):netB (l++m) b=netB l b+netB m b:=by
 induction l with
 |nil=>simp[netB]
 |cons d l ih=>simp only[qcm,netB,ih];omega
theorem Wm{l:List Du}(h:∀d∈l,1<=d.am):0<=FZ l:=by
 induction l with
 |nil=>exact qav _
 |cons d l ih =>
  have h1:=h d (by simp);have h2:=ih (fun x hx=>h x (by simp[hx]));simp only[FZ];omega
theorem Ab3{l:List Du}(h:∀d∈l,1<=d.am)(k:Nat):FZ (l.take k)<=FZ l:=by
 have h1:FZ (l.take k)+FZ (l.drop k)=FZ l:=by rw[<-Wk,qbn]
 have h2:0<=FZ (l.drop k):=Wm fun d hd=>h d (qc3 hd);omega
theorem Ak4{l:List Du}(h:∀d∈l,1<=d.am)(b:Nat) : -(FZ l)<=netB l b/\netB l b<=FZ l:=by
 induction l with
 |nil=>exact⟨by simp[netB,FZ],by simp[netB,FZ]⟩
 |cons d l ih =>
  have h1:=h d (by simp);have h2:=ih (fun x hx=>h x (by simp[hx]));simp only[netB,FZ,Hi,HZ]
  split <;> split <;> omega
theorem Ab4{l:List Du}{k:Nat}{d:Du}(h:l[k]?=some d):FZ (l.take (k+1))=FZ (l.take k)+d.am:=by
 rw[CP h,Wk];simp[FZ]
theorem Ox{l:List Du}{k:Nat}{d:Du}(h:l[k]?=some d)(b:Nat):netB (l.take (k+1)) b=netB (l.take k) b+Hi b d - HZ b d:=by
 rw[CP h,Wl];simp only[netB];omega
structure NetsF(n:Nat)(l:List Du):Prop extends MayF n l where
 sum:∀k,0<=FZ (l.take k)
 net:∀(k b:Nat),-(FZ (l.take k))<=netB (l.take k) b/\netB (l.take k) b<=FZ (l.take k)
 part:∀k,FZ (l.take k)<=FZ l
theorem Yb{n:Nat}{l:List Du}(F:MayF n l):NetsF n l :=
 have h:∀d∈l,1<=d.am:=fun d hd=>(F.due d hd).2.2.2.2.2.2.1;have ht:∀k,∀d∈l.take k,1<=d.am:=fun _ d hd=>h d (qdh hd)
 ⟨F,fun k=>Wm (ht k),fun k b=>Ak4 (ht k) b,fun k=>Ab3 h k⟩
def NetsPost(banks:Int)(l:List Du)(w:World)(v:Value)(w':World):Prop :=
 (netsE banks l≠0/\v=.tuple #[.slice none 0 0,.int .i64 (netsE banks l)]/\Ext [] w w') \/
 (netsE banks l=0/\∃s,v=.tuple #[s,.int .i64 0]/\Fresh w w' 2 1 s ((List.range banks.toNat).map fun b => .int .i64 (netB l b)))
theorem L7{banks:Int}{l:List Du}{w w':World}{v:Value}{e:Int}(h:netsE banks l=e)(hv:v=.tuple #[.slice none 0 0,.int .i64 e])(hx:Ext [] w w')(h0:e≠0:=by decide):NetsPost banks l w v w' :=
 .inl ⟨by rw[h];exact h0,by rw[h];exact hv,hx⟩
theorem Ahz{banks:Int}{l:List Du}:mayD banks l=true->netsE banks l=bif decide (4503599627370496<FZ l)then 13 else 0:=by
 rw[I6,netsE];cases decide (0<=banks) <;> cases decide (banks<=16) <;> cases Ow l <;> cases MD banks l <;> simp
theorem Ah0{b n:Nat}{l:List Value}(h:l.length=n):OS (some ⟨b,0,none⟩) n n 1 l l :=
 ⟨(fun p hp=>by injection hp with hp;subst hp;rfl),(fun h=>by cases h),by omega,qan _,by rw[qcl,<-h,qbf]⟩
theorem nets_ok(banks:Int)(a:Option Addr)(c:Nat)(l:List Du)(w:World)(R:Rd w a 7 Du.enc l)(hm:l.length<=9223372036854775807) :
  Ret prog 41 #[.int .i64 banks,.slice a l.length c] w fun v w'=>NetsPost banks l w v w':=by
 obtain⟨w0,rfl,H⟩:=qE w;refine A2 (fn:=f41) func41 U [.int .i64 banks,.slice a l.length c] U (Ad (Az U (Af U (qA (Ap (Ax (Ap (Ad (Ae U (AZ U U ?_))))))))));refine Ai U (qA (Dc 10 U ?_ ?_))
 .intro h1;replace h1:=AJ h1;refine Aq (Aa (D4 U (Ad (Az U (Af U (qA (A6 (A5 (Al (BG (v1:=(.slice _ _ _)) (v2:=(.int _ _)) U U U U ?_))))))))));exact L7 (by rw[netsE,qay (show ¬0<=banks by omega)];rfl) U H.ext
 .intro h1;replace h1:=AK h1;refine Ad (Ae U (Cp U U (Ai U (qA (Dc 10 U ?_ ?_)))))
  .intro h2;replace h2:=AJ h2;refine Aq (Aa (D4 U (Ad (Az U (Af U (qA (A6 (A5 (Al (BG (v1:=(.slice _ _ _)) (v2:=(.int _ _)) U U U U ?_))))))))));exact L7 (by rw[netsE,qay (show ¬banks<=16 by omega),qd5,qcn];rfl) U H.ext
  .intro h2;replace h2:=AK h2;refine Ay (Ao U (Am qB (XW a c l _ (R.ext0 H.ext) hm) U ?_));rintro v w ⟨rfl,hx⟩;replace H:=H.call hx;refine B1 U (Ai U (qA (Dc 10 U ?_ ?_)))
   .intro h3;replace h3:=Bv h3;refine Ad (Az U (Af U (qA (A6 (A5 (Al (BG (v1:=(.slice _ _ _)) (v2:=(.int _ _)) U U U U ?_)))))));exact L7 (by rw[netsE,h3,qcn,qcn];rfl) U H.ext
   .intro h3;replace h3:=Bw h3;refine Ad (Ae U (Ao U (Am qB (Wh banks a c l _ (R.ext0 H.ext) hm) U ?_)));rintro v w ⟨rfl,hx⟩;replace H:=H.call hx;refine B1 U (Ai U (qA (Av _ U ?_ ?_)))
    .intro h4;replace h4:=Bv h4;refine Ad (Az U (Af U (qA (A6 (A5 (Al (BG (v1:=(.slice _ _ _)) (v2:=(.int _ _)) U U U U ?_)))))));exact L7 (by rw[netsE,h3,h4,qal (show 0<=banks by omega),qal (show banks<=16 by omega)];rfl) U H.ext
    .intro h4;replace h4:=Bw h4;have hmay:mayD banks l=true:=by rw[I6,h3,h4,qal (show 0<=banks by omega),qal (show banks<=16 by omega)];rfl
     have hE:=Ahz hmay;obtain⟨nb,rfl,F⟩:=TK hmay;replace F:=Yb F;have h16:=F.n16;have h64:=F.len;refine Aq (A7 (Aa (Ad (Ae U (F2 AR Bt J9 Eh U U H ?_)))));rintro b24 w - H;rw[show((nb:Int)).toNat=nb from rfl,Ej]at H;refine Az U (qA (Ad (Af U (qA (Ap (Ad (Ao U (AU BT U (Ae U ?_)))))))));refine qA (Ax (Bn 2305843009079476912 (α:=Nat) (fun k=>[(27,.int .i64 k),(7,.int .i64 (4503599627370496 - FZ (l.take k)))]) (fun k w'=>k<=l.length/\FZ (l.take k)<=4503599627370496/\Ctx w0 [] w' [(b24,Bl 2 ((List.range nb).map fun b => .int .i64 (netB (l.take k) b)))]) (fun k=>l.length - k) 0 U ?_ ?_ ?_))
     .exact⟨rfl,rfl,trivial⟩
     .exact⟨qaf _,by simp[FZ],H⟩
     .rintro k j w ⟨hk,hle,H⟩;have hs0:=F.sum k;refine Ad (AZ U U (qA (Ap (Av _ U ?_ ?_))))
      .intro h5;replace h5:=AJ h5;obtain⟨d,hd⟩:=AB (l:=l) (i:=k);obtain⟨hfine,d1,d2,d3,d4,d5,d6,d7⟩:=F.due d (qac hd);have hsn:=Ab4 hd;refine Aq (Aa (Ap (Ax (Ad (AM R BT BC U U (by rfl) ?_)))));refine Ca d.enc EF BC U U ((R.ext0 H.ext).row hd U) (AX DR H ?_);rintro b9 w - H;refine Bi BC U U U (by simp[AS,Du.enc]) H at0 U ?_;rintro w H;refine qA (Ap (Ad (Ah Dl U (AG Bm U H at0 U (Ae U (Cp U U (qA (Av _ U ?_ ?_))))))))
       .intro h6;replace h6:=AJ h6;refine Ad (Az U (Af U (qA (A6 (Al (A5 (Al (Al (A5 (Al (BG (v1:=(.slice _ _ _)) (v2:=(.int _ _)) U U U U ?_)))))))))));have hp:=F.part (k+1);exact L7 (by rw[hE,qal (show 4503599627370496<FZ l by omega)];rfl) U H.ext
       .intro h6;replace h6:=AK h6;obtain⟨t,ht⟩:∃t:Nat,d.to=t:=⟨d.to.toNat,by omega⟩;obtain⟨u,hu⟩:∃u:Nat,d.fr=u:=⟨d.fr.toNat,by omega⟩;have hnt:=F.net k t;have hnu:=F.net k u;refine Aq (Aa (Ad (Ae U (Ah Dl U (AG Bm U H at0 U (B3 U U ?_))))));refine Af U (qA (Ad (Ah F6 U (AG HI U H at0 U (B1 U (qA (Av _ U ?_ ?_)))))))
        .intro h7;replace h7:=Bv h7;have hut:u≠t:=by omega
         have a1:Hi t d=d.am:=by simp[Hi,h7,ht]
         have a2:∀q,q≠t->Hi q d=0:=fun q hq=>by rw[Hi,if_neg (by omega)]
         have a3:HZ u d=d.am:=by simp[HZ,h7,hu]
         have a4:∀q,q≠u->HZ q d=0:=fun q hq=>by rw[HZ,if_neg (by omega)]
         have hau:=a2 u hut;refine EB 9 Bs U U (B0 U (A3 D7 U (BS B6 U (by rintro _ rfl;exact H.drew) at0 U ?_)));refine Bd AR Bt U U (Yp t _ U Bm U (by rintro _ rfl;exact H.drew) at1 (by rw[ht];simp) U ?_);refine A3 Dl U (BS Bm U (by rintro _ rfl;exact H.drew) at0 U ?_);refine CX U U (Bd AR Bt U U ?_);refine BM ?_;replace H:=H.drew;refine Cl t (fun q => .int .i64 (netB (l.take k) q+Hi q d)) (.int _ _) Bt U U U H at1 (by rw[ht];simp) (by rw[a1]) (fun q hq hne=>by rw[a2 q hne];simp) ?_;rintro w H;refine qA (FK 9 Bs U U ?_);refine B0 U (A3 Dk U (BS B6 U (by rintro _ rfl;exact H.drew) at0 U ?_));refine Bd AR Bt U U ?_
         refine Yp u _ U Bm U (by rintro _ rfl;exact H.drew) at1 (by rw[hu];simp) U ?_;refine A3 Dl U (BS Bm U (by rintro _ rfl;exact H.drew) at0 U ?_);refine Dp U U (Bd AR Bt U U ?_);refine BM ?_;replace H:=H.drew;refine Cl u (fun q => .int .i64 (netB (l.take (k+1)) q)) (.int _ _) Bt U U U H at1 (by rw[hu];simp) (by rw[Ox hd,a3]) (fun q hq hne=>by rw[Ox hd,a4 q hne];simp) ?_;rintro w H;refine Ab (A7 (Aa (Ay (Aw U U ?_))));refine Ae U (qA ?_);refine⟨k+1,rfl,⟨rfl,?_,trivial⟩,⟨by omega,by omega,H.tail⟩,by omega⟩;refine qaa (Value.int .i64) ?_;rw[hsn];omega
        .intro h7;replace h7:=Bw h7;refine Aq (A7 (Aa (Ay (Aw U U ?_))));refine Ae U (qA ?_);refine⟨k+1,rfl,⟨rfl,?_,trivial⟩,⟨by omega,by omega,?_⟩,by omega⟩
         .refine qaa (Value.int .i64) ?_;rw[hsn];omega
         .rw[show(fun b:Nat=>Value.int .i64 (netB (l.take (k+1)) b))=fun b => .int .i64 (netB (l.take k) b)from by funext b;rw[Ox hd];simp[Hi,HZ,h7]];exact H.tail
      .intro h5;replace h5:=AK h5;have hke:k=l.length:=by omega
       subst hke;rw[qbf]at H hle;refine Be (Aj (Aj (AH (Aa (Ad (Ao U (Az U (Af U (qA (A6 (BG (v1:=(.slice _ _ _)) (v2:=(.int _ _)) U U U U ?_)))))))))));refine .inr ⟨by rw[hE,qay (show ¬4503599627370496<FZ l by omega)];rfl,_,rfl,?_⟩;exact H.fresh (L:=[]) (a:=some ⟨b24,0,none⟩) (Ah0 (by simp))
def Topo(l:List Du):List Nat->Prop
 | []=>True
 |b::D=>(∀d∈l,d.held=false->d.fr=(b:Int)->d.to.toNat∈D)/\b∉D/\Topo l D
theorem Yc:∀(n:Nat) (l:List Nat),l.Nodup->(∀x∈l,x<n)->l.length<=n
 |0,l,_,h=>by
  cases l with
  |nil=>exact qan _
  |cons x l=>exact absurd (h x (by simp)) (qaw _)
 |n+1,l,hd,h=>by
  have h1:=Yc n (l.filter (· != n)) (hd.filter _) (fun x hx=>by
   have:=h x (qbc.1 hx).1;have h2:=(qbc.1 hx).2
   simp at h2;omega)
  have h2:l.length=(l.filter (· != n)).length+l.count n:=by
   clear hd h h1
   induction l with
   |nil=>rfl
   |cons x l ih =>
    rw[qew,qbw]
    by_cases hx:x=n
    .subst hx;simp;omega
    .simp[hx];omega
  have h3:l.count n<=1:=List.nodup_iff_count.1 hd n;omega
theorem Topo.closed{l:List Du}:∀{D:List Nat},Topo l D->∀d∈l,d.held=false->0<=d.fr->d.fr.toNat∈D->d.to.toNat∈D
 | [],_,d,_,_,_,h=>absurd h (by simp)
 |b::D,⟨h1,_,h3⟩,d,hd,hh,h0,h=>by
  rcases qag.1 h with h|h
  .exact qai _ (h1 d hd hh (by omega))
  .exact qai _ (Topo.closed h3 d hd hh h0 h)
theorem Topo.noIn{l:List Du}(hn:∀d∈l,d.fr≠d.to/\0<=d.fr/\0<=d.to)(U:Nat->Prop):∀{D:List Nat},Topo l D->(∀b,U b->b∈D) ->
  (∀b,U b->∃d∈l,d.held=false/\d.to.toNat=b/\U d.fr.toNat)->∀b,¬U b
 | [],_,hU,_,b,hb=>absurd (hU b hb) (by simp)
 |c::D,⟨h1,h2,h3⟩,hU,hin,b,hb=>by
  have hc:¬U c:=fun hc=>by
   obtain⟨d,hd,hh,ht,hf⟩:=hin c hc;have hne:=hn d hd
   rcases qag.1 (hU _ hf)with h|h
   .omega
   .have:=Topo.closed h3 d hd hh hne.2.1 h;rw[ht]at this;exact h2 this
  exact Topo.noIn hn U h3 (fun b hb=>by
   rcases qag.1 (hU b hb)with h|h
   .subst h;exact absurd hb hc
   .exact h) hin b hb
structure Walk(l:List Du)(way:List Int)(ds:List Du):Prop where
 len:ds.length=way.length
 at':∀(i:Nat) (d:Du),ds[i]?=some d->∃x:Int,way[i]?=some x/\0<=x/\l[x.toNat]?=some d/\d.held=false
theorem Walk.dq{l:List Du}{way:List Int}{ds:List Du}(h:Walk l way ds){i:Nat}{d:Du}(hd:ds[i]?=some d):dq l way i=d:=by
 obtain⟨x,h1,_,h2,_⟩:=h.at' i d hd;simp[Go.Proofs.YtdagmpmdcgedcaaGreat.Cy.dq,h1,h2]
theorem Walk.ok{l:List Du}{way:List Int}{ds:List Du}(h:Walk l way ds){i:Nat}{d:Du}(hd:ds[i]?=some d):okI l way i=true:=by
 obtain⟨x,h1,h0,h2,h3⟩:=h.at' i d hd;have hl:=Cb h2;rw[okI,h.dq hd,h1,h3];simp;omega
theorem Walk.drop{l:List Du}{way:List Int}{ds:List Du}(h:Walk l way ds)(k:Nat):Walk l (way.drop k) (ds.drop k) :=
 ⟨by rw[qcs,qcs,h.len],fun i d hd=>by
  rw[qcb]at hd;obtain⟨x,h1,h2⟩:=h.at' _ d hd
  exact⟨x,by rw[qcb];exact h1,h2⟩⟩
theorem Walk.snoc{l:List Du}{way:List Int}{ds:List Du}{k:Nat}{d:Du}(h:Walk l way ds)(hd:l[k]?=some d)(hh:d.held=false):Walk l (way++[(k:Int)]) (ds++[d]) :=
 ⟨by simp[h.len],fun i e he=>by
  rw[qev]at he
  split at he
  .obtain⟨x,h1,h2⟩:=h.at' i e he;exact⟨x,by rw[qb7 (Cb h1)];exact h1,h2⟩
  .rename_i hi
   have h1:i=ds.length:=by
    have:=Cb he;simp at this;omega
   subst h1;simp at he;subst he
   exact⟨k,by rw[h.len];simp,by omega,by simpa using hd,hh⟩⟩
structure Path(ds:List Du)(bank:Int):Prop where
 chain:∀i d e,ds[i]?=some d->ds[i+1]?=some e->d.to=e.fr
 last:∀d,ds[ds.length - 1]?=some d->d.to=bank
 nd:(ds.map (·.fr)).Nodup
 new:∀d∈ds,d.fr≠bank
theorem Path.nil(bank:Int):Path [] bank:=⟨by simp,by simp,by simp,by simp⟩
theorem Path.snoc{ds:List Du}{d:Du}(h:Path ds d.fr)(hn:∀e∈ds++[d],e.fr≠d.to):Path (ds++[d]) d.to:=by
 refine⟨?_,?_,?_,hn⟩
 .intro i a b ha hb;rw[qev]at hb
  split at hb
  .rename_i hi
   rw[qb7 (by omega)]at ha;exact h.chain i a b ha hb
  .rename_i hi
   have hl:=Cb hb;simp at hl;have hi':i+1=ds.length:=by omega
   rw[hi',qd2]at hb;simp at hb;subst hb;rw[qb7 (by omega)]at ha;exact h.last a (by rw[show ds.length - 1=i by omega];exact ha)
 .intro a ha;simp at ha;rw[ha]
 .rw[qax,qdg];refine⟨h.nd,by simp,?_⟩;intro a ha b hb hab;simp at hb;subst hb;subst hab;obtain⟨e,he,hf⟩:=qah.1 ha;exact h.new e he hf
theorem Path.short{ds:List Du}{bank:Int}(h:Path ds bank)(hb:∀d∈ds,0<=d.fr/\d.fr<16)(h0:0<=bank)(h1:bank<16):ds.length<=15:=by
 have hm:((bank::ds.map (·.fr)).map Int.toNat).Nodup:=by
  rw[qd3,List.pairwise_map]
  have:(bank::ds.map (·.fr)).Nodup:=qd6.2 ⟨fun hm=>by
   obtain⟨d,hd,he⟩:=qah.1 hm
   exact h.new d hd he,h.nd⟩
  have hall:∀x∈bank::ds.map (·.fr),0<=x:=fun x hx=>by
   rcases qag.1 hx with hx|hx
   .omega
   .obtain⟨d,hd,he⟩:=qah.1 hx;have:=hb d hd;omega
  refine qex ?_ this;intro a b ha hb' hab he;have:=hall a ha;have:=hall b hb';omega
 have:=Yc 16 _ hm (fun x hx=>by
  obtain⟨y,hy,rfl⟩:=qah.1 hx
  rcases qag.1 hy with hy|hy
  .omega
  .obtain⟨d,hd,he⟩:=qah.1 hy
   have:=hb d hd;omega)
 simp at this;omega
theorem UJ{l:List Du}{way:List Int}{ds:List Du}{d:Du}{k i:Nat}{e:Du}(hw:Walk l way ds)(hp:Path ds d.fr)(hd:l[k]?=some d)(hh:d.held=false)(he:(ds++[d])[i]?=some e)(hb:e.fr=d.to):Fz l ((way++[(k:Int)]).drop i)=true:=by
 have hW:=(hw.snoc hd hh).drop i;have hil:=Cb he;simp only[qat,qbx]at hil;have hlen:=hW.len;simp only[qcs,qat,qbx]at hlen
 have hnd:((ds++[d]).map (·.fr)).Nodup:=by
  rw[qax,qdg];refine⟨hp.nd,by simp,?_⟩;intro a ha b hb' hab;simp at hb';subst hb';subst hab;obtain⟨x,hx,hf⟩:=qah.1 ha;exact hp.new x hx hf
 have hget:∀j,j<((way++[(k:Int)]).drop i).length->∃x,((ds++[d]).drop i)[j]?=some x:=fun j hj=>AB (h:=by rw[hW.len];exact hj)
 have hpos:0<((way++[(k:Int)]).drop i).length:=by
  rw[<-hW.len,qcs,qat,qbx];omega
 rw[Fz,qal hpos,qdo,qae,qas,qas];refine⟨fun j hj=>?_,fun j hj=>?_⟩
 .obtain⟨x,hx⟩:=hget j (qaz.1 hj);rw[FY,hW.ok hx,qb9,qas];intro q hq;obtain⟨y,hy⟩:=hget q (qcv (qaz.1 hq) (qaz.1 hj));rw[hW.dq hx,hW.dq hy];simp only[qbr,qda];intro hxy;rw[qcb]at hx hy;have h1:((ds++[d]).map (·.fr))[i+j]?=some x.fr:=by rw[qa1,hx];rfl
  have h2:((ds++[d]).map (·.fr))[i+q]?=some x.fr:=by rw[qa1,hy,<-hxy];rfl
  have:=(List.getElem?_inj (Cb h1) hnd).1 (h1.trans h2.symm);have:=qaz.1 hq;omega
 .obtain⟨x,hx⟩:=hget j (qaz.1 hj);have hjl:=qaz.1 hj;rw[IW,hW.dq hx,qam]
  by_cases hl:j+1<((way++[(k:Int)]).drop i).length
  .obtain⟨y,hy⟩:=hget (j+1) hl;rw[qcg hl,hW.dq hy];rw[qcb]at hx hy
   have hP:∀(m:Nat) (a b:Du),(ds++[d])[m]?=some a->(ds++[d])[m+1]?=some b->a.to=b.fr:=by
    intro m a b ha hb';rw[qev]at hb'
    split at hb'
    .rw[qb7 (by omega)]at ha;exact hp.chain m a b ha hb'
    .have hl2:=Cb hb';simp at hl2;have hm:m+1=ds.length:=by omega
     rw[hm,qd2]at hb';simp at hb';subst hb';rw[qb7 (by omega)]at ha;exact hp.last a (by rw[show ds.length - 1=m by omega];exact ha)
   exact hP _ _ _ hx hy
  .have hje:j+1=((way++[(k:Int)]).drop i).length:=by omega
   obtain⟨y,hy⟩:=hget 0 hpos;rw[hje,Nat.mod_self,hW.dq hy];rw[qcb]at hx hy;rw[qdx,he]at hy
   injection hy with hy
   subst hy;rw[<-hW.len,qcs,qat,qbx]at hje;rw[show i+j=ds.length by omega]at hx;simp at hx;rw[<-hx,hb]
def fvF(bl bd bw bf:Nat):Value := .func (.func 96) #[] #[.pointer (some ⟨bl,0,none⟩),.pointer (some ⟨bd,0,none⟩),.pointer (some ⟨bw,0,none⟩),.pointer (some ⟨bf,0,none⟩)]
abbrev iv(x:Int):Value := .int .i64 x
abbrev FB(a:Option Addr)(c:Nat)(l:List Du)(bl bd bw bf:Nat)(D:List Nat)(aw:Option Addr)(cw:Nat)(way:List Int)(full:List Value):List (Nat × Obj) :=
 (bl,Bl 27 [.slice a l.length c])::(bd,Bl 158 ((List.range 16).map fun b => .bool (D.contains b)))::(bw,Bl 94 [.slice aw way.length cw])::(bf,Bl 159 [fvF bl bd bw bf])::ent aw 3 full
structure FromPost(a:Option Addr)(c:Nat)(l:List Du)(bl bd bw bf:Nat)(S:List Nat)(w:World)(D:List Nat)(way:List Int)(bank:Nat)(w':World)(D':List Nat)(way':List Int)(aw:Option Addr)(cw:Nat)(full:List Value)(av:Option Addr)(nv cv:Nat)(fv:List Value):Prop where
 os:OS aw way'.length cw 1 full (way'.map iv)
 topo:Topo l D'
 sub:∀b,b∈D->b∈D'
 ctx:Ctx w S w' (FB a c l bl bd bw bf D' aw cw way' full++ent av 3 fv)
 out:(av=none/\nv=0/\cv=0/\way'=way/\bank∈D')\/(av.isSome=true/\∃r:List Int,Fz l r=true/\nv=r.length/\OS av nv cv 1 fv (r.map iv))
theorem OS.pop{a:Option Addr}{n c:Nat}{full l:List Value}{x:Value}(h:OS a (n+1) c 1 full (l++[x]))(hl:l.length=n):OS a n c 1 full l :=
 ⟨h.zero,h.none',h.len,by have:=h.le;omega,by
  have h1:=h.pre;rw[qcl]at h1 |-;have h2:(full.take (n+1)).take n=l:=by rw[h1,List.take_append_of_le_length (by omega),qcf (by omega)]
  rw[List.take_take]at h2
  rw[<-h2,qce (by omega)]⟩
theorem Ak5(a:Option Addr)(c:Nat)(l:List Du)(bl bd bw bf:Nat)(hm:l.length<=64)(F:∀d∈l,0<=d.fr/\d.fr<16/\0<=d.to/\d.to<16/\d.fr≠d.to) :
  ∀(n:Nat) (w:World) (D:List Nat) (way:List Int) (ds:List Du) (aw:Option Addr) (cw:Nat) (full:List Value) (bank:Nat),ds.length+n=16 ->
  (∀w',Ext ((FB a c l bl bd bw bf D aw cw way full).map (·.1)) w w'->Rd w' a 7 Du.enc l)->Ctx w ((FB a c l bl bd bw bf D aw cw way full).map (·.1)) w (FB a c l bl bd bw bf D aw cw way full) ->
  OS aw way.length cw 1 full (way.map iv)->Walk l way ds->Path ds (bank:Int)->bank<16->Topo l D ->
  Ret prog 96 #[.int .i64 (bank:Int),.pointer (some ⟨bl,0,none⟩),.pointer (some ⟨bd,0,none⟩),.pointer (some ⟨bw,0,none⟩),.pointer (some ⟨bf,0,none⟩)] w
   fun v w'=>∃D' way' aw' cw' full' av nv cv fv,v=.slice av nv cv/\FromPost a c l bl bd bw bf ((FB a c l bl bd bw bf D aw cw way full).map (·.1)) w D way bank w' D' way' aw' cw' full' av nv cv fv:=by
 intro n
 induction n with
 |zero =>
  intro w D way ds aw cw full bank hn hR H O hW hP hb hT
  have:=hP.short (fun d hd=>by
   obtain⟨i,hi,rfl⟩:=List.getElem_of_mem hd;obtain⟨x,_,_,h3,_⟩:=hW.at' i _ (qbq hi);have:=F _ (qac h3)
   omega) (by omega) (by omega)
  omega
 |succ n ih =>
  intro w D way ds aw cw full bank hn hR H O hW hP hb hT;have hS:=qD ((FB a c l bl bd bw bf D aw cw way full).map (·.1));obtain⟨S,hS⟩:=hS;rw[<-hS]at hR H |-;have hds:ds.length<=15:=by omega
  have hwl:way.length<=15:=by rw[<-hW.len];exact hds
  obtain⟨w0,hw0⟩:=qD w;have R:=hR w (.refl _ _);have hR0:∀w',Ext S w0 w'->Rd w' a 7 Du.enc l:=by rw[hw0];exact hR
  replace H:Ctx w0 S w (FB a c l bl bd bw bf D aw cw way full):=by rw[hw0];exact H
  rw[show FromPost a c l bl bd bw bf S w=FromPost a c l bl bd bw bf S w0 from by rw[hw0]];clear hR hw0 hS;refine A2 (fn:=f96) func96 U [.int .i64 (bank:Int),.pointer (some ⟨bl,0,none⟩),.pointer (some ⟨bd,0,none⟩),.pointer (some ⟨bw,0,none⟩),.pointer (some ⟨bf,0,none⟩)] U ?_;refine Ad (Az U (qA (Pt (Ap (Ps (Aa (Ap (Ad (AG Gj U H at0 U (AU BT U ?_))))))))));refine Ae U (qA (Ax (Bn 1180591620717411291072 (α:=Nat × List Nat × Option Addr × Nat × List Value) (fun x=>[(14,.int .i64 x.1)]) (fun x w'=>x.1<=l.length/\Ctx w0 S w' (FB a c l bl bd bw bf x.2.1 x.2.2.1 x.2.2.2.1 way x.2.2.2.2)/\OS x.2.2.1 way.length x.2.2.2.1 1 x.2.2.2.2 (way.map iv)/\Topo l x.2.1/\(∀b,b∈D->b∈x.2.1)/\(∀d∈l.take x.1,d.held=false->d.fr=(bank:Int)->d.to.toNat∈x.2.1)) (fun x=>l.length - x.1) (0,D,aw,cw,full) U ?_ ?_ ?_)))
  .exact⟨rfl,trivial⟩
  .exact⟨qaf _,H,O,hT,fun _ h=>h,by simp⟩
  .rintro⟨k,D1,a1,c1,full1⟩ j w ⟨hk,H,O,hT,hsub,hdone⟩;dsimp only at hk H O hT hsub hdone;dsimp only;refine Ad (AZ U U (qA (Ap (Av _ U ?_ ?_))))
   .intro h1;replace h1:=AJ h1;obtain⟨d,hd⟩:=AB (l:=l) (i:=k);obtain⟨d1,d2,d3,d4,d5⟩:=F d (qac hd);obtain⟨t,ht⟩:∃t:Nat,d.to=t:=⟨d.to.toNat,by omega⟩;have htn:d.to.toNat=t:=by omega
    refine Aq (Aa (Ap (Ax (Ad (Ae U (AM R BT BC U U (by rfl) ?_))))));refine Ca d.enc EF BC U U ((hR0 _ H.ext).row hd U) (AX DR H ?_);rintro b8 w - H;refine Af U (Bi BC U U U (by simp[AS,Du.enc]) H at0 U ?_);rintro w H;refine qA (Ap (Ad (B9 (α:=Unit) 8589410304 (fun _=>[(32,.bool (!(!d.held && (decide (d.fr=(bank:Int)) && !D1.contains t))))]) (fun _ w'=>Ctx w0 S w' ((b8,Bl 67 d.enc)::FB a c l bl bd bw bf D1 a1 c1 way full1)) U ?_ ?_)))
    .refine Ah F6 U (AG HI U H at0 U (Au U (AE 21 U ?_ ?_)))
     .intro h1;refine Ag U (Ag U (Ag U (Ag U (A8 U (.bool _) U (Au U (Ag U (Ag U (Ag U (Ag U ?_)))))))));refine A8 U (.bool _) U (Ab ?_);exact⟨rfl,(),rfl,⟨qaa Value.bool (by simp_all),trivial⟩,H⟩
     .intro h2;refine Ah Dk U (AG B6 U H at0 U (Ae U (C0 U U (AA U (.bool _) U (Au U (AE 27 U ?_ ?_))))))
      .intro h3;replace h3:=CC h3;refine Ag U (Ag U (Ag U (Ag U (A8 U (.bool _) U (Ab ?_)))));exact⟨rfl,(),rfl,⟨qaa Value.bool (by simp_all),trivial⟩,H⟩
      .intro h4;replace h4:=CD h4;refine Ah D7 U (AG B6 U H at0 U (Jb U Ac3 NV U U ?_));refine Ka t _ HI U H at2 (by rw[ht];simp) U ?_;refine AA U (.bool _) U (Ab ?_);exact⟨rfl,(),rfl,⟨qaa Value.bool (by simp_all),trivial⟩,H⟩
    rintro - j32 w H;refine Av _ U ?_ ?_
    .intro h2;replace h2:=Bv h2;refine Be (Aj (AH (Aa (Ay (Aw U U ?_)))));refine Ae U (qA ?_);refine⟨(k+1,D1,a1,c1,full1),rfl,⟨rfl,trivial⟩,⟨by omega,H.tail,O,hT,hsub,?_⟩,by dsimp only;omega⟩;dsimp only;rw[CP hd];intro e he hh hf
     rcases qbg.1 he with he|he
     .exact hdone e he hh hf
     .rw[qab]at he;subst he;rw[htn];rw[hh,qal hf]at h2
      simpa using h2
    .intro h2;replace h2:=Bw h2;simp only[qae,qbr,qam]at h2;obtain⟨hh,hf,hD⟩:=h2;refine Aq (Aa (Ad (AG GK U H at3 U (Ae U (Cs _ (.int _ _) Ct D9 M4 U U U U H ?_)))));rintro b35 w - H;refine C3 (L:=[_,_,_,_,_]) Ct Ct D9 Vp M4 U U U H O U (by simp[AS]) ?_;rintro a9 c9 full9 w H O;refine Cz (.slice _ _ _) Amd U U U H at3 (by(simp;done)) ?_;rintro w H;refine qA (Ap (Ad (AG GK U H at3 U (AU Ct U (Ae U (qA (Ax ?_)))))));have hl1:(way++[(k:Int)]).length=way.length+1:=by simp
     replace H:Ctx w0 S w ((b8,Bl 67 d.enc)::FB a c l bl bd bw bf D1 a9 c9 (way++[(k:Int)]) full9):=by
      show Ctx w0 S w ((b8,_)::(bl,_)::(bd,_)::(bw,Bl 94 [.slice a9 (way++[(k:Int)]).length c9])::_);rw[hl1];exact H
     replace O:OS a9 (way++[(k:Int)]).length c9 1 full9 ((way++[(k:Int)]).map iv):=by
      rw[hl1,qax];exact O
     have hW2:=hW.snoc hd hh;have hdl:(ds++[d]).length=way.length+1:=by rw[hW2.len,hl1]
     have RW:∀w',Ctx w0 S w' ((b8,Bl 67 d.enc)::FB a c l bl bd bw bf D1 a9 c9 (way++[(k:Int)]) full9)->Rd w' a9 1 I64 (way++[(k:Int)]):=fun w' H' =>
      O.rd1 (fun x hx=>H'.blk x (by simp only[FB,qag];exact .inr (.inr (.inr (.inr (.inr hx))))))
     refine Bn 144114638320043584 (α:=Nat) (fun i=>[(39,.int .i64 i)]) (fun i w'=>i<=way.length+1/\Ctx w0 S w' ((b8,Bl 67 d.enc)::FB a c l bl bd bw bf D1 a9 c9 (way++[(k:Int)]) full9)/\∀j e,j<i->(ds++[d])[j]?=some e->e.fr≠d.to) (fun i=>way.length+1 - i) 0 U ?_ ?_ ?_
     .exact⟨rfl,trivial⟩
     .exact⟨qaf _,H,fun j e h=>absurd h (qaw _)⟩
     .rintro i j w ⟨hi,H,hno⟩;refine Ad (AZ U U (qA (Ap (Av _ U ?_ ?_))))
      .intro h3;replace h3:=AJ h3;obtain⟨e,he⟩:=AB (l:=ds++[d]) (i:=i);obtain⟨x,hx,hx0,hxl,hxh⟩:=hW2.at' i e he;have hxl':=Cb hxl;have RW1:=RW _ H;refine Aq (Aa (Ap (Ax (Ad (Ae U (AM RW1 Ct D9 U U (by omega) ?_))))));refine Ba B6 U (RW1.one (f:=iv) hx) (Af U (Af U (qA (CN (fun x=>x=_) Bs U ?_))));refine BS Gj U (by rintro _ rfl;exact H.drew) at1 U ?_;refine AY U (Bo R BT BC U U (by rfl) ?_);refine A3 Dk U (BF B6 U (by rintro _ rfl;exact((hR0 _ H.drew.ext).fld hxl rfl (j:=1) rfl)) ?_);refine A3 D7 U (BS B6 U (by rintro _ rfl;exact H.drew) at0 U ?_);refine UW U U U (BM ?_);rintro _ rfl;replace H:=H.drew;refine Av _ U ?_ ?_
       .intro h4;replace h4:=AJ h4;have RC:=RW1.cut i c9 (by have:=O.le;omega);have hcl:=Ahx (UU a9 c9 i 1) (c9 - i) ((way++[(k:Int)]).drop i) w.drew (RC.ext0 (Ext.drew _ _)) (by simp;omega);rw[qcs]at hcl;refine Ad (AG GK U H at3 U (Ae U (OE U Ct D9 U U ?_)));refine Am qB hcl U ?_;rintro v w ⟨⟨av,nv,cv,fv,rfl,OV,hbv⟩,hxv⟩;refine Az U (qA (A6 (A5 (Al (Al (A5 (Al (A5 (Al (Al (A5 (Al (LC (AD (v:=(.slice _ _ _)) U U U ?_))))))))))))));have hring:=UJ hW (by rw[hf];exact hP) hd hh he h4;have hnv:=OV.num;have hpos:=(G4 hring).2.2;obtain⟨bv,hav⟩:=OV.form (by omega);exact⟨D1,_,a9,c9,full9,av,nv,cv,fv,rfl,O,hT,hsub,(H.callEnt hxv hbv FM).tail,.inr ⟨by rw[hav];rfl,_,hring,hnv,OV⟩⟩
       .intro h4;replace h4:=AK h4;refine Aq (A7 (Aa (Ay (Aw U U ?_))));refine Ae U (qA ?_);refine⟨i+1,rfl,⟨rfl,trivial⟩,⟨by omega,H,?_⟩,by omega⟩;intro j e' hj he'
        by_cases hji:j=i
        .subst hji
         rw[he]at he';injection he' with he'
         subst he';exact h4
        .exact hno j e' (by omega) he'
      .intro h3;replace h3:=AK h3;have hie:i=way.length+1:=by omega
       have hP2:Path (ds++[d]) d.to:=Path.snoc (by rw[hf];exact hP) (fun e he=>by
        obtain⟨q,hq,rfl⟩:=List.getElem_of_mem he
        exact hno q _ (by omega) (qbq hq))
       rw[ht]at hP2;have H1:Ctx w0 S w (FB a c l bl bd bw bf D1 a9 c9 (way++[(k:Int)]) full9++[(b8,Bl 67 d.enc)]):=Ctx.comm (L:=[_]) H
       have hcl:=ih w D1 (way++[(k:Int)]) (ds++[d]) a9 c9 full9 t (by rw[hdl,<-hW.len];omega) (fun w' hx=>hR0 w' (H1.ext.then hx (fun y hy=>by
        obtain⟨z,hz,rfl⟩:=qah.1 hy
        exact H1.own z (qao _ hz)))) H1.lend O hW2 hP2 (by omega) hT
       rw[<-ht]at hcl;refine Be (Aj (Aj (AH (Aa (Ap (Ad (AG Ac1 U H at4 U (Ah D7 U (AG B6 U H at0 U (EC U qB hcl U ?_))))))))));rintro v w ⟨D2,way2,a2,c2,full2,av,nv,cv,fv,rfl,P⟩;have H2:=H1.back P.ctx;refine Az U (qA (Ad (Ao U (SF U Ct U (qA (Av _ U ?_ ?_))))))
       .intro h5;refine Ad (Ao U (Az U (qA (A6 (Al (A5 (Al (Al (A5 (Al (LC (AD (v:=(.slice _ _ _)) U U U ?_))))))))))))
        rcases P.out with⟨rfl,_⟩|⟨_,r,hr,hnr,hOr⟩
        .cases h5
        .exact⟨D2,way2,a2,c2,full2,av,nv,cv,fv,rfl,P.os,P.topo,fun b hb=>P.sub b (hsub b hb),H2.left,.inr ⟨h5,r,hr,hnr,hOr⟩⟩
       .intro h5
        rcases P.out with⟨rfl,rfl,rfl,rfl,hbt⟩|⟨hso,_⟩
        .have O2:=P.os;have hle:=O2.le;have H3:=Ctx.comm H2;rw[show ent none 3 fv=[]from rfl,qa4]at H3;replace H:Ctx w0 S w ((b8,Bl 67 d.enc)::FB a c l bl bd bw bf D2 a2 c2 (way++[(k:Int)]) full2):=H3;refine Aq (Aa (Ad (AG GK U H at3 U (AG GK U H at3 U (AU Ct U (B3 U U ?_))))));refine Hz U Ct D9 U U (Cz (.slice _ _ _) Amd U U U H at3 (by(simp;done)) ?_);rintro w H;refine qA (Be (AH (Aa (Ay (Aw U U ?_)))));refine Ae U (qA ?_);have hpop:(((way++[(k:Int)]).length:Int) - 1).toNat=way.length:=by rw[hl1];omega
         replace H:Ctx w0 S w ((b8,Bl 67 d.enc)::(bl,_)::(bd,_)::(bw,Bl 94 [.slice a2 (((way++[(k:Int)]).length:Int) - 1).toNat c2])::_):=H;rw[hpop]at H;refine⟨(k+1,D2,a2,c2,full2),rfl,⟨rfl,trivial⟩,⟨by omega,H.tail,OS.pop (x:=iv k) (by rw[<-hl1];simpa using O2) (by simp),P.topo,fun b hb=>P.sub b (hsub b hb),?_⟩,by dsimp only;omega⟩;dsimp only;rw[CP hd];intro e he hh' hf'
         rcases qbg.1 he with he|he
         .exact P.sub _ (hdone e he hh' hf')
         .rw[qab]at he;subst he;rw[htn];exact hbt
        .rw[hso]at h5;cases h5
   .intro h1;replace h1:=AK h1;have hke:k=l.length:=by omega
    subst hke;rw[qbf]at hdone;obtain⟨D2,hD2⟩:=qD (if bank∈D1 then D1 else bank::D1);have hmem:bank∈D2:=by rw[hD2];split <;> simp_all
    have hmem2:∀q,q≠bank->D2.contains q=D1.contains q:=fun q hq=>by rw[hD2];split <;> simp[hq]
    have htop:Topo l D2:=by
     rw[hD2];split
     .exact hT
     .rename_i hb1;exact⟨hdone,hb1,hT⟩
    have hsub2:∀q,q∈D1->q∈D2:=fun q hq=>by rw[hD2];split <;> simp[hq]
    refine Be (Aj (Aj (AH (Aa (Ad (Ae U (Jb U Ac3 NV U U ?_)))))));refine Cl bank (fun q => .bool (D2.contains q)) (.bool true) NV U U U H at1 (by simp) (by simp[hmem]) (fun q hq hne=>by rw[hmem2 q hne]) ?_;rintro w H;refine qA (Ad (Az U (qA (A6 (LC (AD (v:=(.slice _ _ _)) U U U ?_))))));refine⟨D2,way,a1,c1,full1,none,0,0,[],rfl,O,htop,fun q hq=>hsub2 q (hsub q hq),?_,.inl ⟨rfl,rfl,rfl,rfl,hmem⟩⟩;rw[show ent none 3 []=[]from rfl,qa4];exact H
def Wn(l:List Du)(w:World)(v:Value)(w':World):Prop :=
 (Ow l=true/\∃s,∃r:List Int,Fz l r=true/\v=.tuple #[s,.bool true]/\Fresh w w' 3 1 s (r.map iv)) \/
 (v=.tuple #[.slice none 0 0,.bool false]/\Ext [] w w'/\(Ow l=true->∃D,Topo l D/\∀q,q<16->q∈D))
theorem Ab5{l:List Du}(h:Ow l=true):l.length<=64/\∀d∈l,0<=d.fr/\d.fr<16/\0<=d.to/\d.to<16/\d.fr≠d.to:=by
 simp only[Ow,qae,qam,qas]at h;refine⟨h.1,fun d hd=>?_⟩;have hf:=h.2 d hd;simp only[Du.fine,E5,qae,qbr,qda,qam]at hf;exact⟨hf.2.1.1,hf.2.1.2,hf.2.2.1.1,hf.2.2.1.2,hf.1⟩
theorem find_ok(a:Option Addr)(c:Nat)(l:List Du)(w:World)(R:Rd w a 7 Du.enc l)(hm:l.length<=9223372036854775807) :
  Ret prog 44 #[.slice a l.length c] w fun v w'=>Wn l w v w':=by
 obtain⟨w0,rfl,H⟩:=qE w;refine A2 (fn:=f44) func44 U [.slice a l.length c] U (Ad (Bu _ (.slice _ _ _) U U H ?_));rintro b1 w - H;refine Az U (Ai U (qA (Ap (Ad (AG Gj U H at0 U (Am qB (XW a c l _ (R.ext0 H.ext) hm) U ?_))))));rintro v w ⟨rfl,hx⟩;replace H:=H.call hx;refine B1 U (qA (Av _ U ?_ ?_))
 .intro h1;replace h1:=Bv h1;refine Ad (Az U (Ai U (qA (A6 (Al (BG (v1:=(.slice _ _ _)) (v2:=(.bool _)) U U U U ?_))))));exact .inr ⟨rfl,H.ext,fun h=>by rw[h1]at h;cases h⟩
 .intro h1;replace h1:=Bw h1;obtain⟨h64,F⟩:=Ab5 h1;refine Aq (Aa (Ad (AX Apx H ?_)));rintro b4 w - H;refine qA (Ad (AX zc_94 H ?_));rintro b5 w - H;refine qA (Ad (AX Apy H ?_));rintro b6 w - H;refine qA (Ad (Cm [.pointer _,.pointer _,.pointer _,.pointer _] U (Cz (.func _ _ _) Apu U U U H at0 (by decide) ?_)));rintro w H;refine qA (Ap (Ad (Ae U (qA (Ax ?_)))));replace H:Ctx w0 [] w (FB a c l b1 b4 b5 b6 [] none 0 [] []):=H.perm (List.reverse_perm _).symm;refine Bn 8380812 (α:=Nat × List Nat × Option Addr × Nat × List Value) (fun x=>[(13,.int .i64 x.1)]) (fun x w'=>x.1<=16/\Ctx w0 [] w' (FB a c l b1 b4 b5 b6 x.2.1 x.2.2.1 x.2.2.2.1 [] x.2.2.2.2)/\OS x.2.2.1 0 x.2.2.2.1 1 x.2.2.2.2 []/\Topo l x.2.1/\∀q,q<x.1->q∈x.2.1) (fun x=>16 - x.1) (0,[],none,0,[]) U ?_ ?_ ?_
  .exact⟨rfl,trivial⟩
  .exact⟨qaf _,H,OS.nil,trivial,fun q h=>absurd h (qaw _)⟩
  .rintro⟨k,D,aw,cw,full⟩ j w ⟨hk,H,O,hT,hall⟩;dsimp only at hk H O hT hall;dsimp only;refine Ad (AZ U U (qA (Ap (Av _ U ?_ ?_))))
   .intro h2;replace h2:=AJ h2
    have hcl:=Ak5 a c l b1 b4 b5 b6 h64 F 16 w D [] [] aw cw full k rfl (fun w' hx=>R.ext0 (H.ext.then hx (fun y hy=>by
     obtain⟨z,hz,rfl⟩:=qah.1 hy
     exact H.own z hz))) (Ctx.lend (L2:=[]) H.app_nil) O ⟨rfl,fun i d h=>by simp at h⟩ (Path.nil _) (by omega) hT
    refine Aq (Aa (Ap (Ax (Ad (Ae U (Af U (qA (Ad (AG Ac1 U H at3 U (Ae U ?_))))))))));refine EC U qB hcl U ?_;rintro v w ⟨D2,way2,a2,c2,full2,av,nv,cv,fv,rfl,P⟩;have H2:=(Ctx.back (L2:=[]) H.app_nil P.ctx).nil_app;refine Az U (qA (Ad (Ao U (SF U Ct U (qA (Av _ U ?_ ?_))))))
    .intro h5;refine Ad (Ao U (Az U (Ai U (qA (A6 (A5 (Al (Al (A5 (Al (BG (v1:=(.slice _ _ _)) (v2:=(.bool _)) U U U U ?_)))))))))))
     rcases P.out with⟨rfl,_⟩|⟨_,r,hr,hnr,hOr⟩
     .cases h5
     .exact .inl ⟨h1,_,r,hr,rfl,H2.fresh hOr⟩
    .intro h5
     rcases P.out with⟨rfl,rfl,rfl,rfl,hbt⟩|⟨hso,_⟩
     .rw[show ent none 3 fv=[]from rfl,qa4]at H2;refine Aq (A7 (Aa (Ay (Aw U U ?_))));refine Ae U (qA ?_);refine⟨(k+1,D2,a2,c2,full2),rfl,⟨rfl,trivial⟩,⟨by omega,H2,P.os,P.topo,fun q hq=>?_⟩,by dsimp only;omega⟩
      by_cases hqk:q=k
      .subst hqk;exact hbt
      .exact P.sub q (hall q (by dsimp only at hq;omega))
     .rw[hso]at h5;cases h5
   .intro h2;replace h2:=AK h2;have hke:k=16:=by omega
    subst hke;refine Be (Aj (Aj (AH (Aa (Ad (Az U (Ai U (qA (A6 (BG (v1:=(.slice _ _ _)) (v2:=(.bool _)) U U U U ?_))))))))));exact .inr ⟨rfl,H.ext,fun _=>⟨D,hT,hall⟩⟩
theorem amounts_ok(a b:Option Addr)(c c':Nat)(xs ys:List Int)(w:World)(R:Rd w a 1 I64 xs)(R':Rd w b 1 I64 ys)(hm:xs.length<=9223372036854775807) :
  Ret prog 45 #[.slice a xs.length c,.slice b ys.length c'] w fun v w'=>v=.bool (decide (xs=ys))/\Ext [] w w':=by
 obtain⟨w0,rfl,H⟩:=qE w;refine A2 (fn:=Tryz.f45) func45 U [.slice a xs.length c,.slice b ys.length c'] U (Ad (Ai U (qA (Ap (Ad (Ao U (AU AR U (Ao U (AU AR U (C0 U U ?_))))))))));refine qA (Av _ U ?_ ?_)
 .intro h1;replace h1:=CC h1;refine Ad (Ai U (qA (A6 (Al (AD (v:=(.bool _)) U U U ?_)))));refine⟨qaa Value.bool ?_,H.ext⟩;rw[qay];rintro rfl;exact h1 U
 .intro h1;replace h1:=CD h1;have hl:xs.length=ys.length:=by omega
  refine Aq (Aa (Ap (Ad (Af U (qA (Ax (Bn 67106864 (α:=Nat) (fun k=>[(5,.int .i64 k)]) (fun k w'=>k<=xs.length/\Ctx w0 [] w' []/\xs.take k=ys.take k) (fun k=>xs.length - k) 0 U ?_ ?_ ?_)))))))
  .exact⟨rfl,trivial⟩
  .exact⟨qaf _,H,rfl⟩
  .rintro k j w ⟨hk,H,hn⟩;refine Ap (Ad (Ae U (Ao U (AU AR U (AZ U U (qA (Av _ U ?_ ?_)))))))
   .intro h2;replace h2:=AJ h2;obtain⟨x,hx⟩:=AB (l:=xs) (i:=k);obtain⟨y,hy⟩:=AB (l:=ys) (i:=k);refine Aq (Aa (Ap (Ax (CN (fun x=>x=_) Bs U ?_))));refine B0 U (AY U (Bo R AR Bt U U U ?_));refine BF Bm U (by rintro _ rfl;exact((R.ext0 H.ext).one (f:=fun x => .int .i64 x) hx)) ?_;refine B0 U (AY U (Bo R' AR Bt U U U ?_));refine BF Bm U (by rintro _ rfl;exact((R'.ext0 H.ext).one (f:=fun x => .int .i64 x) hy)) ?_;refine Gi U U (BM ?_);rintro _ rfl;replace H:=H.drew;refine Av _ U ?_ ?_
    .intro h3;replace h3:=CC h3;refine Ad (Ai U (qA (A6 (A5 (Al (Al (A5 (Al (AD (v:=(.bool _)) U U U ?_)))))))));refine⟨qaa Value.bool ?_,H.ext⟩;rw[qay];rintro rfl;rw[hx]at hy
     injection hy with hy
     exact h3 hy
    .intro h3;replace h3:=CD h3;refine Aq (A7 (Aa (Ay (Ae U (Aw U U ?_)))));refine Af U (qA ?_);refine⟨k+1,rfl,⟨by simp[put],trivial⟩,⟨by omega,H,?_⟩,by omega⟩;rw[CP hx,CP hy,hn,h3]
   .intro h2;replace h2:=AK h2;refine Be (Aj (Aj (AH (Aa (Ad (Ai U (qA (A6 (AD (v:=(.bool _)) U U U ?_)))))))));rw[qcf (by omega),qcf (by omega)]at hn;refine⟨qaa Value.bool ?_,H.ext⟩;rw[qal hn]
theorem Yd(i f t x:Int)(w:World):Ret prog 90 #[.int .u64 i,.int .i64 f,.int .i64 t,.int .i64 x] w fun v w'=>v=.agg (Du.mk i f t x 1 0 false).enc.toArray/\Ext [] w w':=by
 obtain⟨w0,rfl,H⟩:=qE w;refine A2 (fn:=f90) func90 U [.int .u64 i,.int .i64 f,.int .i64 t,.int .i64 x] U (Ad (AX DR H ?_));rintro b8 w - H;refine qA (Ad (Ae U (Ae U (Ae U (Ae U (Bz (Du.mk i f t x 1 0 false).enc Al8 DR ?_))))));refine Bi BC U U U (by simp[AS,Du.enc]) H at0 U ?_;rintro w H;refine qA (A6 (Kb U U U EF BC H at0 U ?_));exact⟨rfl,H.ext⟩
def l3:List Du:=[⟨1,1,2,5,1,0,false⟩,⟨2,2,3,4,1,0,false⟩,⟨3,3,1,6,1,0,false⟩]
theorem Z6{l:List Du}{way:List Int}(h:Fz l way=true):way.Nodup:=by
 rw[qd3,qec];intro i j hi hj hij he;have h1:=J0 (G4 h).1 hj;rw[FY,qae,qas]at h1;have h2:=h1.2 i (qaz.2 hij);have:dq l way i=dq l way j:=by simp[dq,hi,hj,he]
 rw[this]at h2;simp at h2
theorem N7{l:List Du}{way:List Int}(h:Fz l way=true){x:Int}(hx:x∈way):0<=x/\x<l.length:=by
 obtain⟨i,hi,rfl⟩:=List.getElem_of_mem hx;obtain⟨y,d,h1,h2,h3,_⟩:=N6 h hi;rw[qbq hi]at h1
 injection h1 with h1
 omega
theorem Ri{l:List Du}{way:List Int}(h:Fz l way=true):way.length<=l.length:=by
 have hm:(way.map Int.toNat).Nodup:=by
  rw[qd3,List.pairwise_map];refine qex ?_ (qd3.1 (Z6 h));intro a b ha hb hab he;have:=N7 h ha;have:=N7 h hb;omega
 have:=Yc l.length _ hm (fun x hx=>by
  obtain⟨y,hy,rfl⟩:=qah.1 hx;have:=N7 h hy
  omega)
 simpa using this
def Wo:List (List Int) :=
 let a:List Int:=[0,1,2]
 [[]]++a.map (fun x=>[x])++(a.flatMap fun x=>a.map fun y=>[x,y])++(a.flatMap fun x=>a.flatMap fun y=>a.map fun z=>[x,y,z])
theorem mem3{x:Int}(h0:0<=x)(h1:x<3):x∈([0,1,2]:List Int):=by
 have:x=0\/x=1\/x=2:=by omega
 rcases this with h|h|h <;> subst h <;> decide
theorem Wp{r:List Int}(h:Fz l3 r=true):XY l3 r=4:=by
 have hc:r∈Wo:=by
  have hl:r.length<=3:=Ri h
  have hm:∀x∈r,x∈([0,1,2]:List Int):=fun x hx=>by
   have:=N7 h hx;exact mem3 this.1 this.2
  match r,hl,hm with
  | [],_,_=>decide
  | [x],_,hm=>simp only[Wo,qbg,qah];exact .inl (.inl (.inr ⟨x,hm x (by simp),rfl⟩))
  | [x,y],_,hm=>simp only[Wo,qbg,qel,qah];exact .inl (.inr ⟨x,hm x (by simp),y,hm y (by simp),rfl⟩)
  | [x,y,z],_,hm=>simp only[Wo,qbg,qel,qah];exact .inr ⟨x,hm x (by simp),y,hm y (by simp),z,hm z (by simp),rfl⟩
  |_::_::_::_::_,hl,_=>simp at hl
 have hall:∀r∈Wo,Fz l3 r=true->XY l3 r=4:=by decide
 exact hall r hc h
theorem Wr(D:List Nat)(hT:Topo l3 D)(hD:∀q,q<16->q∈D):False :=
 Topo.noIn (by decide) (fun b=>b=1\/b=2\/b=3) hT (fun b hb=>hD b (by omega)) (fun b hb=>by
  rcases hb with rfl|rfl|rfl
  .exact⟨_,qac (i:=2) rfl,rfl,rfl,.inr (.inr U)⟩
  .exact⟨_,qac (i:=0) rfl,rfl,rfl,.inl rfl⟩
  .exact⟨_,qac (i:=1) rfl,rfl,rfl,.inr (.inl U)⟩) 1 (.inl U)
theorem Ws:J2 4 l3=none:=by decide
theorem UK:J2 4 (l3.take 2)=some [0,1,2,3]:=by decide
theorem Ye:netsE 4 l3=0:=by decide
theorem Ab6{w w':World}{v:Value}(h:Wn l3 w v w'):∃s,∃r:List Int,Fz l3 r=true/\v=.tuple #[s,.bool true]/\Fresh w w' 3 1 s (r.map iv):=by
 rcases h with⟨_,s,r,h1,h2,h3⟩|⟨_,_,h⟩
 .exact⟨s,r,h1,h2,h3⟩
 .obtain⟨D,hT,hD⟩:=h (by decide);exact(Wr D hT hD).elim
theorem Ah1{banks:Int}{l:List Du}{w w':World}{v:Value}(h:Gh banks l w v w')(ho:J2 banks l=none):v=.tuple #[.slice none 0 0,.bool false]/\Ext [] w w':=by
 unfold Gh at h;rw[ho]at h;exact h
theorem Ah2{banks:Int}{l:List Du}{w w':World}{v:Value}{out:List Nat}(h:Gh banks l w v w')(ho:J2 banks l=some out):∃s,v=.tuple #[s,.bool true]/\Fresh w w' 3 1 s (out.map fun(x:Nat)=>Value.int .i64 (x:Int)):=by
 unfold Gh at h;rw[ho]at h;exact h
theorem nets_is{banks:Int}{l:List Du}{w w':World}{v:Value}(h:NetsPost banks l w v w')(ho:netsE banks l=0):∃s,v=.tuple #[s,.int .i64 0]/\Fresh w w' 2 1 s ((List.range banks.toNat).map fun b => .int .i64 (netB l b)):=by
 rcases h with⟨h,_⟩|⟨_,h⟩
 .exact absurd ho h
 .exact h
theorem Oy{b n s:Nat}{l:List Value}(h:l.length=n*s):OS (some ⟨b,0,none⟩) n n s l l :=
 ⟨(fun p hp=>by injection hp with hp;subst hp;rfl),(fun h=>by cases h),h,qan _,by rw[<-h,qbf]⟩
theorem Fresh.rd{w w':World}{t:Nat}{s:Value}{xs:List Int}(h:Fresh w w' t 1 s (xs.map iv)):∃a c,s=.slice a xs.length c/\Rd w' a 1 I64 xs:=by
 obtain⟨a,n,c,full,rfl,O,hb⟩:=h.ex;have hn:=O.num;subst hn;exact⟨a,c,rfl,O.rd1 (t:=t) fun x hx=>(hb x hx).1⟩
theorem works_ok(w:World):Ret prog 40 #[] w fun v w'=>v=.bool true/\Ext [] w w':=by
 obtain⟨w0,rfl,H⟩:=qE w;refine A2 (fn:=f40) func40 U [] U (Ad (Ai U (qA (Ad (Am qB (Yd 1 1 2 5 _) U ?_)))));rintro v w ⟨rfl,hx⟩;replace H:=H.call hx;refine Am qB (Yd 2 2 3 4 _) U ?_;rintro v w ⟨rfl,hx⟩;replace H:=H.call hx;refine Am qB (Yd 3 3 1 6 _) U ?_;rintro v w ⟨rfl,hx⟩;replace H:=H.call hx;refine Dq (l3.flatMap Du.enc) BT BC DR H ?_;rintro b15 w - H;have R:Rd w (some ⟨b15,0,none⟩) 7 Du.enc l3:=(Oy (s:=7) (n:=3) rfl).rd (t:=67) (fun x hx=>by simp only[ent,qab]at hx;subst hx;exact H.get at0) (fun x _=>rfl) (by decide);refine Az U (qA (Ad (Ao U (Am qB (find_ok (some ⟨b15,0,none⟩) 3 l3 _ R (by decide)) U ?_))));rintro v w P;obtain⟨sr,r,hr,rfl,P2⟩:=Ab6 P;replace R:=R.ext0 P2.ext;replace H:=H.call P2.ext
 obtain⟨ar,cr,rfl,Rr⟩:=Fresh.rd P2;have hrl:r.length<=3:=Ri hr;have hlv:Rg l3 r=.tuple #[.int .i64 4,.bool true]:=by rw[Rg,hr,Wp hr];rfl
 refine BN U (AF U U (AF U U (Az U (Ai U (qA (Ad (Ao U (Ao U (Am qB (Ahw (some ⟨b15,0,none⟩) ar 3 cr l3 r _ R Rr) U ?_)))))))));rintro v w ⟨rfl,hx⟩;rw[hlv];replace H:=H.call hx;replace R:=R.ext0 hx;replace Rr:=Rr.ext0 hx;refine BN U (AF U U (AF U U (Af U (Ai U (qA (Ad (Ao U (Am qB (Wj 4 (some ⟨b15,0,none⟩) 3 l3 _ R) U ?_))))))));rintro v w P;obtain⟨rfl,hx⟩:=Ah1 P Ws;replace H:=H.call hx;replace R:=R.ext0 hx;replace Rr:=Rr.ext0 hx;refine BN U (AF U U (AF U U (Az U (Ai U (qA (Ad (Ao U (Hz U BT BC U U ?_))))))));refine Am qB (Wj 4 (some ⟨b15,0,none⟩) 3 (l3.take 2) _ (R.take 2)) U ?_;rintro v w P;obtain⟨so,rfl,P2⟩:=Ah2 P UK;have hx:=P2.ext;obtain⟨ao,co,rfl,Ro⟩:=Fresh.rd (xs:=[0,1,2,3]) P2;replace H:=H.call hx;replace R:=R.ext0 hx;replace Rr:=Rr.ext0 hx
 refine BN U (AF U U (AF U U (Az U (Ai U (qA (Ad (Ao U (Am qB (nets_ok 4 (some ⟨b15,0,none⟩) 3 l3 _ R (by decide)) U ?_))))))));rintro v w P;obtain⟨sn,rfl,P2⟩:=nets_is P Ye;have hx:=P2.ext;obtain⟨an,cn,rfl,Rn⟩:=Fresh.rd (xs:=[0,1,1,-2]) P2;replace H:=H.call hx;replace R:=R.ext0 hx;replace Rr:=Rr.ext0 hx;replace Ro:=Ro.ext0 hx;refine BN U (AF U U (AF U U (Az U (Af U (qA (Ad (Au U (Au U (Ao U ?_)))))))));refine Ao U (Am qB (Ab0 (some ⟨b15,0,none⟩) ar 3 cr l3 r _ R Rr) U ?_);rintro v w ⟨rfl,hx⟩;rw[hr];replace H:=H.call hx;replace Ro:=Ro.ext0 hx;replace Rn:=Rn.ext0 hx;refine A8 U (.bool _) U (Au U (Au U (A8 U (.bool _) U (Au U (Ae U (Cj U U (A8 U (.bool _) U (Au U (Au U ?_)))))))));refine B1 U (A8 U (.bool _) U (Au U (Au U (A8 U (.bool _) U (Au U (Ao U ?_))))));have hx0:=H.ext
 replace H:=Ctx.start w [];refine Dq ([0,1,2,3].map iv) Ct D9 M4 H ?_;rintro b65 w - H;replace Ro:=Ro.ext0 H.ext;replace Rn:=Rn.ext0 H.ext;have Rq:Rd w (some ⟨b65,0,none⟩) 1 I64 [0,1,2,3]:=(Oy (s:=1) (n:=4) rfl).rd1 (t:=3) (fun x hx=>by simp only[ent,qab]at hx;subst hx;exact H.get at0);refine Am qB (Ak1 ao (some ⟨b65,0,none⟩) co 4 [0,1,2,3] [0,1,2,3] _ Ro Rq) U ?_;rintro v w ⟨rfl,hx⟩;rw[qal rfl];replace H:=H.call hx;replace Rn:=Rn.ext0 hx;refine A8 U (.bool _) U (Au U (Ae U (Cj U U (A8 U (.bool _) U (Au U (Ao U ?_))))));replace hx0:=hx0.trans H.ext;replace H:=Ctx.start w [];refine Dq ([0,1,1,-2].map iv) AR Bt Eh H ?_;rintro b74 w - H;replace Rn:=Rn.ext0 H.ext
 have Rt:Rd w (some ⟨b74,0,none⟩) 1 I64 [0,1,1,-2]:=(Oy (s:=1) (n:=4) rfl).rd1 (t:=2) (fun x hx=>by simp only[ent,qab]at hx;subst hx;exact H.get at0);refine Am qB (amounts_ok an (some ⟨b74,0,none⟩) cn 4 [0,1,1,-2] [0,1,1,-2] _ Rn Rt (by decide)) U ?_;rintro v w ⟨rfl,hx⟩;rw[qal rfl];replace H:=H.call hx;refine A8 U (.bool _) U (Ai U (qA (A6 (AD (v:=(.bool _)) U U U ?_))));exact⟨rfl,hx0.trans H.ext⟩
def It(x:Int)(d:Du):Du:={ d with am:=d.am - x }
def Pk(x:Int):List Du->List Int->List Du
 |m,[]=>m
 |m,i::r=>Pk x (m.modify i.toNat (It x)) r
def paidD(m:List Du)(r:List Int)(x:Int)(i:Nat):Du:=It (if(i:Int)∈r then x else 0) ((m[i]?).getD ⟨0,0,0,0,0,0,false⟩)
def paidL(m:List Du)(r:List Int)(x:Int):List Du:=(List.range m.length).map (paidD m r x)
def nextL(m:List Du)(r:List Int)(x:Int):List Du:=(paidL m r x).filter fun d=>decide (0<d.am)
theorem Wu(x:Int):∀(r:List Int) (m:List Du),r.Nodup->(∀i∈r,0<=i)->∀k:Nat,(Pk x m r)[k]? = (m[k]?).map fun d=>if(k:Int)∈r then It x d else d
 | [],m,_,_,k=>by cases h:m[k]? <;> simp[Pk,h]
 |i::r,m,hn,h0,k=>by
  rw[qd6]at hn;rw[Pk,Wu x r _ hn.2 (fun j hj=>h0 j (by simp[hj])) k,qeg];have hi:=h0 i (by simp)
  by_cases hk:i.toNat=k
  .have hki:(k:Int)=i:=by omega
   have hnr:¬(k:Int)∈r:=by rw[hki];exact hn.1
   cases m[k]? <;> simp[hk,hki];exact fun h=>absurd (by rw[hki];exact h) hnr
  .have hki:¬(k:Int)=i:=by omega
   cases m[k]? <;> simp[hk,hki]
def uB(b:Nat)(d:Du):Int:=(if d.to=(b:Int)then 1 else 0) - (if d.fr=(b:Int)then 1 else 0)
theorem Pg(b:Nat)(f:Du->Du):∀(m:List Du) (i:Nat) (d:Du),m[i]?=some d->netB (m.modify i f) b=netB m b+((Hi b (f d) - HZ b (f d)) - (Hi b d - HZ b d))
 | [],i,d,h=>by simp at h
 |e::m,0,d,h=>by
  simp at h;subst h;simp only[List.modify_zero_cons,netB];omega
 |e::m,i+1,d,h=>by
  have:=Pg b f m i d (by simpa using h);simp only[qe3,netB,this];omega
def Sb(f:Int->Int):List Int->Int
 | []=>0
 |i::r=>f i+Sb f r
theorem Rj{f g:Int->Int}:∀{r:List Int},(∀i∈r,f i=g i)->Sb f r=Sb g r
 | [],_=>rfl
 |i::r,h=>by simp only[Sb];rw[h i (by simp),Rj fun j hj=>h j (by simp[hj])]
def gD(m:List Du)(i:Int):Du:=(m[i.toNat]?).getD ⟨0,0,0,0,0,0,false⟩
theorem Ab7(m:List Du)(b:Nat)(x:Int)(i j:Int):uB b (gD (m.modify j.toNat (It x)) i)=uB b (gD m i):=by
 unfold gD;rw[qeg]
 cases m[i.toNat]? with
 |none=>simp
 |some d=>by_cases h:j.toNat=i.toNat <;> simp[h,uB,It]
theorem Wv(b:Nat)(x:Int):∀(r:List Int) (m:List Du),(∀i∈r,∃d,m[i.toNat]?=some d/\d.held=false)->netB (Pk x m r) b=netB m b - x*Sb (fun i=>uB b (gD m i)) r
 | [],m,_=>by simp[Pk,Sb]
 |i::r,m,h=>by
  obtain⟨d,hd,hh⟩:=h i (by simp)
  have hstep:∀j∈r,∃e,(m.modify i.toNat (It x))[j.toNat]?=some e/\e.held=false:=fun j hj=>by
   obtain⟨e,he,hhe⟩:=h j (by simp[hj]);rw[qeg,he]
   by_cases hij:i.toNat=j.toNat
   .exact⟨It x e,by simp[hij],hhe⟩
   .exact⟨e,by simp[hij],hhe⟩
  have hm:=Pg b (It x) m i.toNat d hd
  have hu:(Hi b (It x d) - HZ b (It x d)) - (Hi b d - HZ b d) = - (x*uB b d):=by
   simp only[Hi,HZ,uB,It,hh,true_and]
   split <;> split <;> simp <;> omega
  have hg:gD m i=d:=by unfold gD;rw[hd];rfl
  rw[Pk,Wv b x r _ hstep,hm,hu,Rj (fun j _=>Ab7 m b x j i)];simp only[Sb,hg,qdk];omega
def K3(f:Nat->Int):Nat->Int
 |0=>0
 |n+1=>K3 f n+f n
theorem ME(f:Nat->Int):∀n,K3 f (n+1)=f 0+K3 (fun j=>f (j+1)) n
 |0=>by simp[K3]
 |n+1=>by rw[K3,ME f n];simp only[K3];omega
theorem MF{f g:Nat->Int}:∀{n:Nat},(∀j,j<n->f j=g j)->K3 f n=K3 g n
 |0,_=>rfl
 |n+1,h=>by simp only[K3];rw[h n (by omega),MF fun j hj=>h j (by omega)]
theorem Ww(f g:Nat->Int):∀n,K3 (fun j=>f j - g j) n=K3 f n - K3 g n
 |0=>rfl
 |n+1=>by simp only[K3,Ww f g n];omega
theorem Ab8(f:Nat->Int):∀n,K3 (fun j=>f ((j+1) % n)) n=K3 f n
 |0=>rfl
 |n+1=>by
  rw[ME f n,K3];rw[MF (g:=fun j=>f (j+1)) (fun j hj=>by rw[qcg (by omega)]),Nat.mod_self];omega
theorem Ah3(f:Int->Int):∀r:List Int,Sb f r=K3 (fun j=>f ((r[j]?).getD 0)) r.length
 | []=>rfl
 |i::r=>by
  rw[qa6,ME,Sb,Ah3 f r];simp
theorem Ah4{m:List Du}{r:List Int}(h:Fz m r=true)(b:Nat):Sb (fun i=>uB b (gD m i)) r=0:=by
 rw[Ah3]
 have h1:K3 (fun j=>uB b (gD m ((r[j]?).getD 0))) r.length=K3 (fun j=>(if(dq m r ((j+1) % r.length)).fr=(b:Int)then 1 else 0) - (if(dq m r j).fr=(b:Int)then 1 else 0)) r.length:=by
  refine MF fun j hj=>?_;have h2:=J0 (G4 h).2.1 hj;rw[IW,qam]at h2;show uB b (dq m r j)=_;rw[uB,h2]
 rw[h1,Ww,Ab8 (fun j=>if(dq m r j).fr=(b:Int)then 1 else 0)];omega
def ysO(r:List Int):List Du->Nat->List Int
 | [],_=>[]
 |d::m,j=>(if d.held=true then[]else[if(j:Int)∈r then 1 else 0])++ysO r m (j+1)
def G1(r:List Int):List Du->Nat->List Du
 | [],_=>[]
 |d::m,j=>(if(j:Int)∈r then It 1 d else d)::G1 r m (j+1)
theorem Wx(r:List Int):∀(m:List Du) (j k:Nat),(G1 r m j)[k]? = (m[k]?).map fun d=>if((j+k:Nat):Int)∈r then It 1 d else d
 | [],_,k=>by cases k <;> rfl
 |d::m,j,0=>rfl
 |d::m,j,k+1=>by
  show(G1 r m (j+1))[k]? = (m[k]?).map _;rw[Wx r m (j+1) k,show j+1+k=j+(k+1)by omega]
theorem Ak6{m:List Du}{r:List Int}(hn:r.Nodup)(h0:∀i∈r,0<=i):G1 r m 0=Pk 1 m r:=by
 apply qb2;intro k;rw[Wx,Wu 1 r m hn h0 k,qa2]
theorem Wy{d:Du}(h:d.held=true)(b:Nat):Hi b d - HZ b d=0:=by
 unfold Hi HZ;rw[h];simp
theorem Wz{d:Du}(h:¬d.held=true)(b:Nat)(x:Int):Hi b (It x d) - HZ b (It x d)=Hi b d - HZ b d - plc b d*x:=by
 have hf:d.held=false:=by simpa using h
 have h3:plc b d=(if d.to=(b:Int)then 1 else 0) - (if d.fr=(b:Int)then 1 else 0):=rfl;unfold Hi HZ It;dsimp only;rw[h3,hf]
 by_cases h1:d.to=(b:Int) <;> by_cases h2:d.fr=(b:Int) <;> simp[h1,h2] <;> omega
theorem Ah5(r:List Int)(b:Nat):∀(m:List Du) (j:Nat),netB (G1 r m j) b=netB m b - Ch (List.zipWith (fun d x=>plc b d*x) (opn m) (ysO r m j))
 | [],j=>rfl
 |d::m,j=>by
  have ih:=Ah5 r b m (j+1);rw[Ee];show(Hi b (if(j:Int)∈r then It 1 d else d) - HZ b (if(j:Int)∈r then It 1 d else d))+netB (G1 r m (j+1)) b=(Hi b d - HZ b d)+netB m b - Ch (List.zipWith (fun d x=>plc b d*x) _ ((if d.held=true then[]else[if(j:Int)∈r then 1 else 0])++ysO r m (j+1)));rw[ih]
  by_cases hh:d.held=true
  .rw[if_pos hh,if_pos hh,qbp,qbp];have h2:(if(j:Int)∈r then It 1 d else d).held=true:=by split <;> exact hh
   rw[Wy h2,Wy hh];omega
  .rw[if_neg hh,if_neg hh,qd1,qd1,qcy,BJ]
   by_cases hr:(j:Int)∈r
   .rw[if_pos hr,if_pos hr,Wz hh];omega
   .rw[if_neg hr,if_neg hr,Int.mul_zero];omega
theorem Ah6(r:List Int):∀(m:List Du) (j:Nat),(∀d∈m,1<=d.am)->PayIn (opn m) (ysO r m j)
 | [],_,_=>⟨rfl,fun i d x h=>by cases h⟩
 |d::m,j,h=>by
  have ih:=Ah6 r m (j+1) fun e he=>h e (qai _ he);have h1:=h d (qaj ..);rw[Ee];unfold ysO
  by_cases hh:d.held=true
  .rw[if_pos hh,if_pos hh];exact ih
  .rw[if_neg hh,if_neg hh,qd1,qd1];refine⟨by rw[qa6,qa6,ih.1],fun i e x he hx=>?_⟩
   cases i with
   |zero =>
    simp only[qdw,qbs]at he hx;subst he
    split at hx <;> omega
   |succ i=>exact ih.2 i e x (by simpa using he) (by simpa using hx)
theorem Ah7{r:List Int}:∀{m:List Du} {j i:Nat} {d:Du},m[i]?=some d->d.held=false->((j+i:Nat):Int)∈r->(1:Int)∈ysO r m j
 | [],j,i,d,h,_,_=>by cases i <;> cases h
 |e::m,j,0,d,h,hh,hr=>by
  simp only[qdw,qbs]at h;subst h;unfold ysO;rw[if_neg (by rw[hh];decide),if_pos (by simpa using hr)];simp
 |e::m,j,i+1,d,h,hh,hr=>by
  unfold ysO;exact qa0 _ (Ah7 (i:=i) (by simpa using h) hh (by rw[show j+1+i=j+(i+1)by omega];exact hr))
theorem Ah8(b:Nat){ds:List Du}{xs:List Int}(h:PayIn (opn ds) xs):netB (DI ds xs) b=netB ds b - Ch (List.zipWith (fun d x=>plc b d*x) (opn ds) xs):=by
 refine IL (motive:=fun ds xs=>netB (DI ds xs) b=netB ds b - Ch (List.zipWith (fun d x=>plc b d*x) (opn ds) xs)) (fun xs=>?_) (fun d ds xs hh ih=>?_) (fun d ds x xs hh h0 h1 ih=>?_) ds xs h
 .have:DI [] xs=[]:=by cases xs <;> rfl
  rw[this];rfl
 .rw[G2 hh,Ee,if_pos hh,qbp];show(Hi b d - HZ b d)+netB (DI ds xs) b=(Hi b d - HZ b d)+netB ds b - _;rw[ih];omega
 .rw[G3 hh,Ee,if_neg hh,qd1,qcy,BJ,Wl,ih];show _=(Hi b d - HZ b d)+netB ds b - _;have h2:=Wz hh b x
  by_cases ha:d.am=x
  .rw[if_pos ha]
   have h3:Hi b (It x d) - HZ b (It x d)=0:=by
    unfold Hi HZ It;dsimp only;rw[ha];simp
   show(0:Int)+_=_;omega
  .rw[if_neg ha];show((Hi b (It x d) - HZ b (It x d))+0)+_=_;omega
theorem TM:∀{xs:List Int},(∀x∈xs,x=0)->Ch xs=0
 | [],_=>rfl
 |x::xs,h=>by rw[BJ,h x (qaj ..),TM fun y hy=>h y (qai _ hy)];rfl
theorem gone{s:Ld}(h:s.Ok){r1:Rnd}(P1:PlanR s.acs s.ds true r1)(hno:s.no<4611686018427387904){r:List Int}(hr:Fz (Fu s r1).ds r=true):False:=by
 obtain⟨hC,hO⟩:=MC h P1 hno;have B2:=Pb h.ac h.du hC;obtain⟨l,hl⟩:=qD (Ep s.acs s.ds r1);have hl2:(Fu s r1).ds=l:=hl.symm;rw[hl2]at hr;rw[<-hl]at B2;have hmay:∀d∈l,Go.Proofs.YtdagmpmdcgedcaaGreat.mayD d=true:=fun d hd=>((LS.1 (D3 hO.du).2.2.1).1 d (by rw[hl2];exact hd)).1;have ham:∀d∈l,1<=d.am:=fun d hd=>by have:=C4 (hmay d hd);omega
 have hmem:∀i∈r,0<=i/\∃d,l[i.toNat]?=some d/\d.held=false:=fun i hi=>by
  obtain⟨k,hk⟩:=qbl.1 hi;obtain⟨x,d,g1,g2,g3,g4,-,g6⟩:=N6 hr (Cb hk);rw[hk]at g1;cases g1;exact⟨g2,d,g4,g6⟩
 have hpay:=Ah6 r l 0 ham
 have hsum:∀b,Ch (List.zipWith (fun d x=>plc b d*x) (opn l) (ysO r l 0))=0:=fun b=>by
  have h1:=Ah5 r b l 0;rw[Ak6 (Z6 hr) fun i hi=>(hmem i hi).1,Wv b 1 r l fun i hi=>(hmem i hi).2,Ah4 hr b]at h1;omega
 have hos:∀d∈opn l,0<=d.fr/\0<=d.to:=fun d hdm=>by have:=C4 (B2.open'.due d hdm).1;omega
 have Q:PermP ((Fs s.acs s.ds r1).map C9) l true (ysO r l 0):=⟨B2,hpay,fun k hk=>by
  unfold Mo Ly;rw[if_pos rfl,Jl hos (qd7 hpay.1),IQ,hsum]
  exact⟨by decide,fun _=>by decide⟩⟩
 rw[hl]at Q;have hz:=Abg h.ac h.du hC P1 Q (fun h=>h);rw[<-hl]at hz;have hlen:0<r.length:=(G4 hr).2.2;obtain⟨i,hi⟩:=AB (l:=r) (i:=0) (h:=hlen);obtain⟨h0,d,hd,hh⟩:=hmem i (qac hi);have h1:=hz 1 (Ah7 (i:=i.toNat) hd hh (by rw[show(((0+i.toNat:Nat)):Int)=i by omega];exact qac hi));cases h1
theorem gone_net{s:Ld}(h:s.Ok){r1:Rnd}(P1:PlanR s.acs s.ds true r1)(hno:s.no<4611686018427387904)(b:Nat):netB (Fu s r1).ds b=netB s.ds b:=by
 obtain⟨hC,-⟩:=MC h P1 hno;have F:=EV h.ac h.du hC;have F1:=Zi P1;obtain⟨Q1,-,b1⟩:=F1.perm F.B;have hD:(Fu s r1).ds=DI s.ds (r1.fl.take (opn s.ds).length):=by show Ep _ _ _=_;unfold Ep;rw[if_pos hC]
 rw[hD,Ah8 b Q1.pay];have hos:∀d∈opn s.ds,0<=d.fr/\0<=d.to:=fun d hdm=>by have:=C4 (F.B.open'.due d hdm).1;omega
 have l1:(opn s.ds).length<=r1.fl.length:=by have:=Q1.pay.1;rw[qbm]at this;omega
 have hz:Ch (List.zipWith (fun d x=>plc b d*x) (opn s.ds) (r1.fl.take (opn s.ds).length))=0:=by
  rcases qap b s.acs.length with hb|hb
  .rw[<-Jl (rs:=s.acs.map C9) (net:=true) hos l1];obtain⟨a,ha⟩:=AB (l:=s.acs) (i:=b) (h:=hb);exact(b1 b (C9 a) (by rw[qa1,ha];rfl)).1 U
  .apply TM;intro x hx;obtain⟨i,hi⟩:=qbl.1 hx;rw[qcw]at hi
   cases hdi:(opn s.ds)[i]? with
   |none=>rw[hdi]at hi;cases hi
   |some d =>
    cases hyi:(r1.fl.take (opn s.ds).length)[i]? with
    |none=>rw[hdi,hyi]at hi;cases hi
    |some y =>
     rw[hdi,hyi]at hi;cases hi;have hd:d∈s.ds:=(qbc.1 (qac hdi)).1;have hbk:=h.bk d hd
     have hp:plc b d=0:=by
      unfold plc;rw[E4 (by omega),E4 (by omega)];rfl
     rw[hp,Int.zero_mul]
 rw[hz];omega
theorem Ah9(d:Du):d.fine=Go.Proofs.YtdagmpmdcgedcaaGreat.mayD d:=by
 unfold Du.fine Go.Proofs.YtdagmpmdcgedcaaGreat.mayD Db;rw[qad];simp only[qae,qam,qbr,qda];constructor
 .rintro⟨h1,h2,h3,h4,h5,h6,h7,h8⟩;exact⟨⟨h2,h3,h1⟩,h4,⟨by omega,h5⟩,h6,h7,h8⟩
 .rintro⟨⟨h2,h3,h1⟩,h4,⟨-,h5⟩,h6,h7,h8⟩;exact⟨h1,h2,h3,h4,h5,h6,h7,h8⟩
theorem Aq6{s:Ld}(h:s.Ok):Ow s.ds=true:=by
 obtain⟨h64,-,ha,-⟩:=D3 h.du;unfold Ow;rw[qae,qam,qas];exact⟨h64,fun d hd=>by rw[Ah9];exact((LS.1 ha).1 d hd).1⟩
theorem Aq7(l:List Du):FZ l=Ch (l.map Du.am):=by
 induction l with
 |nil=>rfl
 |cons d l ih=>rw[qau,BJ,<-ih];rfl
theorem ok_nets{s:Ld}(h:s.Ok):netsE 16 s.ds=0:=by
 obtain⟨-,-,ha,ht⟩:=D3 h.du
 have hb:MD 16 s.ds=true:=by
  unfold MD;rw[qas];intro d hd;have:=C4 ((LS.1 ha).1 d hd).1;rw[qae,qam,qam];omega
 unfold netsE;rw[Aq6 h,hb,Aq7,qay (show ¬4503599627370496<Ch (s.ds.map Du.am)by omega)];rfl
end Go.Proofs.YtdagmpmdcgedcaaGreat.Cy
namespace Go.Proofs.YtdagmpmdcgedcaaGreat
open Go.GV Go.Proofs.Tryz
attribute [local irreducible] AN W Wq Wt
structure TwZ where
 i:Nat
 m:Lm
 s:Ld
 T:Nat->Prop
abbrev kdN(net:Bool):Int:=if net=true then 11 else 10
theorem Aq8(net:Bool):(kdN net=10\/kdN net=11)/\decide (kdN net=11)=net:=by cases net <;> decide
theorem Aq9(net:Bool):AkIn (ak (kdN net) 0 0 0 0 0 0):=by cases net <;> exact Gw
end Go.Proofs.YtdagmpmdcgedcaaGreat
