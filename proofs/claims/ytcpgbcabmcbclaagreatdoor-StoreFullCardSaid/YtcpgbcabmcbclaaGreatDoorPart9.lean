/- Part 9 of the proof. -/
import Derived.Test.YtcpgbcabmcbclaaGreatDoorPart8
set_option maxRecDepth 20000
set_option maxHeartbeats 4000000
namespace Go.Proofs.YtcpgbcabmcbclaaGreatDoor
open Go.GV Go.Proofs.Tryz
attribute [local irreducible] A7 W Wq Wt
def Hk(A:Dev):Nat->Nat × Byt
 |0=>(0,[])
 |k+1=>if(Hk A k).1<Cn k (at' A k)then(Cn k (at' A k),Dr k (at' A k))else Hk A k
theorem TX{k:Int}{b:Byt}(h:Cn k b≠0):((Cn k b % 2:Nat):Int)=k:=by
 unfold Cn at h |-
 cases hr:Ey k b with
 |false=>rw[hr]at h;exact absurd rfl h
 |true =>
  rw[cond_true];unfold Ey at hr;simp only[qao,qap]at hr;exact hr.2.2.2.2.2.2
theorem RE{k:Int}{b:Byt}(h:Cn k b=0):Dr k b=[]:=by
 unfold Cn at h;unfold Dr
 cases hr:Ey k b with
 |false=>rfl
 |true =>
  rw[hr,cond_true]at h;unfold Ey at hr;simp only[qao,qap]at hr;omega
theorem Ab2{A:Dev}(ho:A.on=true)(hl:2<=A.B.length:=by omega):(if(Hk A 2).1=0 then El A=4 else El A=0)/\EV A=(Hk A 2).1/\DD A=(Hk A 2).2:=by
 have he:El A=bif decide (Cn 0 (at' A 0)=0) && decide (Cn 1 (at' A 1)=0)then 4 else 0:=by
  unfold El;rw[ho,qai (show ¬A.B.length<2 by omega)];rfl
 have h2:Hk A 2=if(Hk A 1).1<Cn 1 (at' A 1)then(Cn 1 (at' A 1),Dr 1 (at' A 1))else Hk A 1:=rfl;have h1:Hk A 1=if 0<Cn 0 (at' A 0)then(Cn 0 (at' A 0),Dr 0 (at' A 0))else(0,[]):=rfl;have p0:=TX (k:=0) (b:=at' A 0);have p1:=TX (k:=1) (b:=at' A 1);have n0:=RE (k:=0) (b:=at' A 0);have n1:=RE (k:=1) (b:=at' A 1);unfold EV DD;rw[h2,h1,he];generalize Cn 0 (at' A 0)=g0 at *;generalize Cn 1 (at' A 1)=g1 at *;generalize Dr 0 (at' A 0)=l0 at *;generalize Dr 1 (at' A 1)=l1 at *
 by_cases z0:g0=0
 .subst z0
  by_cases z1:g1=0
  .subst z1;exact⟨rfl,rfl,rfl⟩
  .have hp:0<g1:=by omega
   simp[z1,hp]
 .have hp0:0<g0:=by omega
  by_cases z1:g1=0
  .subst z1;simp[z0,hp0]
  .have hne:g0≠g1:=by have:=p0 z0;have:=p1 z1;omega
   simp only[if_pos hp0,qai z0,Bool.false_and,cond_false]
   by_cases hlt:g0<g1
   .simp only[if_pos hlt,qai (show ¬g1<g0 by omega),cond_false,if_neg z1];exact⟨trivial,rfl,rfl⟩
   .simp only[if_neg hlt,qam (show g1<g0 by omega),cond_true,if_neg z0];exact⟨trivial,rfl,rfl⟩
theorem Rd.rootX{w w':World}{a a2:Option Addr}{l:Byt}{b t n c:Nat}{g:Int}(R:Rd w a 1 B8 l)(hb:w.heap[b]?=some (Bl t [.int .u64 g,.slice a2 n c]))(he:Ext [b] w w'):Rd w' a 1 B8 l:=by
 cases l with
 |nil=>exact Rd.nil
 |cons x l =>
  refine R.ext he fun h=>?_;have h1:=R.cell 0 x rfl 0 (bv x) rfl (by decide);rw[qaa.1 h,Ap hb]at h1;have h2:=qad h1;simp[bv]at h2
theorem RF{w:World}{bd:Nat}{A:Dev}{F:Nat->Prop}{mx:Nat}(hfew:Few A mx)(DA:DevAt w bd A F)(hmx:mx<1000000000000:=by decide):
  Ret prog 32 #[ptr bd] w fun v w'=>∃a c,v=.tuple #[.int .u64 (EV A:Int),.slice a (DD A).length c,.int .i64 (El A)]/\Rd w' a 1 B8 (DD A)/\(DD A).length<=c/\(DD A=[]\/w.heap.size<=(adr a).block)/\Ext [] w w':=by
 obtain⟨w0,rfl⟩:=qD w;obtain⟨bs,bm,hhd⟩:=DA.hd;have H:=Ctx.start w0 [];refine A6 (fn:=f32) func32 U [.pointer (some ⟨bd,0,none⟩)] U ?_;refine Ad (Ac U (Aj U (Ac U (qA (Ar (AD (Ad (An U (BN LO U ?_)))))))));refine Am U (qA (Bw U (Ad (An U (Ah qB (Tq hhd) U ?_)))));rintro v w ⟨rfl,rfl⟩;refine Cl U (Am U (qA (Au _ U ?_ ?_)))
 .intro h1;replace h1:=CJ h1;have ho:A.on=false:=by simpa using h1
  have he:El A=8:=by rw[El,ho];rfl
  refine Ad (Ac U (Aj U (Ac U (qA (Ax (AL (Ao (CG (v1:=(.int _ _)) (v2:=(.slice _ _ _)) (v3:=(.int _ _)) U U U U U ?_))))))));exact⟨none,0,by rw[EV,DD,he];rfl,by rw[DD,he];exact Rd.nil,by rw[DD,he];exact qaf _,.inl (by rw[DD,he];rfl),H.ext⟩
 .intro h1;replace h1:=CK h1;have ho:A.on=true:=by simpa using h1
  refine Ad (An U (Ah qB (Gr hhd) U ?_));rintro v w ⟨rfl,rfl⟩;refine Bt U U (Am U (qA (Au _ U ?_ ?_)))
  .intro h2;replace h2:=AU h2;have he:El A=1:=by rw[El,ho,qam (show A.B.length<2 by omega)];rfl
   refine Ad (Ac U (Aj U (Ac U (qA (Ax (AL (Ao (CG (v1:=(.int _ _)) (v2:=(.slice _ _ _)) (v3:=(.int _ _)) U U U U U ?_))))))));exact⟨none,0,by rw[EV,DD,he];rfl,by rw[DD,he];exact Rd.nil,by rw[DD,he];exact qaf _,.inl (by rw[DD,he];rfl),H.ext⟩
  .intro h2;replace h2:=AV h2;refine Aq (AF (Aa (Ad (Be Kt H ?_))));rintro b5 w - H;refine qA (Ar (Ad (Ae U (qA (AD ?_)))));obtain⟨hE2,hG2,hL2⟩:=Ab2 ho;refine BF 8796090926044 (α:=Nat × Option Addr × Nat) (fun x=>[(21,.int .i64 x.1)]) (fun x w'=>x.1<=2/\Ctx w0 [] w' [(b5,Bl 117 [.int .u64 ((Hk A x.1).1:Int),.slice x.2.1 (Hk A x.1).2.length x.2.2])]/\Rd w' x.2.1 1 B8 (Hk A x.1).2/\(Hk A x.1).2.length<=x.2.2/\((Hk A x.1).2=[]\/w0.heap.size<=(adr x.2.1).block)) (fun x=>2 - x.1) (0,none,0) U ?_ ?_ ?_
   .exact⟨rfl,trivial⟩
   .exact⟨qak _,H,Rd.nil,qaf _,.inl rfl⟩
   .rintro⟨i,a,c⟩ j w ⟨hi,H,R,hcc,hnw⟩;dsimp only at hi H R hcc hnw;dsimp only;refine Ad (Bt U U (qA (Ar (Au _ U ?_ ?_))))
    .intro h3;replace h3:=AU h3
     have hrE:Gc A (i:Int)=0:=by
      unfold Gc Dev.has;rw[ho,qam (show(0:Int)<=i by omega),qam (show(i:Int)<A.B.length by omega)];rfl
     have hrB:Gd A (i:Int)=at' A i:=by
      unfold Gd at';rw[hrE];rfl
     have hlen:(at' A i).length=512:=JG DA.wf (Nl);have hb1:Hk A (i+1)=if(Hk A i).1<Cn i (at' A i)then(Cn i (at' A i),Dr i (at' A i))else Hk A i:=rfl;refine Aq (Aa (Ar (AD (Ad (Ae U (Ac U (qA (Ad (An U (Ae U ?_))))))))));refine Ah qB (QF (i:Int) hfew (DA.keep0 H.ext)) U ?_;rintro v w ⟨s27,rfl,F27⟩;rw[hrB]at F27;obtain⟨a27,c27,rfl,R27,hc27⟩:=Fresh.rdB F27;replace H:=H.call F27.ext;replace R:=R.ext0 F27.ext;rw[hrE,hlen];refine AM U (Ag U U (Ag U U (Aj U (Ac U (qA (Ar (Ad (Ae U (AZ U U ?_)))))))));refine qA (Bw U (Aq (Aa (Ad (Ae U (Ai U (Ah qB (Ai0 (i:Int) a27 c27 512 (at' A i) _ R27 hlen) U ?_)))))));have hsz0:=H.size;rintro v w ⟨a35,c35,rfl,R35,hc35,hnw35,hx35⟩;replace H:=H.call hx35;replace R:=R.ext0 hx35;have H0:=H;have hb5:=H.get at0
     have hn5:w0.heap.size<=b5:=(H.own _ (qae ..)).elim (fun h=>by cases h) id;replace H:=Ctx.start1 (H.get at0);refine Be Kt H ?_;rintro b9 w - H;refine Bi GD U U U (by simp[Bg]) H at0 U ?_;rintro w H;refine qA (Ad (Af HW U (AG FU U H at0 U (Af HW U (AG FU U H at1 U (Ci U U (qA (Au _ U ?_ ?_))))))))
     .intro h4;replace h4:=AU h4;rw[if_pos (by omega)]at hb1;refine Av (BG NT GD U H at0 U (Bi GD U U U (by simp[Bg]) H at1 U ?_));rintro w H;refine Ab (AF (Aa (Av (AA U U ?_))));refine Ae U (qA ?_);have hx9:Ext [] w0 w:=H0.ext.then H.ext fun x h => .inr (by rw[qaa.1 h];exact hn5);replace H0:=((Ctx.start w0 []).call hx9).add (H.get at1) (.inr hn5) (by simp);exact⟨(i+1,a35,c35),rfl,⟨rfl,trivial⟩,⟨by dsimp only;omega,by dsimp only;rw[hb1];exact H0,by dsimp only;rw[hb1];exact Rd.rootX R35 hb5 H.ext,by dsimp only;rw[hb1];exact hc35,by dsimp only;rw[hb1];exact hnw35.imp id fun h=>by omega⟩,by dsimp only;omega⟩
     .intro h4;replace h4:=AV h4;rw[if_neg (by omega)]at hb1;refine Aq (AF (Aa (Av (AA U U ?_))));refine Ae U (qA ?_);have hx9:Ext [] w0 w:=H0.ext.then H.ext fun x h => .inr (by rw[qaa.1 h];exact hn5);replace H0:=((Ctx.start w0 []).call hx9).add (H.get at1) (.inr hn5) (by simp);exact⟨(i+1,a,c),rfl,⟨rfl,trivial⟩,⟨by dsimp only;omega,by dsimp only;rw[hb1];exact H0,by dsimp only;rw[hb1];exact Rd.rootX R hb5 H.ext,by dsimp only;rw[hb1];exact hcc,by dsimp only;rw[hb1];exact hnw⟩,by dsimp only;omega⟩
    .intro h3;replace h3:=AV h3;have hi2:i=2:=by omega
     subst hi2;refine B9 (A8 (A8 (Bd (Aa (Ar (Ad (Af HW U (AG FU U H at0 U (B1 U U (qA (Au _ U ?_ ?_)))))))))))
     .intro h4;replace h4:=AU h4;rw[if_pos (by omega)]at hE2;refine Ad (Ac U (Aj U (Ac U (qA (Ax (Ao (CG (v1:=(.int _ _)) (v2:=(.slice _ _ _)) (v3:=(.int _ _)) U U U U U ?_)))))));exact⟨none,0,by rw[EV,DD,hE2];rfl,by rw[DD,hE2];exact Rd.nil,by rw[DD,hE2];exact qaf _,.inl (by rw[DD,hE2];rfl),H.ext⟩
     .intro h4;replace h4:=AV h4;rw[if_neg (by omega)]at hE2;refine Aq (Aa (Kd (fun x=>x=_) mixed U ?_));refine Da HW U (YZ U FU U (by rintro _ rfl;exact H.drew) at0 U ?_);refine Da Aev U (YZ U BL U (by rintro _ rfl;exact H.drew) at0 U ?_);refine FT U (SS U U (FT U (LJ ?_)));rintro _ rfl;replace H:=H.drew;refine Ax (CG (v1:=(.int _ _)) (v2:=(.slice _ _ _)) (v3:=(.int _ _)) U U U U U ?_);exact⟨a,c,by rw[hE2,hG2,hL2],by rw[hL2];exact R.ext0 (Ext.drew _ _),by rw[hL2];exact hcc,by rw[hL2];exact hnw,H.ext⟩
theorem Ai3{w:World}{bd:Nat}{A:Dev}{F:Nat->Prop}{mx:Nat}(hfew:Few A mx)(hmx:mx<1000000000000)(DA:DevAt w bd A F) :
  Ret prog 32 #[ptr bd] w fun v w'=>∃a c,v=.tuple #[.int .u64 (EV A:Int),.slice a (DD A).length c,.int .i64 (El A)]/\Rd w' a 1 B8 (DD A)/\(DD A=[]\/w.heap.size<=(adr a).block)/\Ext [] w w' :=
 (RF hfew (hmx:=hmx) DA).mono fun _ _ ⟨a,c,h1,h2,_,h3⟩=>⟨a,c,h1,h2,h3⟩
theorem W7{w0 w:World}{bd:Nat}{A:Dev}{F:Nat->Prop}(O:Own w0 w bd A F)(gen:Nat)(hgen:gen<18446744073709551616)(a:Option Addr)(c n:Nat)(body:Byt)(R:Rd w a 1 B8 body)(hn:body.length=n)(hm:n<=140737488351231){mx:Nat}(hfew:Few A mx)(hmx:mx<1000000000000) :
  Ret prog 39 #[ptr bd,.int .u64 (gen:Int),.slice a n c] w fun v w'=>v=.int .i64 (Gf A gen body)/\∃F',Own w0 w' bd (Eh A gen body) F'/\Grown F F' w w' :=
 (Ai2 gen hgen a c n body R hn hm (fun x h=>(O.own x h).2) hfew hmx O.dev).mono fun _ _ ⟨hv,hd,ht⟩=>⟨hv,_,O.grow hd ht⟩
theorem Ag0{B:List Byt}{left:Int}{g0 g1:Nat}{l0 l1:Byt}(hl:2<=B.length)(h0:Cn 0 (B.getD 0 zeros)=g0)(h1:Cn 1 (B.getD 1 zeros)=g1)(hl0:g1<g0->Dr 0 (B.getD 0 zeros)=l0)(hl1:g0<=g1->0<g1->Dr 1 (B.getD 1 zeros)=l1) :
  El (calm B left)=(if g0=0/\g1=0 then 4 else 0)/\EV (calm B left)=(if g1<g0 then g0 else g1)/\DD (calm B left)=(if g1<g0 then l0 else if g1=0 then[]else l1):=by
 have he:El (calm B left)=(if g0=0/\g1=0 then 4 else 0):=by
  rw[Ab1 hl,h0,h1]
  by_cases z0:g0=0 <;> by_cases z1:g1=0 <;> simp[z0,z1]
 refine⟨he,?_,?_⟩
 .rw[EV,he,Lw,Lw,h0,h1]
  by_cases hlt:g1<g0
  .simp[hlt,show ¬g0=0 by omega]
  .by_cases z1:g1=0
   .have:g0=0:=by omega
    subst z1;subst this;rfl
   .simp[hlt,z1]
 .rw[DD,he,Lw,Lw,h0,h1]
  by_cases hlt:g1<g0
  .simpa[hlt,show ¬g0=0 by omega]using hl0 hlt
  .by_cases z1:g1=0
   .have:g0=0:=by omega
    subst z1;subst this;rfl
   .simpa[hlt,z1]using hl1 (by omega) (by omega)
def KJ(n:Int):Int:=max 0 (n - 362) / 2
def DY(n:Int):Int:=if KJ n<40 then 0 else(4*KJ n / 5 - 1)*251
theorem Ag1{n:Int}(h:0<=n/\n<=100000):0<=KJ n/\KJ n<=50000:=by unfold KJ;omega
theorem ZG(n:Int)(h:0<=n/\n<=100000)(w:World):Ret prog 70 #[.int .i64 n] w fun v w'=>v=.int .i64 (KJ n)/\w=w':=by
 obtain⟨w0,rfl⟩:=qD w;refine A6 (fn:=f70) func70 U [.int .i64 n] U (Ad (Ac U (qA (Ad (Ae U (B4 U U ?_))))));refine Py U U U (Ux U U U (show _<=(9223372036854775807:Int)by omega) ?_);refine Ac U (qA (Ax (AH (v:=(.int _ _)) U U U ?_)));exact⟨rfl,rfl⟩
theorem Jj(n:Int)(h:0<=n/\n<=100000)(w:World):Ret prog 24 #[.int .i64 n] w fun v w'=>v=.int .i64 (DY n)/\w=w':=by
 obtain⟨w0,rfl⟩:=qD w;have hb:=Ag1 h;refine A6 (fn:=f24) func24 U [.int .i64 n] U (Ad (Ac U (qA (Ad (Ae U (Ah qB (ZG n h _) U ?_))))));rintro v w ⟨rfl,rfl⟩;refine Ac U (qA (Ar (Ad (Ae U (Bt U U (qA (Au _ U ?_ ?_)))))))
 .intro h1;replace h1:=AU h1;refine Ad (Ac U (qA (Ax (Ao (AH (v:=(.int _ _)) U U U ?_)))));exact⟨qac (Value.int .i64) (if_pos h1).symm,rfl⟩
 .intro h1;replace h1:=AV h1;refine Aq (Aa (Ad (Ae U (EX U U ?_))));refine Ux U U U (show _<=(9223372036854775807:Int)by omega) (B4 U U ?_);refine EX U U (Ac U (qA (Ax (AH (v:=(.int _ _)) U U U ?_))));exact⟨qac (Value.int .i64) (if_neg h1).symm,rfl⟩
def JS(A:Dev):Int:=if A.on=false then 8 else if DY A.B.length=0 then 1 else 0
theorem UY{w:World}{bd:Nat}{A:Dev}{F:Nat->Prop}(D:DevAt w bd A F)(hl:A.B.length<=100000:=by omega):Ret prog 31 #[ptr bd] w fun v w'=>v=.int .i64 (JS A)/\w=w':=by
 obtain⟨w0,rfl⟩:=qD w;obtain⟨bs,bm,hhd⟩:=D.hd;refine A6 (fn:=Tryz.f31) func31 U [.pointer (some ⟨bd,0,none⟩)] U ?_;refine Ad (Ac U (qA (Ar (AD (Ad (An U (BN LO U ?_)))))));refine Am U (qA (Bw U (Ad (An U (Ah qB (Tq hhd) U ?_)))));rintro v w ⟨rfl,rfl⟩;refine Cl U (Am U (qA (Au _ U ?_ ?_)))
 .intro h1;replace h1:=CJ h1;refine Ad (Ac U (qA (Ax (AL (Ao (AH (v:=(.int _ _)) U U U ?_))))));exact⟨qac (Value.int .i64) (by unfold JS;simp_all),rfl⟩
 .intro h2;replace h2:=CK h2;refine Ad (An U (Ah qB (Gr hhd) U ?_));rintro v w ⟨rfl,rfl⟩;refine Ah qB (Jj _ (by omega) _) U ?_;rintro v w ⟨rfl,rfl⟩;refine B1 U U (Am U (qA (Au _ U ?_ ?_)))
  .intro h3;replace h3:=AU h3;refine Ad (Ac U (qA (Ax (AL (Ao (AH (v:=(.int _ _)) U U U ?_))))));exact⟨qac (Value.int .i64) (by unfold JS;simp_all),rfl⟩
  .intro h4;replace h4:=AV h4;refine Aq (AF (Aa (Ad (Ac U (qA (Ax (AH (v:=(.int _ _)) U U U ?_)))))));exact⟨qac (Value.int .i64) (by unfold JS;simp_all),rfl⟩
theorem UZ{I:Nat->World->Prop}{E:Int->World->Prop}{bl:Nat}(fs:List Value)(w:World)(hl:fs.length<=100)(hI:I 0 w)(hb:∀i w',I i w'->w'.heap[bl]?=some (Bl 46 fs))(hfs:∀v∈fs,∃f fi caps,v=.func (.func f) fi caps)(hf:∀i f fi caps w',fs[i]?=some (.func (.func f) fi caps)->I i w'->Aw prog f=true/\Ret prog f (fi++caps) w' fun v w''=>∃e,v=.int .i64 e/\((e=0/\I (i+1) w'')\/(e≠0/\E e w''))) :
  Ret prog 37 #[.slice (some ⟨bl,0,none⟩) fs.length fs.length] w fun v w'=>∃e,v=.int .i64 e/\((e=0/\I fs.length w')\/(e≠0/\E e w')):=by
 obtain⟨w0,rfl⟩:=qD w;refine A6 (fn:=f37) func37 U [.slice (some ⟨bl,0,none⟩) fs.length fs.length] U ?_;refine Ad (Ac U (qA (Ar (Ad (Ai U (AO NW U (Ae U (qA (AD ?_)))))))));refine BF 261940 (α:=Nat) (fun i=>[(8,.int .i64 (i:Int))]) (fun i w'=>i<=fs.length/\I i w') (fun i=>fs.length - i) 0 U ?_ ?_ ?_
 .exact⟨rfl,trivial⟩
 .exact⟨qak _,hI⟩
 .clear hI;rintro i j w ⟨hi,hI⟩;refine Ad (Bt U U (qA (Ar (Au _ U ?_ ?_))))
  .intro h1;replace h1:=AU h1;obtain⟨x,hx⟩:=AR (l:=fs) (i:=i);obtain⟨f,fi,caps,rfl⟩:=hfs x (qad hx);obtain⟨hc,hr⟩:=hf i f fi caps w hx hI;rw[show fi++caps=(fi++caps).toList.toArray from(Array.toArray_toList).symm]at hr;refine Aq (Aa (Ar (AD (Ad (BT NW VG U U ?_)))));refine Bf ag_46 U ((by rw[Ap (hb i w hI),qa3,qch];exact hx)) ?_;refine DR U (.func _ _ _) U (qA (Ad (DI U (.func _ _ _) U ?_)));refine Kg U U hc hr (by simp) ?_;rintro v w ⟨e,rfl,he⟩;refine Ac U (qA (Ad (Ae U (AZ U U (qA (Au _ U ?_ ?_))))))
   .intro h2;replace h2:=Bu h2;refine Ad (Ae U (Ac U (qA (Ax (AL (Ao (Ao (AL (Ao (AH (v:=(.int _ _)) U U U ?_))))))))));exact⟨e,rfl,.inr ⟨h2,(he.resolve_left fun h=>h2 h.1).2⟩⟩
   .intro h2;replace h2:=Bv h2;refine Aq (AF (Aa (Av (AA U U ?_))));refine Ae U (qA ?_);exact⟨i+1,rfl,⟨rfl,trivial⟩,⟨by omega,(he.resolve_right fun h=>h.1 h2).2⟩,by omega⟩
  .intro h1;replace h1:=AV h1;obtain rfl:i=fs.length:=by omega
   refine B9 (A8 (A8 (Bd (Aa (Ad (Ac U (qA (Ax (AH (v:=(.int _ _)) U U U ?_)))))))));exact⟨0,rfl,.inl ⟨rfl,hI⟩⟩
theorem Ag2{I:Nat->World->Prop}{E:Int->World->Prop}{bl:Nat}(fs:List Value)(w:World)(hl:fs.length<=100)(hI:I 0 w)(hb:∀i w',I i w'->w'.heap[bl]?=some (Bl 46 fs))(hfs:∀v∈fs,∃f caps,v=.func (.func f) #[] caps)(hf:∀i f caps w',fs[i]?=some (.func (.func f) #[] caps)->I i w'->Aw prog f=true/\Ret prog f caps w' fun v w''=>∃e,v=.int .i64 e/\((e=0/\I (i+1) w'')\/(e≠0/\E e w''))) :
  Ret prog 37 #[.slice (some ⟨bl,0,none⟩) fs.length fs.length] w fun v w'=>∃e,v=.int .i64 e/\((e=0/\I fs.length w')\/(e≠0/\E e w')) :=
 UZ fs w hl hI hb (fun v hv=>let ⟨f,caps,h⟩:=hfs v hv;⟨f,#[],caps,h⟩) fun i f fi caps w' hi h=>by
  obtain⟨f',caps',h'⟩:=hfs _ (qad hi)
  injection h' with h1 h2 h3
  subst h2;rw[Array.empty_append];exact hf i f caps w' hi h
abbrev C3(vd vj vp vt:Value)(gen:Nat)(root:Int)(m1 m2:Nat)(n:Int)(dead:Bool):List Value:=[vd,vj,vp,vt,.int .u64 (gen:Int),.int .i64 root,.map (some m1),.map (some m2),.int .i64 n,.bool dead]
abbrev FE:Value := .pointer none
abbrev CA:TypeId:=94
abbrev pgB(bp ba m:Nat):List (Nat × Obj):=[(bp,Bl TPg [.slice (some ⟨ba,0,none⟩) m m]),(ba,Bl TSt ((List.replicate m 0).map stv))]
theorem Amc{w0 w:World}{S:List Nat}{L:List (Nat × Obj)}{bp ba m:Nat}(H:Ctx w0 S w (pgB bp ba m++L))(hm:m<=4096):PgAt w bp ba (List.replicate m 0):=by
 have hn:=H.nd;refine⟨by rw[H.get at0,qa8],H.get at1,fun e=>by simp[e]at hn,fun s hs=>by rw[(qec.1 hs).2];decide,by rw[qa8];exact hm⟩
section
variable {w0 w:World}{b16 b2 b6 bs bd bm1 bm2 bsu bma m:Nat}{left:Int}{on:Bool}{gen:Nat}{o1 o2:Obj}{fv:List Value}
abbrev emB(b16 b2 b6 bs bd bm1 bm2 gen:Nat)(fv:List Value)(vp vt:Value)(o1 o2:Obj):List (Nat × Obj):=[(b16,Bl 46 fv),(b6,Bl 31 [ptr bs]),(bs,Bl CA (C3 (ptr bd) FE vp vt gen (-1) bm1 bm2 0 false)),(bm2,o2),(bm1,o1),(b2,Bl 27 [ptr bd])]
theorem Ab3(hd:w0.heap[bd]?=some (Bl TD (DB (m+362) bsu bma left on)))(hm:1<=m/\m<=4096)(H:Ctx w0 [] w (emB b16 b2 b6 bs bd bm1 bm2 gen fv FE FE o1 o2)) :
  Ret prog 77 #[ptr b2,ptr b6] w fun v w'=>v=.int .i64 0/\∃bp ba,Ctx w0 [] w' (emB b16 b2 b6 bs bd bm1 bm2 gen fv (ptr bp) FE o1 o2++pgB bp ba m):=by
 refine A6 (fn:=f77) func77 U [ptr b2,ptr b6] U ?_;refine Ad (Ac U (qA (BR [([0,1],2),([3],4),([5,6,7,8,9],10),([],11)] (fun z=>(z.heap[b6]?=some (Bl 31 [ptr bs])/\z.heap[b2]?=some (Bl 27 [ptr bd]))) [10,11] mixed (⟨H.drew.get at1,H.drew.get at5⟩) ?_)));refine AB U U (BJ ET U (fun _ hx=>(by rw[Ap hx.1];rfl)) ?_);refine BJ CY U (fun _ hx=>(by rw[Ap hx.2];rfl)) ?_;refine Bm ?_;replace H:=H.drew;refine Ah qB (Gr (H.ext.to hd (by simp))) U ?_;rintro v w ⟨rfl,rfl⟩;refine Ab (Bb (⟨H.get at1,H.get at5⟩) (AB U U ?_));refine HD U U U (Bm ?_);rw[show((m+362:Nat):Int) - 362=((m:Nat):Int)by omega];refine Ah qB (Aiq m hm.1 hm.2 _) U ?_;rintro v w ⟨bp,ba,rfl,P,hx8,hbp,hba⟩
 replace H:Ctx w0 [] w (emB b16 b2 b6 bs bd bm1 bm2 gen fv FE FE o1 o2++pgB bp ba m):=H.callEnt hx8 (fun x hx=>by simp only[qab,qaj,or_false]at hx;rcases hx with rfl|rfl;exact⟨by have:=P.hd;rw[qa8]at this;exact this,hbp⟩;exact⟨P.st,hba⟩) (by simpa using P.ne);refine Ab (Bb (⟨H.get at1,H.get at5⟩) (AB U U ?_));refine H1 U (Cu U U (Cu U U (Bn U (AE IE U (Bm (Bc (.pointer _) sz_89 U U U H at2 (by(simp;done)) ?_))))));rintro w H;refine Ab (CR U (AB U U ?_));refine Bm (Ac U (Ab (CR U (B3 (Ad (Ae U (Ac U (qA (Ax (AH (v:=(.int _ _)) U U U ?_))))))))));exact⟨rfl,bp,ba,H⟩
abbrev trB(bt bd bp:Nat):List (Nat × Obj):=[(bt,Bl TT (Pa bd bp 362))]
theorem Ab4{bp ba:Nat}{F:Nat->Prop}{A:Dev}(D:DevAt w0 bd A F)(hl:A.B.length=m+362)(hm:1<=m/\m<=4096)(H:Ctx w0 [] w (emB b16 b2 b6 bs bd bm1 bm2 gen fv (ptr bp) FE o1 o2++pgB bp ba m)) :
  Ret prog 79 #[ptr b2,ptr b6] w fun v w'=>v=.int .i64 0/\∃bt,Ctx w0 [] w' (emB b16 b2 b6 bs bd bm1 bm2 gen fv (ptr bp) (ptr bt) o1 o2++(pgB bp ba m++trB bt bd bp)):=by
 have hp:∀{w':World} {S:List Nat},Ctx w0 S w' ((emB b16 b2 b6 bs bd bm1 bm2 gen fv (ptr bp) FE o1 o2)++pgB bp ba m)->PgAt w' bp ba (List.replicate m 0):=fun H=>Amc (L:=[]) (by rw[qa2];exact H.right) hm.2;refine A6 (fn:=f79) func79 U [ptr b2,ptr b6] U ?_;refine Ad (Ac U (qA (BR [([0,1,2,3,4,5],6),([7,8,9,10,11],12),([],13)] (fun z=>(z.heap[b6]?=some (Bl 31 [ptr bs])/\z.heap[b2]?=some (Bl 27 [ptr bd])/\z.heap[bs]?=some (Bl CA (C3 (ptr bd) FE (ptr bp) FE gen (-1) bm1 bm2 0 false)))) [12,13] mixed (⟨H.drew.get at1,H.drew.get at5,H.drew.get at2⟩) ?_)));refine AB U U (BJ ET U (fun _ hx=>(by rw[Ap hx.1];rfl)) ?_);refine BJ CY U (fun _ hx=>(by rw[Ap hx.2.1];rfl)) ?_;refine BJ ET U (fun _ hx=>(by rw[Ap hx.1];rfl)) ?_;refine Bn U (AE IE U (BJ JQ U (fun _ hx=>(by rw[Ap hx.2.2];rfl)) ?_));refine Bm ?_
 replace H:=H.drew;refine Ah qB (Aiy (D.keep0 H.ext) (hp H) 362 (by decide) (by decide)) U ?_;rintro v w ⟨hx10,hT⟩;obtain⟨-,bt,rfl,hbt,hbtw⟩:=hT.resolve_left (by(rintro⟨h,-⟩;rw[hl,qa8]at h;omega));replace H:Ctx w0 [] w (emB b16 b2 b6 bs bd bm1 bm2 gen fv (ptr bp) FE o1 o2++(pgB bp ba m++trB bt bd bp)):=(by rw[<-qa0];exact H.callEnt hx10 (fun x hx=>by rw[qaa.1 hx];exact⟨hbt,hbtw⟩) (by simp));refine Ab (Bb (⟨H.get at1,H.get at5,H.get at2⟩) (AB U U ?_));refine H1 U (Cu U U (Cu U U (Bn U (AE JC U (Bm (Bc (.pointer _) sz_90 U U U H at2 (by(simp;done)) ?_))))));rintro w H;refine Ab (CR U (AB U U ?_));refine Bm (Ac U (Ab (CR U (B3 (Ad (Ae U (Ac U (qA (Ax (AH (v:=(.int _ _)) U U U ?_))))))))));exact⟨rfl,bt,H⟩
def emI(w0:World)(b16 b2 b6 bs bd bm1 bm2 gen m:Nat)(fv:List Value)(o1 o2:Obj):Nat->World->Prop
 |0,w'=>Ctx w0 [] w' (emB b16 b2 b6 bs bd bm1 bm2 gen fv FE FE o1 o2)
 |1,w'=>∃bp ba,Ctx w0 [] w' (emB b16 b2 b6 bs bd bm1 bm2 gen fv (ptr bp) FE o1 o2++pgB bp ba m)
 |_,w'=>∃bp ba bt,Ctx w0 [] w' (emB b16 b2 b6 bs bd bm1 bm2 gen fv (ptr bp) (ptr bt) o1 o2++(pgB bp ba m++trB bt bd bp))
theorem Amd{i:Nat}(h:emI w0 b16 b2 b6 bs bd bm1 bm2 gen m fv o1 o2 i w):w.heap[b16]?=some (Bl 46 fv):=by
 match i,h with
 |0,h=>exact h.get at0
 |1,⟨_,_,h⟩=>exact h.left.get at0
 |_+2,⟨_,_,_,h⟩=>exact h.left.get at0
theorem emAll{F:Nat->Prop}{A:Dev}(D:DevAt w0 bd A F)(hl:A.B.length=m+362)(hm:1<=m/\m<=4096)(H:Ctx w0 [] w (emB b16 b2 b6 bs bd bm1 bm2 gen [.func (.func 77) #[] #[ptr b2,ptr b6],.func (.func 79) #[] #[ptr b2,ptr b6]] FE FE o1 o2)) :
  Ret prog 37 #[.slice (some ⟨b16,0,none⟩) 2 2] w fun v w'=>∃e,v=.int .i64 e/\((e=0/\emI w0 b16 b2 b6 bs bd bm1 bm2 gen m [.func (.func 77) #[] #[ptr b2,ptr b6],.func (.func 79) #[] #[ptr b2,ptr b6]] o1 o2 2 w')\/(e≠0/\False)):=by
 obtain⟨dn,ds,hhd⟩:=D.hd;refine Ag2 (E:=fun _ _=>False) [.func (.func 77) #[] #[ptr b2,ptr b6],.func (.func 79) #[] #[ptr b2,ptr b6]] w (by simp) (I:=emI w0 b16 b2 b6 bs bd bm1 bm2 gen m _ o1 o2) H (fun i w' h=>Amd h) (fun v hv=>?_) (fun i f caps w' hi h=>?_)
 .simp only[qab,qaj,or_false]at hv
  rcases hv with rfl|rfl <;> exact⟨_,_,rfl⟩
 .match i,hi,h with
  |0,hi,h =>
   cases hi;exact⟨by kernel_rfl,(Ab3 (by rw[<-hl];exact hhd) hm h).mono fun v w'' ⟨hv,hc⟩=>⟨0,hv,.inl ⟨rfl,hc⟩⟩⟩
  |1,hi,⟨bp,ba,h⟩ =>
   cases hi;exact⟨by kernel_rfl,(Ab4 D hl hm h).mono fun v w'' ⟨hv,hc⟩=>⟨0,hv,.inl ⟨rfl,bp,ba,hc⟩⟩⟩
theorem W8{F:Nat->Prop}{A:Dev}(w:World)(D:DevAt w bd A F)(hl:A.B.length=m+362)(hm:1<=m/\m<=4096)(gen:Nat) :
  Ret prog 36 #[ptr bd,.int .u64 (gen:Int)] w fun v w'=>∃bs bm1 bm2 o1 o2 bp ba bt,v=.tuple #[ptr bs,.int .i64 0]/\DT str ([]:List (List UInt8 × Value)) o1/\DT str ([]:List (List UInt8 × Value)) o2/\Ctx w [] w' ([(bs,Bl CA (C3 (ptr bd) FE (ptr bp) (ptr bt) gen (-1) bm1 bm2 0 false)),(bm2,o2),(bm1,o1)]++(pgB bp ba m++trB bt bd bp)):=by
 obtain⟨w0,rfl,H⟩:=qE w;obtain⟨dn,ds,hhd⟩:=D.hd;refine A6 (fn:=Tryz.f36) func36 U [ptr bd,.int .u64 (gen:Int)] U (Ad (Co _ (.pointer _) U U H ?_));rintro b2 w - H;refine B5 U (Ac U (qA (Ad (AG CY U H at0 U (Ae U (Kn (κ:=List UInt8) str U H ?_))))));rintro b10 o10 w hM1 H;refine Kn (κ:=List UInt8) str U H ?_;rintro b11 o11 w hM2 H;refine B0 (C3 (ptr bd) FE FE FE gen (-1) b10 b11 0 false) pl_94 zc_94 (Co (C3 (ptr bd) FE FE FE gen (-1) b10 b11 0 false) (.agg _) U U H ?_);rintro bs w - H;refine Be Ae6 H ?_;rintro b6 w - H;refine Bc (.pointer _) Ae1 U U U H at0 (by decide) ?_;rintro w H
 refine qA (Ad (Cz [.pointer _,.pointer _] U (Cz [.pointer _,.pointer _] U (BQ [.func (.func 77) #[] #[ptr b2,ptr b6],.func (.func 79) #[] #[ptr b2,ptr b6]] NW VG Zr H ?_))));rintro b16 w - H;refine Ah qB (emAll D hl hm H) U ?_;rintro v w ⟨e,rfl,he⟩;clear H;obtain⟨rfl,bp,ba,bt,H9⟩:=he.resolve_right (fun h=>h.2);have H:=H9.left;refine Ac U (qA (Ad (AG ET U H at1 U (Ae U (B5 U (Ac U (qA (Ax (Ce (v1:=(.pointer _)) (v2:=(.int _ _)) U U U U ?_)))))))));refine⟨bs,b10,b11,o10,o11,bp,ba,bt,rfl,hM1,hM2,H9.sub (fun x hx=>?_) ?_⟩
 .simp only[qau,qab,qaj,or_false]at hx |-
  rcases hx with(h|h|h)|(h|h)|h <;> simp[h]
 .have h:=H9.nd;simp only[qb8,qba,qbj,qab]at h |-;simp_all
end
def blkI(n:Int):Int:=max 1 ((max n 0+480 - 1) / 480)+1
def blk(n:Nat):Nat:=max 1 ((n+479) / 480)+1
theorem Il(n:Nat):blkI (n:Int)=(blk n:Int):=by unfold blkI blk;omega
theorem DX(n:Nat):2<=blk n:=by unfold blk;omega
theorem Ov(n:Nat):blk n<=n+2:=by unfold blk;omega
theorem FN(n:Int)(w:World)(h:n<=9000000000000000000:=by omega):Ret prog 45 #[.int .i64 n] w fun v w'=>v=.int .i64 (blkI n)/\w=w':=by
 refine A6 (fn:=f45) func45 U [.int .i64 n] U (Ad (Ac U (qA (Ad (Ae U (Py U U U ?_))))));refine AA U U (B4 U U ?_);refine Ux U U U (show _<=(9223372036854775807:Int)by omega) (Py U U U ?_);refine AA U U (Ac U (qA (Ax (AH (v:=(.int _ _)) U U U ?_))));exact⟨rfl,rfl⟩
def Eb(m f z at':Int)(seq:Nat):Bool:=decide (0<=f) && (decide (2<=z) && (decide (z<=m) && (decide (f<=m - z) && (decide (0<=at') && (decide (at'<z) && (decide (1<=seq) && decide (seq<=4611686018427387904)))))))
def W9(n:Nat)(c:UInt8):Byt:=(List.range n).map fun i=>c+UInt8.ofNat (i % 7)
theorem TY(n:Nat)(c:UInt8):(W9 n c).length=n:=by simp[W9]
structure Jr where
 frm:Nat
 size:Nat
 at':Nat
 seq:Nat
 taken:Nat
 dead:Bool
def TJ:Nat:=124
def JB(bd:Nat)(J:Jr):List Value:=[ptr bd,.int .i64 (J.frm:Int),.int .i64 (J.size:Int),.int .i64 (J.at':Int),.int .u64 (J.seq:Int),.int .i64 (J.taken:Int),.bool J.dead]
structure Jr.Ok(J:Jr):Prop where
 s1:2<=J.size
 s2:J.frm+J.size<=4096
 a:J.at'<J.size
 t:J.taken<=J.size
 q:J.seq<=9000000000000000000
def Jr.place(J:Jr)(i:Nat):Nat:=J.frm+(J.at'+i) % J.size
theorem Jr.Ok.place{J:Jr}(h:J.Ok)(i:Nat):J.place i<J.frm+J.size:=by
 have:=qbi (J.at'+i) (show 0<J.size by have:=h.s1;omega);unfold Jr.place;omega
theorem TZ{w:World}{bj bd:Nat}{J:Jr}(h:w.heap[bj]?=some (Bl TJ (JB bd J)))(hJ:J.Ok)(i:Nat)(hi:i<=1000000) :
  Ret prog 109 #[ptr bj,.int .i64 (i:Int)] w fun v w'=>v=.int .i64 (J.place i:Int)/\Ext [] w w':=by
 obtain⟨w0,rfl,H⟩:=qE w;have h1:=hJ.s1;have h2:=hJ.s2;have h3:=hJ.a;have hm:=qbi (J.at'+i) (show 0<J.size by omega);refine A6 (fn:=f109) func109 U [.pointer (some ⟨bj,0,none⟩),.int .i64 (i:Int)] U ?_;refine Ad (Ac U (qA (Kd (fun x=>x=_) mixed U ?_)));refine GN U (Ej U (Da Aew U (Ma DU U (by rintro _ rfl;exact(Ctx.old0 H.drew (Ap h _))) ?_)));refine GN U (Ej U (Da MU U (Ma DU U (by rintro _ rfl;exact(Ctx.old0 H.drew (Ap h _))) ?_)));refine IC U (SH U U U ?_);refine GN U (Ej U (Da MT U (Ma DU U (by rintro _ rfl;exact(Ctx.old0 H.drew (Ap h _))) ?_)));refine q_rem U U U (by omega) (by omega) ?_;rw[show((J.at':Int)+(i:Int)) % (J.size:Int)=(((J.at'+i) % J.size:Nat):Int)by rw[Int.natCast_emod,Int.natCast_add]]
 refine SH U U U (FT U (LJ ?_));rintro _ rfl;replace H:=H.drew;refine Ax (AH (v:=(.int _ _)) U U U ?_);exact⟨qac (Value.int .i64) (by unfold Jr.place;omega),H.ext⟩
def CM(q i:Nat)(p:Byt):Byt:=(Bo q 8++Bo i 4)++p
def Gv(q:Nat)(s:Byt):Byt:=(Bo q 8++Bo (blk s.length - 1) 4)++Bo s.length 4
theorem Mu(q i:Nat)(p:Byt):(CM q i p).length=12+p.length:=by simp[CM,AP];omega
theorem WA(q:Nat)(s:Byt):(Gv q s).length=16:=by simp[Gv,AP]
theorem WB(l:Byt)(n:Nat):Mg l n 4=l++Bo n 4:=by rw[Mg,show Hd 4=true by decide];rfl
theorem Ag3(l:Byt)(n:Nat):Mg l n 8=l++Bo n 8:=by rw[Mg,show Hd 8=true by decide];rfl
theorem RG{w:World}{bj bd:Nat}{J:Jr}(h:w.heap[bj]?=some (Bl TJ (JB bd J)))(hJ:J.Ok)(i:Nat)(a:Option Addr)(c n:Nat)(p:Byt)(R:Rd w a 1 B8 p)(hn:p.length=n)(hi:i<=1000000:=by omega)(hm:n<=1000000:=by decide):
  Ret prog 111 #[ptr bj,.int .i64 (i:Int),.slice a n c] w fun v w'=>Fresh w w' 5 1 v ((CM J.seq i p).map bv):=by
 subst hn;obtain⟨w0,rfl,H⟩:=qE w;have hq:=hJ.q;refine A6 (fn:=f111) func111 U [.pointer (some ⟨bj,0,none⟩),.int .i64 (i:Int),.slice a p.length c] U ?_;refine Ad (Aj U (qA (Ad (An U (Ay U (Af Kp U (Bf FU U (Ctx.old0 H (Ap h _)) ?_)))))));refine Ah qB (FI none 0 0 [] J.seq 8 w0 Rd.nil U (by omega)) U ?_;rintro v w F12;rw[Ag3,qba]at F12;obtain⟨a12,c12,rfl,R12,hc12⟩:=Fresh.rdB F12;rw[AP];refine Ae U (Dw U EW Gy ?_);refine Ah qB (FI a12 c12 8 (Bo J.seq 8) i 4 w R12 (AP _ _) (by omega)) U ?_;rintro v w F15;rw[WB]at F15;replace F15:=Fresh.since F15 F12.ext;obtain⟨a15,n15,c15,full15,rfl,O15,hb15⟩:=F15.ex;have hx15:=F15.ext;obtain rfl:n15=12:=by have h9:=O15.llen;rw[qal,qan,AP,AP]at h9;omega
 replace H:=(Ctx.start w0 []).callEnt hx15 hb15 Ki;refine Aj U (qA (Ad (Ai U (Ai U (Fk (L:=[]) U AW AW CO Pu HY U (p.map bv) U U H O15 (by simp) (HQ p) (Rd.appB (R.ext0 H.ext)) ?_)))));rintro a18 c18 full18 w H O;rw[<-qaz]at O;refine Aj U (qA (Ax (AH (v:=(.slice _ _ _)) U U U ?_)));exact Ctx.fresh (L:=[]) H O
theorem Ag4{w:World}{bj bd:Nat}{J:Jr}(h:w.heap[bj]?=some (Bl TJ (JB bd J)))(hJ:J.Ok)(a:Option Addr)(c n:Nat)(s:Byt)(hn:s.length=n)(hm:n<=1000000000000:=by omega):
  Ret prog 113 #[ptr bj,.slice a n c] w fun v w'=>Fresh w w' 5 1 v ((Gv J.seq s).map bv):=by
 subst hn;obtain⟨w0,rfl,H⟩:=qE w;have hq:=hJ.q;have hb2:=DX s.length;have hb3:=Ov s.length;refine A6 (fn:=f113) func113 U [.pointer (some ⟨bj,0,none⟩),.slice a s.length c] U ?_;refine Ad (Aj U (qA (Ad (An U (Ay U (Af Kp U (Bf FU U (Ctx.old0 H (Ap h _)) ?_)))))));refine Ah qB (FI none 0 0 [] J.seq 8 w0 Rd.nil U (by omega)) U ?_;rintro v w F10;rw[Ag3,qba]at F10;obtain⟨a10,c10,rfl,R10,hc10⟩:=Fresh.rdB F10;rw[AP];refine Ai U (AO AW U (Ah qB (FN (s.length:Int) w) U ?_));rintro v w ⟨rfl,rfl⟩;rw[Il];refine B4 U U ?_;rw[show((blk s.length:Int) - 1)=((blk s.length - 1:Nat):Int)by omega];refine Dw U EW Gy (Ah qB (FI a10 c10 8 (Bo J.seq 8) (blk s.length - 1) 4 _ R10 (AP _ _) (by omega)) U ?_)
 rintro v w F16;rw[WB]at F16;replace F16:=Fresh.since F16 F10.ext;obtain⟨a16,c16,rfl,R16,hc16⟩:=Fresh.rdB F16;rw[qan,AP,AP];refine Aj U (qA (Ad (Ai U (Ai U (AO AW U (Dw U EW Gy ?_))))));refine Ah qB (FI a16 c16 12 (Bo J.seq 8++Bo (blk s.length - 1) 4) s.length 4 _ R16 (by rw[qan,AP,AP]) (by omega)) U ?_;rintro v w F21;rw[WB]at F21;obtain⟨a21,n21,c21,full21,rfl,O21,hb21⟩:=F21.ex;refine Aj U (qA (Ax (AH (v:=(.slice _ _ _)) U U U ?_)));exact Fresh.since F21 F16.ext
theorem WC{w:World}(a b:Option Addr)(c d n m:Nat)(x y:Byt)(Rx:Rd w a 1 B8 x)(Ry:Rd w b 1 B8 y)(hn:x.length=n)(hm:y.length=m) :
  Ret prog 112 #[.slice a n c,.slice b m d] w fun v w'=>v=.bool (decide (x=y))/\w=w':=by
 subst hn hm;refine A6 (fn:=f112) func112 U [.slice a x.length c,.slice b y.length d] U (Ad (Am U (qA (Ad (Ai U (Jz (l:=x) AW FB Fq U Rx ?_))))));refine Ai U (Jz (l:=y) AW FB Fq U Ry ?_);refine Qj (l:=x) (m:=y) U U U (Am U (qA (Ax (AH (v:=(.bool _)) U U U ?_))));exact⟨rfl,rfl⟩
def RH(x y:Byt):Bool:=decide (y.length<=x.length) && decide (x.take y.length=y)
theorem Ab5{w:World}(a b:Option Addr)(c d n m:Nat)(x y:Byt)(Rx:Rd w a 1 B8 x)(Ry:Rd w b 1 B8 y)(hn:x.length=n)(hm:y.length=m)(hc:n<=c) :
  Ret prog 110 #[.slice a n c,.slice b m d] w fun v w'=>v=.bool (RH x y)/\w=w':=by
 subst hn hm;refine A6 (fn:=f110) func110 U [.slice a x.length c,.slice b y.length d] U (Ad (Am U (qA (Ad (Ai U (AO AW U (Ai U (AO AW U (HN U U (AC U ?_))))))))));refine AX 10 U ?_ ?_
 .intro h1;replace h1:=AU h1;have hl:y.length<=x.length:=by omega
  refine Ai U (Ai U (AO AW U (Ee AW CO U U ?_)));refine Ai U (Ah qB (WC a b c d y.length y.length (x.take y.length) y (Rx.take _) Ry (by rw[qa1];omega) U) U ?_);rintro v w ⟨rfl,rfl⟩;refine AQ U (.bool _) U (Am U (qA (Ax (AH (v:=(.bool _)) U U U ?_))));exact⟨by rw[RH,qam hl];rfl,rfl⟩
 .intro h1;replace h1:=AV h1;refine Ak U (Ak U (Ak U (Ak U (Ak U (Ak U (AN U (.bool _) U (Am U (qA (Ax (AH (v:=(.bool _)) U U U ?_))))))))));exact⟨by rw[RH,qai (show ¬y.length<=x.length by omega)];rfl,rfl⟩
def N5(A:Dev)(J:Jr)(i:Nat)(k:UInt8)(b:Byt):Int:=De A (J.place i:Int) (DC k b)
def JI(A:Dev)(J:Jr)(i:Nat)(k:UInt8)(b:Byt):Dev:=Cw A (J.place i:Int) (DC k b)
theorem ZH{w:World}{bj bd:Nat}{J:Jr}{A:Dev}{F:Nat->Prop}(h:w.heap[bj]?=some (Bl TJ (JB bd J)))(hJ:J.Ok)(i:Nat)(k:UInt8)(a:Option Addr)(c n:Nat)(b:Byt)(R:Rd w a 1 B8 b)(hn:b.length=n)(hm:n<=505)(hlt:∀x,F x->x<w.heap.size)(hFj:¬F bj){mx:Nat}(hfew:Few A mx)(DA:DevAt w bd A F)(hi:i<=1000000:=by omega)(hk:k.toNat≠0:=by decide)(hmx:mx<=1000000000000:=by omega):
  Ret prog 118 #[ptr bj,.int .i64 (i:Int),bv k,.slice a n c] w fun v w'=>v=.int .i64 (N5 A J i k b)/\DevAt w' bd (JI A J i k b) (grow F w w')/\Turn F w w':=by
 subst hn;obtain⟨w0,rfl⟩:=qD w
 have hse:FW k b=0:=by
  rw[FW,qai hk,qai (by omega)];rfl
 have h5:(DC k b).length=512:=Fb hm;refine A6 (fn:=f118) func118 U [.pointer (some ⟨bj,0,none⟩),.int .i64 (i:Int),bv k,.slice a b.length c] U ?_;refine Ad (Ac U (qA (Ad (DI U (bv k) U ?_))));refine Ai U (Ah qB (UH k a c _ _ _ R U) U ?_);rintro v w P14;rw[Kw,hse]at P14;obtain⟨s14,rfl,B14⟩:∃s,v=.tuple #[s,.int .i64 0]/\Bytes _ w s (DC k b):=(P14.elim (fun h=>absurd rfl h.1) fun h=>h.2);obtain⟨a14,c14,rfl,R14,hc14,hn14⟩:=B14.ex;have hx:=B14.ext;have DA1:=DA.keep0 hx;rw[h5];have hj1:w.heap[bj]?=some (Bl TJ (JB bd J)):=by rw[hx.block bj (Al h) (by simp)];exact h
 refine AM U (Ag U U (Ag U U (Aj U (Ac U (qA (Ar (Ad (Ae U (AZ U U ?_)))))))));refine qA (Bw U (Aq (Aa (BR [([0,1,2,3,4,5,7],6),([],8),([],9)] (fun z=>z.heap[bj]?=some (Bl TJ (JB bd J))) [] mixed (hj1) ?_))));refine AB U U (CE U (Bn U (AE MS U (BJ CY U (fun _ hx=>Ap hx (0+0)) ?_))));refine CE U (BM U (Cg U (Bm ?_)))
 skip
 refine Ah qB (TZ (show(World.drew w).heap[bj]?=_ from hj1) hJ i hi) U ?_;rintro v w8 ⟨rfl,hx8⟩;have DA2:=(DA1.keep0 (Ext.drew [] w)).keep0 hx8;have R15:=(R14.ext0 (Ext.drew [] w)).ext0 hx8;have hj8:w8.heap[bj]?=some (Bl TJ (JB bd J)):=by rw[hx8.block bj (Al hj1) (by simp)];exact hj1
 refine Ab (Bb (hj8) (AB U U ?_));refine Bm (Ah qB (Ob (J.place i:Int) a14 c14 512 (DC k b) R15 h5 (.inr fun h=>by have:=hlt _ h;omega) hfew (hmx:=hmx) DA2) U ?_);rintro v w9 ⟨rfl,DA3,hT⟩;have hj9:w9.heap[bj]?=some (Bl TJ (JB bd J)):=by obtain⟨S,hS,hx9⟩:=hT;rw[hx9.block bj (Al hj8) (fun h=>hFj (hS _ h))];exact hj8
 refine Ab (Bb (hj9) (AB U U ?_));refine Bm (Ac U (Ab (Bb (hj9) (B3 (Ax (AH (v:=(.int _ _)) U U U ?_))))));have hxx:=(hx.trans (Ext.drew [] w)).trans hx8;exact⟨rfl,DA3.mono (W4 hxx.size),Turn.trans (.of0 hxx) hT fun x h => .inl h⟩
abbrev tpC(root:Int)(p q:Nat):List Value:=[.int .i64 root,.int .i64 (p:Int),.int .u64 (q:Int)]
def tpB(root:Int)(p q:Nat):Byt:=Bo (root+1).toNat 4++(Bo p 4++Bo q 8)
theorem DN(root:Int)(p q:Nat):(tpB root p q).length=16:=by simp[tpB,AP]
theorem ZI(root:Int)(p q:Nat)(w:World)(hr : -1<=root/\root<=4294967294)(hp:p<4294967296)(hq:q<18446744073709551616) :
  Ret prog 40 #[.agg (tpC root p q).toArray] w fun v w'=>Fresh w w' 5 1 v ((tpB root p q).map bv):=by
 obtain⟨w0,rfl⟩:=qD w;obtain⟨n,hn⟩:∃n:Nat,root+1=n:=⟨(root+1).toNat,by omega⟩;have H:=Ctx.start w0 [];refine A6 (fn:=f40) func40 U [.agg (tpC root p q).toArray] U (Ad (Co (tpC root p q) (.agg _) U U H ?_));rintro b1 w - H;refine Aj U (qA (Ad (Af Zo U (AG DU U H at0 U (AA U U ?_)))));rw[hn];refine Dw U EW Gy (Ah qB (FI none 0 0 [] n 4 _ Rd.nil U (by omega)) U ?_);rintro v w F;rw[WB,qba]at F;obtain⟨a8,n8,c8,f8,rfl,O8,h8⟩:=F.ex;obtain rfl:n8=4:=(by have:=O8.llen;rw[qal,AP]at this;omega);replace H:=H.callEnt F.ext h8 Ki;refine Aj U (qA (Ad (Ai U (Af MX U (AG DU U H at0 U (Dw U EW Gy ?_))))))
 refine Ah qB (FI a8 c8 4 (Bo n 4) p 4 _ (OS.rdB O8 fun x hx=>H.blk x (qax _ hx)) (AP _ _) (by omega)) U ?_;rintro v w F2;rw[WB]at F2;obtain⟨a13,n13,c13,f13,rfl,O13,h13⟩:=F2.ex;obtain rfl:n13=8:=(by have:=O13.llen;rw[qal,qan,AP,AP]at this;omega);replace H:=H.callEnt F2.ext h13 Ki;refine Aj U (qA (Ad (Ai U (Af JA U (AG FU U H at0 U (Ah qB (FI a13 c13 8 (Bo n 4++Bo p 4) q 8 _ (OS.rdB O13 fun x hx=>H.blk x (qax _ hx)) (by rw[qan,AP,AP]) hq) U ?_))))));rintro v w F3;rw[Ag3,qa0]at F3;have hx0:=H.ext;obtain⟨a17,n17,c17,f17,rfl,O17,h17⟩:=F3.ex;refine Aj U (qA (Ax (AH (v:=(.slice _ _ _)) U U U ?_)));have hb:tpB root p q=Bo n 4++(Bo p 4++Bo q 8):=by unfold tpB;rw[hn];rfl
 rw[hb];exact Fresh.since F3 hx0
def tpR(b:Byt):List Value:=if b.length=16 then tpC ((numN (b.take 4):Int) - 1) (numN ((b.drop 4).take 4)) (numN ((b.drop 8).take 8))else tpC 0 0 0
theorem Y7{b:Byt}(h:b.length=16)(p k:Nat)(hk:k=4\/k=8)(hp:p+k<=16:=by decide):FC b (p:Int) (k:Int)=.tuple #[.int .u64 (numN ((b.drop p).take k):Int),.int .i64 ((p:Int)+(k:Int)),.int .i64 0]:=by
 have:CV b (p:Int) (k:Int)=0:=by
  unfold CV;rw[qam (show(0:Int)<=(p:Int)by omega),qam (show(p:Int)<=(b.length:Int)by omega),qam (show(k:Int)<=(b.length:Int) - (p:Int)by omega)]
  rcases hk with rfl|rfl <;> rfl
 unfold FC;rw[this];rfl
theorem ZJ{b:Byt}(k:Nat)(l:Byt)(hl:l=b.take k)(hk:k<=4:=by decide):numN l<4294967296:=by
 subst hl;have h1:=JD (b.take k);have h2:(b.take k).length<=4:=by rw[qa1];omega
 have h3:256 ^ (b.take k).length<=256 ^ 4:=qcx (by omega) h2;have h4:(256:Nat) ^ 4=4294967296:=by decide
 omega
theorem WD(a:Option Addr)(c:Nat)(b:Byt)(w:World)(R:Rd w a 1 B8 b)(hc:b.length<=c)(_:b.length<=100000:=by omega):
  Ret prog 33 #[.slice a b.length c] w fun v w'=>v=.tuple #[.agg (tpR b).toArray,.bool (decide (b.length=16))]/\Ext [] w w':=by
 obtain⟨w0,rfl,H⟩:=qE w;refine A6 (fn:=Tryz.f33) func33 U [.slice a b.length c] U (Ad (Be Q7 H ?_));rintro b2 w - H;refine Am U (qA (Ar (Ad (Ai U (AO AW U (AZ U U (qA (Au _ U ?_ ?_))))))))
 .intro h1;replace h1:=Bu h1;have h1:¬b.length=16:=fun h=>h1 (by omega);refine Ad (BG Zh Nb U H at0 U (Bi Nb U U U (by simp[Bg]) H at0 U ?_));rintro w H;refine Am U (qA (Ax (Ao (Dh U U U Zh Nb H at0 U (show _=(.bool _)from rfl) ?_))));exact⟨by rw[tpR,if_neg h1,qai h1];rfl,H.ext⟩
 .intro h1;replace h1:=Bv h1;have h1:b.length=16:=by omega
  have n1:=ZJ (b:=b) 4 _ rfl;have n2:=ZJ (b:=b.drop 4) 4 _ rfl;refine Aq (Aa (Ad (Ai U (Ah qB (Gq a c _ b ((0:Nat):Int) ((4:Nat):Int) _ (R.ext0 H.ext) U hc) U ?_))));rintro v w ⟨rfl,hx19⟩;replace H:=H.call hx19;rw[Y7 h1 0 4 (.inl rfl),List.drop_zero];refine AM U (Ag U U (Ag U U (Ag U U (Ac U (Ac U (Ac U (qA (Ad (Ai U ?_)))))))));refine Ah qB (Gq a c _ b ((4:Nat):Int) ((4:Nat):Int) _ (R.ext0 H.ext) U hc) U ?_;rintro v w ⟨rfl,hx25⟩;replace H:=H.call hx25;rw[Y7 h1 4 4 (.inl rfl)];refine AM U (Ag U U (Ag U U (Ag U U (Ac U (Ac U (Ac U (qA (Ad (Ai U ?_)))))))));refine Ah qB (Gq a c _ b ((8:Nat):Int) ((8:Nat):Int) _ (R.ext0 H.ext) U hc) U ?_;rintro v w ⟨rfl,hx31⟩;replace H:=H.call hx31;rw[Y7 h1 8 8 (.inr rfl)]
  refine AM U (Ag U U (Ag U U (Ag U U (Ac U (Ac U (Ac U (qA (Ad (Ae U ?_)))))))));refine DP U Gy EW (B4 U U ?_);refine Ae U (DP U Gy EW ?_);refine Ae U (B0 (tpC ((numN (b.take 4):Int) - 1) (numN ((b.drop 4).take 4)) (numN ((b.drop 8).take 8))) Aez Q7 ?_);refine Bi Nb U U U (by simp[Bg]) H at0 U ?_;rintro w H;refine Am U (qA (Ax (Dh U U U Zh Nb H at0 U (show _=(.bool _)from rfl) ?_)));exact⟨by rw[tpR,if_pos h1,qam h1],H.ext⟩
structure Wr where
 k:Byt
 v:Byt
 d:Bool
structure Wm where
 ka:Option Addr
 kc:Nat
 va:Option Addr
 vc:Nat
 x:Wr
def Dx(m:Wm):List Value:=[.slice m.ka m.x.k.length m.kc,.slice m.va m.x.v.length m.vc,.bool m.x.d]
theorem HK(m:Wm):∀v∈Dx m,Bg v=true:=fun v hv=>by
 simp only[Dx,qab,qaj,or_false]at hv
 rcases hv with rfl|rfl|rfl <;> rfl
structure Wm.Ok(w:World)(M:Mut)(m:Wm):Prop where
 k:Rdx w M m.ka m.x.k
 v:Rdx w M m.va m.x.v
 kc:m.x.k.length<=m.kc
 vc:m.x.v.length<=m.vc
structure Wrs(w:World)(M:Mut)(a:Option Addr)(n c:Nat)(L:List Wr):Prop where
 ex:∃ps:List Wm,Rd w a 3 Dx ps/\(ps=[]\/¬M (adr a).block)/\ps.map (·.x)=L/\∀m∈ps,m.Ok w M
 num:n=L.length
 le:n<=c
theorem Wm.Ok.call{w w':World}{M:Mut}{m:Wm}(h:m.Ok w M)(hx:Ext [] w w'):m.Ok w' M:=⟨h.k.call hx,h.v.call hx,h.kc,h.vc⟩
theorem Wm.Ok.turn{w w':World}{M M':Mut}{m:Wm}(h:m.Ok w M)(t:Grown M M' w w'):m.Ok w' M':=⟨h.k.turn t,h.v.turn t,h.kc,h.vc⟩
theorem Wrs.turn{w w':World}{M M':Mut}{a:Option Addr}{n c:Nat}{L:List Wr}(h:Wrs w M a n c L)(t:Grown M M' w w'):Wrs w' M' a n c L:=by
 obtain⟨ps,R,hs,hl,hm⟩:=h.ex;obtain⟨R',hs'⟩:=Rd.turnM R hs (by decide) (fun _ _=>rfl) t;exact⟨⟨ps,R',hs',hl,fun m hx=>(hm m hx).turn t⟩,h.num,h.le⟩
def WE(d:Bool):Nat:=bif d then 1 else 0
def wrB(x:Wr):Byt:=Bo (WE x.d) 1++((Bo x.k.length 2++x.k)++(Bo x.v.length 2++x.v))
def opB(L:List Wr):Byt:=L.flatMap wrB
def Wr.Few(x:Wr):Prop:=x.k.length<=32/\x.v.length<=128
theorem Va(x:Wr):(wrB x).length=5+x.k.length+x.v.length:=by simp[wrB,AP];omega
theorem N6:∀{L:List Wr},(∀x∈L,x.Few)->(opB L).length<=165*L.length
 | [],_=>qaf _
 |x::L,h=>by
  have h1:=N6 (L:=L) fun y hy=>h y (qag _ hy);have h2:=h x (qae ..);have h3:=Va x;unfold opB at h1 |-;rw[qb6,qan,h3,qaw];unfold Wr.Few at h2;omega
theorem WF{L:List Wr}{i:Nat}{x:Wr}(h:L[i]?=some x):opB (L.take (i+1))=opB (L.take i)++wrB x:=by
 unfold opB;rw[Bx h,qbp,qc7]
theorem Aks(l:List UInt8)(n:Nat):Mg l n 1=l++Bo n 1:=rfl
theorem Jk(x y:Byt)(a:Option Addr)(c:Nat)(w:World)(h:x.length<=100000:=by omega)(h2:y.length<=100000:=by omega):Ret prog 84 #[str x,.slice a y.length c] w fun v w'=>v=.int .i64 (((x.length+y.length+4:Nat)):Int)/\w=w':=by
 obtain⟨w0,rfl⟩:=qD w;refine A6 (fn:=Tryz.f84) func84 U [str x,.slice a y.length c] U (Ad (Ac U (qA (Ad (BW U (U8 U Fq U ?_))))));refine Ai U (AO AW U (AA U U ?_));refine AA U U (Ac U (qA (Ax (AH (v:=(.int _ _)) U U U ?_))));exact⟨qac (Value.int .i64) (by simp;try omega),rfl⟩
theorem Ai4{M:Mut}(w:World)(a:Option Addr)(n c:Nat)(L:List Wr)(X:Wrs w M a n c L)(hL:∀x∈L,x.Few)(hn:n<=1000:=by omega):
  Ret prog 44 #[.slice a n c] w fun v w'=>∃a' c',v=.slice a' (opB L).length c'/\Rd w' a' 1 B8 (opB L)/\(opB L=[]\/w.heap.size<=(adr a').block)/\(opB L).length<=c'/\Ext [] w w':=by
 obtain⟨w0,rfl⟩:=qD w;obtain⟨ps,R,-,hl,hp⟩:=X.ex;have hnL:=X.num;have hpn:ps.length=n:=by rw[hnL,<-hl,qal]
 refine A6 (fn:=f44) func44 U [.slice a n c] U (Ad (Aj U (qA (Ad (Aj U (qA (Ar (Ad (Ai U (AO GX U ?_))))))))));refine Ae U (qA (AD (BF 8589934184 (α:=Nat × Option Addr × Nat) (fun s=>[(9,.int .i64 (s.1:Int)),(3,.slice s.2.1 (opB (L.take s.1)).length s.2.2)]) (fun s w'=>s.1<=n/\Ext [] w0 w'/\Rd w' s.2.1 1 B8 (opB (L.take s.1))/\(opB (L.take s.1)=[]\/w0.heap.size<=(adr s.2.1).block)/\(opB (L.take s.1)).length<=s.2.2) (fun s=>n - s.1) (0,none,0) U ?_ ?_ ?_)))
 .exact⟨rfl,rfl,trivial⟩
 .exact⟨qak _,Ext.refl _ _,Rd.nil,.inl rfl,qaf _⟩
 .rintro⟨i,a3,c3⟩ j w1 ⟨hi,hx,R3,h3,hc3⟩;dsimp only at hi hx R3 h3 hc3;dsimp only;have H:=Ctx.start w1 [];refine Ad (Bt U U (qA (Ar (Au _ U ?_ ?_))))
  .intro h1;replace h1:=AU h1;obtain⟨m,hm⟩:=AR (l:=ps) (i:=i);have hok:=hp m (qad hm);have hxL:L[i]?=some m.x:=by rw[<-hl,qav,hm];rfl
   have hfew:=hL _ (qad hxL)
   have hlen:(opB (L.take i)).length<=165000:=by
    have h5:=N6 (L:=L.take i) fun x hx=>hL x (qbs hx);have h6:=List.length_take_le i L;omega
   have hs:=WF hxL;unfold Wr.Few at hfew;refine Aq (Aa (Ar (AD (Ad (Bj R GX Fx U U ?_)))));refine EL _ Qt Fx U U ((R.ext0 hx).row hm U) (Be Ha H ?_);rintro b5 w - H;refine Bi Fx U U U (by exact HK m) H at0 U ?_;rintro w H;refine qA (Ad (Ac U (qA (Ar (Ad (Af MV U (AG Gx U H at0 U (qA (Au _ U ?_ ?_)))))))))
   .intro hd;refine Av (Ac U (qA (Ad (Ai U (Ae U (Ah qB (FI a3 c3 _ (opB (L.take i)) 1 1 _ (R3.ext0 H.ext) U (hm:=by omega) (by decide)) U ?_))))));rintro v w F17;rw[Aks]at F17;obtain⟨a17,c17,rfl,R17,hc17⟩:=Fresh.rdB F17;replace H:=H.call F17.ext;refine Aj U (qA (Ad (Ai U (Af P3 U (AG BL U H at0 U (Ah qB (Fd a17 c17 _ _ m.ka m.kc _ m.x.k _ R17 U (by simp[AP];omega) ((hok.k.1.ext0 hx).ext0 H.ext) U hok.kc) U ?_))))));rintro v w ⟨x22,rfl,F22⟩;obtain⟨a22,c22,rfl,R22,hc22⟩:=Fresh.rdB F22;replace H:=H.call F22.ext;refine AM U (Ag U U (Ag U U (Aj U (qA (Av (Ai U (Af ID U (AG BL U H at0 U (Ah qB (Fd a22 c22 _ _ m.va m.vc _ m.x.v _ R22 U (by simp[AP];omega) ((hok.v.1.ext0 hx).ext0 H.ext) U hok.vc) U ?_)))))))));rintro v w ⟨x29,rfl,F29⟩
    rw[qa0,qa0,show Bo 1 1++((Bo m.x.k.length 2++m.x.k)++(Bo m.x.v.length 2++m.x.v))=wrB m.x by(unfold wrB;rw[hd];rfl),<-hs]at F29;have hx29:=hx.trans H.ext;obtain⟨a29,c29,rfl,R29,hc29,h29⟩:=Fresh.newB (Fresh.since F29 hx29);replace H:=H.call F29.ext;refine AM U (Ag U U (Ag U U (Aj U (Ab (AF (Aa (Av (AA U U ?_))))))));refine Ae U (qA ?_);exact⟨(i+1,a29,c29),rfl,⟨rfl,rfl,trivial⟩,⟨by dsimp only;omega,hx.trans H.ext,R29,h29,hc29⟩,by dsimp only;omega⟩
   .intro hd;refine Aq (Aa (Ad (Ai U (Ae U (Ah qB (FI a3 c3 _ (opB (L.take i)) 0 1 _ (R3.ext0 H.ext) U (hm:=by omega) (by decide)) U ?_)))));rintro v w F17;rw[Aks]at F17;obtain⟨a17,c17,rfl,R17,hc17⟩:=Fresh.rdB F17;replace H:=H.call F17.ext;refine Aj U (qA (Ad (Ai U (Af P3 U (AG BL U H at0 U (Ah qB (Fd a17 c17 _ _ m.ka m.kc _ m.x.k _ R17 U (by simp[AP];omega) ((hok.k.1.ext0 hx).ext0 H.ext) U hok.kc) U ?_))))));rintro v w ⟨x22,rfl,F22⟩;obtain⟨a22,c22,rfl,R22,hc22⟩:=Fresh.rdB F22;replace H:=H.call F22.ext;refine AM U (Ag U U (Ag U U (Aj U (qA (Av (Ai U (Af ID U (AG BL U H at0 U (Ah qB (Fd a22 c22 _ _ m.va m.vc _ m.x.v _ R22 U (by simp[AP];omega) ((hok.v.1.ext0 hx).ext0 H.ext) U hok.vc) U ?_)))))))));rintro v w ⟨x29,rfl,F29⟩
    rw[qa0,qa0,show Bo 0 1++((Bo m.x.k.length 2++m.x.k)++(Bo m.x.v.length 2++m.x.v))=wrB m.x by(unfold wrB;rw[hd];rfl),<-hs]at F29;have hx29:=hx.trans H.ext;obtain⟨a29,c29,rfl,R29,hc29,h29⟩:=Fresh.newB (Fresh.since F29 hx29);replace H:=H.call F29.ext;refine AM U (Ag U U (Ag U U (Aj U (Ab (AF (Aa (Av (AA U U ?_))))))));refine Ae U (qA ?_);exact⟨(i+1,a29,c29),rfl,⟨rfl,rfl,trivial⟩,⟨by dsimp only;omega,hx.trans H.ext,R29,h29,hc29⟩,by dsimp only;omega⟩
  .intro h1;replace h1:=AV h1;obtain rfl:i=n:=by omega
   refine B9 (A8 (A8 (Bd (Aa (Ad (Ai U (Aj U (qA (Ax (AH (v:=(.slice _ _ _)) U U U ?_))))))))));have ht:L.take i=L:=qa5 (by omega);rw[ht]at R3 h3 hc3 |-;exact⟨a3,c3,rfl,R3,h3,hc3,hx⟩
section
variable {α β:Type}{f:α->β}{k k':Byt}{x:α}
theorem EE{m:List (Byt × α)}:BA (m.map fun p=>(p.1,f p.2)) k=(BA m k).map f:=by
 induction m with
 |nil=>rfl
 |cons p m ih =>
  unfold BA at ih |-
  by_cases h:p.1=k <;> simp_all
theorem N7:∀{m:List (Byt × α)},IP (m.map fun p=>(p.1,f p.2)) k (f x)=(IP m k x).map fun p=>(p.1,f p.2)
 | []=>rfl
 |p::m=>by
  simp only[qay,IP]
  split
  .rfl
  .rw[N7 (m:=m)];rfl
theorem N8:∀{m:List (Byt × α)},FH (m.map fun p=>(p.1,f p.2)) k=(FH m k).map fun p=>(p.1,f p.2)
 | []=>rfl
 |p::m=>by
  simp only[qay,FH]
  split
  .rfl
  .rw[N8 (m:=m)];rfl
theorem Es{m:List (Byt × α)}(h:BA m k=some x):(k,x)∈m:=by
 unfold BA at h;obtain⟨p,hp,rfl⟩:=qet.1 h;have h1:=List.mem_of_find?_eq_some hp;have h2:=List.find?_some hp;simp only[qap]at h2;subst h2;exact h1
theorem Ft{m:List (Byt × α)}:(BA m k).isSome=decide (k∈m.map (·.1)):=by
 induction m with
 |nil=>rfl
 |cons p m ih =>
  unfold BA at ih |-
  by_cases h:p.1=k
  .simp[h]
  .have h':¬k=p.1:=fun e=>h e.symm;simp_all
end
structure Sv where
 a:Option Addr
 c:Nat
 v:Byt
def Sv.enc(s:Sv):Value := .slice s.a s.v.length s.c
abbrev mv(l:List (Byt × Sv)):List (Byt × Value):=l.map fun p=>(p.1,p.2.enc)
abbrev mi(l:List (Byt × Int)):List (Byt × Value):=l.map fun p=>(p.1,.int .i64 p.2)
structure KvAt(w:World)(M:Mut)(l:List (Byt × Sv))(o:Obj):Prop where
 m:DT str (mv l) o
 ok:∀p∈l,Rdx w M p.2.a p.2.v/\p.2.v.length<=p.2.c
 few:∀p∈l,p.1.length<=32/\p.2.v.length<=128
def LF(k v:Byt):Int:=((k.length+v.length+4:Nat):Int)
def Iz(l:List (Byt × Sv))(k:Byt):Int:=match BA l k with|some s=>LF k s.v|none=>0
def GL(x:Wr):Int:=if x.d=true then 0 else LF x.k x.v
def LG(seen:Bool)(x:Wr):Bool:=seen || (decide (x.k=[]) || (decide (32<x.k.length) || (decide (128<x.v.length) || (x.d && decide (0<x.v.length)))))
def goR(l:List (Byt × Sv))(room:Int):List Byt->Int->List Wr->Int
 |_,b,[]=>if room<b then 7 else 0
 |seen,b,x::L=>if LG (decide (x.k∈seen)) x=true then 1 else goR l room (seen++[x.k]) (b - Iz l x.k+GL x) L
def Vb(l:List (Byt × Sv))(n room:Int)(L:List Wr):Int:=if 1000<L.length then 6 else goR l room [] n L
theorem Ab6{bs bd bsu bma m1 m2 sz gen:Nat}{left n root:Int}{on dead:Bool}{vj vp vt:Value}{o1:Obj}{M:Mut}{l:List (Byt × Sv)}(w:World)(a:Option Addr)(nn c:Nat)(L:List Wr)(hs:w.heap[bs]?=some (Bl CA (C3 (ptr bd) vj vp vt gen root m1 m2 n dead)))(hd:w.heap[bd]?=some (Bl TD (DB sz bsu bma left on)))(h1m:w.heap[m1]?=some o1)(K:KvAt w M l o1)(X:Wrs w M a nn c L)(hnn:nn<=1000000000)(hsz:sz<=100000:=by omega)(hn0: -1000000000<=n:=by omega)(hn1:n<=1000000000:=by omega):
  Ret prog 43 #[ptr bs,.slice a nn c] w fun v w'=>v=.int .i64 (Vb l n (DY sz) L)/\Ext [] w w':=by
 obtain⟨w0,rfl,H⟩:=qE w;obtain⟨ps,R,-,hl,hp⟩:=X.ex;have hnL:=X.num;have hpn:ps.length=nn:=by rw[hnL,<-hl,qal]
 refine A6 (fn:=f43) func43 U [ptr bs,.slice a nn c] U (Ad (Ac U (qA (Ar (Ad (Ai U (AO GX U (Ci U U (qA (Au _ U ?_ ?_))))))))))
 .intro h1;replace h1:=AU h1;refine Ad (Ac U (qA (Ax (Ao (AH (v:=(.int _ _)) U U U ?_)))));exact⟨qac (Value.int .i64) (if_pos (by omega)).symm,Ext.refl _ _⟩
 .intro h1;replace h1:=AV h1;have hrE:Vb l n (DY sz) L=goR l (DY sz) [] n L:=if_neg (by omega);rw[hrE];refine Aq (Aa (Ad (Kn (κ:=List UInt8) str U H ?_)));rintro b17 o17 w hM H;refine Qi U U (qA (Ad (An U (Ay U (Af Li U (Bf DU U ((by rw[Ap (H.ext.to hs (by simp))];rfl)) ?_))))));refine Ac U (qA (Ar (Ad (Ai U (AO GX U (Ae U (qA (AD (BF 38685626227668133573836752 (α:=Nat × Int × List (Byt × Int) × Obj) (fun s=>[(24,.int .i64 (s.1:Int)),(6,.int .i64 s.2.1)]) (fun s w'=>s.1<=nn/\Ctx w0 [] w' [(b17,s.2.2.2)]/\DT str (mi s.2.2.1) s.2.2.2/\goR l (DY sz) (s.2.2.1.map (·.1)) s.2.1 (L.drop s.1)=goR l (DY sz) [] n L/\n - 200*(s.1:Int)<=s.2.1/\s.2.1<=n+200*(s.1:Int)) (fun s=>nn - s.1) (0,n,[],o17) U ?_ ?_ ?_)))))))))
  .exact⟨rfl,rfl,trivial⟩
  .exact⟨qak _,H,hM,rfl,by simp,by simp⟩
  .clear H hM;rintro⟨i,b,ss,o⟩ j w1 ⟨hi,H,hM,hgo,hb1,hb2⟩;dsimp only at hi H hM hgo hb1 hb2;dsimp only;refine Ad (Bt U U (qA (Ar (Au _ U ?_ ?_))))
   .intro h2;replace h2:=AU h2;obtain⟨m,hm⟩:=AR (l:=ps) (i:=i);have hok:=hp m (qad hm);have hxL:L[i]?=some m.x:=by rw[<-hl,qav,hm];rfl
    have hdr:L.drop i=m.x::L.drop (i+1):=by
     obtain⟨hlt,he⟩:=qaq.1 hxL;rw[qdv hlt,he]
    rw[hdr,goR]at hgo;refine Aq (Aa (Ar (AD (Ad (Ae U (Bj R GX Fx U U ?_))))));refine EL _ Qt Fx U U ((R.ext0 H.ext).row hm U) (Be Ha H ?_);rintro b8 w - H;refine Ac U (Bi Fx U U U (by exact HK m) H at0 U ?_);rintro w H;refine qA (Ad (Af P3 U (AG BL U H at0 U (Jz AW FB Fq U (hok.k.1.ext0 H.ext) ?_))));refine HP U U (qA (Ad (Kk U U (BW U (Fp (m:=mi ss) (n:=m.x.k) U Q4 (ER Fq) zv_3 U U H at1 hM ?_)))));rw[show(BA (mi ss) m.x.k).getD (.int .i64 0)=.int .i64 ((BA ss m.x.k).getD 0)by(rw[EE (f:=Value.int .i64)];cases BA ss m.x.k <;> rfl),show(BA (mi ss) m.x.k).isSome=decide (m.x.k∈ss.map (·.1))by(rw[EE (f:=Value.int .i64),qez,Ft])];refine AM U (Ag U U (Ag U U (Ac U (Am U (qA (Ar (AD (Ar (Ad ?_)))))))))
    refine AC U (Am U (qA (FF 144114363442135040 (α:=Unit) (fun _=>[(38,.bool (LG (decide (m.x.k∈ss.map (·.1))) m.x))]) (fun _ w'=>Ctx w0 [] w' [(b8,Bl 56 (Dx m)),(b17,o)]) U ?_ ?_)))
    .skip
     refine Dj 38 U ?_ ?_
     .intro c1;refine Aq (Aa ?_);exact⟨(),rfl,⟨qac Value.bool (by unfold LG;simp_all),trivial⟩,H⟩
     .intro c1;refine Ad (BW U (Qj (m:=[]) U U U ?_));refine Am U (qA (Dj 38 U ?_ ?_))
      .intro c2;refine Aq (Aa ?_);exact⟨(),rfl,⟨qac Value.bool (by unfold LG;simp_all),trivial⟩,H⟩
      .intro c2;refine Ad (BW U (U8 U Fq U ?_));refine Ci U U (Am U (qA (Dj 38 U ?_ ?_)))
       .intro c3;replace c3:=AU c3;refine Aq (Aa ?_);exact⟨(),rfl,⟨qac Value.bool (by unfold LG;simp_all;omega),trivial⟩,H⟩
       .intro c3;replace c3:=AV c3;refine Ad (Af ID U (AG BL U H at0 U (AO AW U (Ci U U (Am U (qA (Dj 38 U ?_ ?_)))))))
        .intro c4;replace c4:=AU c4;refine Aq (Aa ?_);exact⟨(),rfl,⟨qac Value.bool (by unfold LG;simp_all;omega),trivial⟩,H⟩
        .intro c4;replace c4:=AV c4;refine Av (Af MV U (AG Gx U H at0 U (AC U (AX 51 U ?_ ?_))))
         .intro c5;refine Af ID U (AG BL U H at0 U (AO AW U (Ci U U (AQ U (.bool _) U (Am U (qA ?_))))));exact⟨(),rfl,⟨qac Value.bool (by unfold LG;simp_all;(rw[qai (show ¬32<m.x.k.length by omega),qai (show ¬128<m.x.v.length by omega)];rfl)),trivial⟩,H⟩
         .intro c5;refine Ak U (Ak U (Ak U (Ak U (AN U (.bool _) U (Am U (qA ?_))))));exact⟨(),rfl,⟨qac Value.bool (by unfold LG;simp_all;omega),trivial⟩,H⟩
    .rintro - j38 w H;refine Dj 38 U ?_ ?_
     .intro hb;rw[if_pos hb]at hgo;refine Ad (Ac U (qA (Ax (AL (Ao (AL (Ao (Ao (AL (Ao (AH (v:=(.int _ _)) U U U ?_)))))))))));exact⟨qac (Value.int .i64) hgo,H.ext⟩
     .intro hb;rw[if_neg (by simp[hb])]at hgo
      have hfew:m.x.k.length<=32/\m.x.v.length<=128/\m.x.k∉ss.map (·.1):=by
       unfold LG at hb;simp only[qdu,qc5]at hb;exact⟨by omega,by omega,hb.1⟩
      have hset:IP (mi ss) m.x.k (.int .i64 (i:Int))=mi (ss++[(m.x.k,(i:Int))]):=by
       rw[Fm (by rw[EE (f:=Value.int .i64),Option.map_eq_none_iff,<-qda,Ft];simpa using hfew.2.2)];simp
      rcases hq:BA l m.x.k with _|s
      .skip
       have hold:Iz l m.x.k=0:=by unfold Iz;rw[hq]
       refine Aq (AF (Aa (Ad (Kk U U (BW U (Ae U (GO (.int .i64 (i:Int)) U Q4 (ER Fq) U U U H at1 hM ?_)))))));rw[hset];clear hM;rintro o16 w hM H;refine qA (Ar (Ad (An U (Ay U (Af GP U (Bf LN U ((by rw[Ap (H.ext.to hs (by simp))];rfl)) ?_))))));refine BW U (Fp (m:=mv l) (n:=m.x.k) U Na (ER Fq) Q8 U U (Ctx.start1 (H.ext.to h1m (by simp))) at0 K.m ?_);rw[EE (f:=Sv.enc),hq];refine AM U (Ag U U (Ag U U (Aj U (Am U (qA (Ad (AC U (qA (Bw U ?_)))))))));refine Aq (Aa (Ad (Af MV U (AG Gx U H at0 U (Cl U (qA (Au _ U ?_ ?_)))))))
       .intro hdd;replace hdd:=CJ hdd;have hnew:GL m.x=LF m.x.k m.x.v:=by unfold GL;rw[if_neg (by simp_all)]
        rw[hold,hnew]at hgo;refine Av (Ae U (BW U (Af ID U (AG BL U H at0 U (Ah qB (Jk m.x.k m.x.v m.va m.vc _) U ?_)))));rintro v w ⟨rfl,rfl⟩;refine AA U U (Ac U (Ab (AF (Aa (Av (AA U U ?_))))));refine Ae U (qA ?_);refine⟨(i+1,b+((m.x.k.length+m.x.v.length+4:Nat):Int),ss++[(m.x.k,(i:Int))],o16),rfl,⟨rfl,rfl,trivial⟩,⟨by dsimp only;omega,(H.drop 1:Ctx w0 [] _ [(b17,o16)]),hM,?_,?_,?_⟩,by dsimp only;omega⟩
        .dsimp only;rw[qaz,<-hgo];simp[LF]
        .dsimp only;omega
        .dsimp only;omega
       .intro hdd;replace hdd:=CK hdd;have hnew:GL m.x=0:=by unfold GL;rw[if_pos (by simp_all)]
        rw[hold,hnew]at hgo;refine Aq (AF (Aa (Av (AA U U ?_))));refine Ae U (qA ?_);refine⟨(i+1,b,ss++[(m.x.k,(i:Int))],o16),rfl,⟨rfl,rfl,trivial⟩,⟨by dsimp only;omega,(H.drop 1:Ctx w0 [] _ [(b17,o16)]),hM,?_,?_,?_⟩,by dsimp only;omega⟩
        .dsimp only;rw[qaz,<-hgo];simp
        .dsimp only;omega
        .dsimp only;omega
      .skip
       have hold:Iz l m.x.k=LF m.x.k s.v:=by unfold Iz;rw[hq]
       have hsf:=(K.few _ (Es hq)).2;dsimp only at hsf;refine Aq (AF (Aa (Ad (Kk U U (BW U (Ae U (GO (.int .i64 (i:Int)) U Q4 (ER Fq) U U U H at1 hM ?_)))))));rw[hset];clear hM;rintro o16 w hM H;refine qA (Ar (Ad (An U (Ay U (Af GP U (Bf LN U ((by rw[Ap (H.ext.to hs (by simp))];rfl)) ?_))))));refine BW U (Fp (m:=mv l) (n:=m.x.k) U Na (ER Fq) Q8 U U (Ctx.start1 (H.ext.to h1m (by simp))) at0 K.m ?_);rw[EE (f:=Sv.enc),hq];refine AM U (Ag U U (Ag U U (Aj U (Am U (qA (Ad (AC U (qA (Fi U ?_)))))))));refine Av (Ae U (BW U (Ai U (Ah qB (Jk m.x.k s.v s.a s.c _) U ?_))));rintro v w ⟨rfl,rfl⟩;refine B4 U U (Ac U (qA (Ad (Af MV U (AG Gx U H at0 U (Cl U (qA (Au _ U ?_ ?_))))))))
       .intro hdd;replace hdd:=CJ hdd;have hnew:GL m.x=LF m.x.k m.x.v:=by unfold GL;rw[if_neg (by simp_all)]
        rw[hold,hnew]at hgo;refine Av (Ae U (BW U (Af ID U (AG BL U H at0 U (Ah qB (Jk m.x.k m.x.v m.va m.vc _) U ?_)))));rintro v w ⟨rfl,rfl⟩;refine AA U U (Ac U (Ab (AF (Aa (Av (AA U U ?_))))));refine Ae U (qA ?_);refine⟨(i+1,b - ((m.x.k.length+s.v.length+4:Nat):Int)+((m.x.k.length+m.x.v.length+4:Nat):Int),ss++[(m.x.k,(i:Int))],o16),rfl,⟨rfl,rfl,trivial⟩,⟨by dsimp only;omega,(H.drop 1:Ctx w0 [] _ [(b17,o16)]),hM,?_,?_,?_⟩,by dsimp only;omega⟩
        .dsimp only;rw[qaz,<-hgo];simp[LF]
        .dsimp only;omega
        .dsimp only;omega
       .intro hdd;replace hdd:=CK hdd;have hnew:GL m.x=0:=by unfold GL;rw[if_pos (by simp_all)]
        rw[hold,hnew]at hgo;refine Aq (AF (Aa (Av (AA U U ?_))));refine Ae U (qA ?_);refine⟨(i+1,b - ((m.x.k.length+s.v.length+4:Nat):Int),ss++[(m.x.k,(i:Int))],o16),rfl,⟨rfl,rfl,trivial⟩,⟨by dsimp only;omega,(H.drop 1:Ctx w0 [] _ [(b17,o16)]),hM,?_,?_,?_⟩,by dsimp only;omega⟩
        .dsimp only;rw[qaz,<-hgo];simp[LF]
        .dsimp only;omega
        .dsimp only;omega
   .intro h2;replace h2:=AV h2;obtain rfl:i=nn:=by omega
    rw[qbx (by omega),goR]at hgo;refine B9 (A8 (A8 (Bd (Aa (Ar (Ad (Ae U (An U (Ay U (Af P7 U (Bf CY U ((by rw[Ap (H.ext.to hs (by simp))];rfl)) ?_)))))))))));refine Ah qB (Gr (H.ext.to hd (by simp))) U ?_;rintro v w ⟨rfl,rfl⟩;refine Ah qB (Jj _ (by omega) _) U ?_;rintro v w ⟨rfl,rfl⟩;refine Ci U U (qA (Au _ U ?_ ?_))
    .intro h3;replace h3:=AU h3;refine Ad (Ac U (qA (Ax (Ao (AH (v:=(.int _ _)) U U U ?_)))));exact⟨qac (Value.int .i64) (by rw[<-hgo,if_pos h3]),H.ext⟩
    .intro h3;replace h3:=AV h3;refine Aq (Aa (Ad (Ac U (qA (Ax (AH (v:=(.int _ _)) U U U ?_))))));exact⟨qac (Value.int .i64) (by rw[<-hgo,if_neg h3]),H.ext⟩
def Sn(l:List (Byt × Sv))(x:Wr)(s:Sv):List (Byt × Sv):=if x.d=true then FH l x.k else IP (FH l x.k) x.k s
def Jl(t:List (Byt × Int))(k:Byt):List (Byt × Int):=IP t k ((BA t k).getD 0+1)
theorem Jm{α:Type}{k:Byt}:∀{m:List (Byt × α)} {p:Byt × α},p∈FH m k->p∈m
 | [],_,h=>h
 |q::m,p,h=>by
  unfold FH at h
  split at h
  .exact qag _ h
  .rcases qab.1 h with rfl|h
   .exact qae ..
   .exact qag _ (Jm h)
theorem N9{α:Type}{k:Byt}{v:α}:∀{m:List (Byt × α)} {p:Byt × α},p∈IP m k v->p=(k,v)\/p∈m
 | [],p,h => .inl (qaa.1 h)
 |q::m,p,h=>by
  unfold IP at h
  split at h
  .rcases qab.1 h with h|h
   .exact .inl h
   .exact .inr (qag _ h)
  .rcases qab.1 h with rfl|h
   .exact .inr (qae ..)
   .exact(N9 h).imp id (qag _)
theorem WG{l:List (Byt × Sv)}{x:Wr}{s:Sv}{p:Byt × Sv}(h:p∈Sn l x s):(x.d=false/\p=(x.k,s))\/p∈l:=by
 unfold Sn at h
 split at h
 .exact .inr (Jm h)
 .rename_i hd
  exact(N9 h).imp (fun h=>⟨by simpa using hd,h⟩) Jm
theorem RI{t:List (Byt × Int)}{k:Byt}{T:Int}(ht:∀p∈t,0<=p.2/\p.2<=T)(hT:0<=T):(∀p∈Jl t k,0<=p.2/\p.2<=T+1)/\0<=(BA t k).getD 0/\(BA t k).getD 0<=T:=by
 have h0:0<=(BA t k).getD 0/\(BA t k).getD 0<=T:=by
  cases hq:BA t k with
  |none=>exact⟨Int.le_refl _,hT⟩
  |some z=>exact ht _ (Es hq)
 refine⟨fun p hp=>?_,h0⟩
 rcases N9 hp with rfl|hp
 .dsimp only;omega
 .have:=ht p hp;omega
theorem Ctx.ent_new{w0 w:World}{S:List Nat}{L:List (Nat × Obj)}{a:Option Addr}{t n c:Nat}{full:List Value}{l:Byt}(H:Ctx w0 S w (L++ent a t full))(hS:∀x∈S,∃o,(x,o)∈L)(O:OS a n c 1 full (l.map bv)):l=[]\/w0.heap.size<=(adr a).block:=by
 cases ha:a with
 |none =>
  left;have h8:=O.none' ha;have h9:=O.le;have h10:=O.llen;rw[qal]at h10;exact qa9 (by omega)
 |some q =>
  subst ha;right;have hin:∀y∈ent (some q) t full,y.1=q.block:=fun y hy=>by rw[qaa.1 hy]
  have h1:(q.block,Bl t full)∈ent (some q) t full:=qaa.2 rfl
  rcases H.own _ (qax _ h1)with h|h
  .obtain⟨o,ho⟩:=hS _ h;exact absurd U ((qcb.1 H.nd).2.2 (q.block,o) ho (q.block,Bl t full) h1)
  .exact h
theorem ZK{w:World}{bs m1 m2 gen:Nat}{n root T:Int}{dead:Bool}{vd vj vp vt:Value}{o1 o2:Obj}{M:Mut}{l:List (Byt × Sv)}{t:List (Byt × Int)}(H:Ctx w [bs,m1,m2] w [(bs,Bl CA (C3 vd vj vp vt gen root m1 m2 n dead)),(m1,o1),(m2,o2)])(K:KvAt w M l o1)(hM2:DT str (mi t) o2)(hS:∀x∈[bs,m1,m2],M x)(hMb:∀x,M x->x<w.heap.size){M9:Mut}(hS9:∀x∈[bs,m1,m2],M9 x)(m:Wm)(hm:m.Ok w M9)(hf:m.x.Few)(ht:∀p∈t,0<=p.2/\p.2<=T)(hn: -1000000000<=n/\n<=1000000000:=by omega)(hT:0<=T/\T<=1000000000000:=by omega):
  Ret prog 49 #[ptr bs,.agg (Dx m).toArray] w fun v w'=>v=.tuple #[]/\∃s o1' o2',Ctx w [bs,m1,m2] w' [(bs,Bl CA (C3 vd vj vp vt gen root m1 m2 (n - Iz l m.x.k+GL m.x) dead)),(m1,o1'),(m2,o2')]/\KvAt w' M (Sn l m.x s) o1'/\s.v=m.x.v/\DT str (mi (Jl t m.x.k)) o2':=by
 obtain⟨w0,rfl⟩:=qD w;unfold Wr.Few at hf;obtain⟨htl,ht1,ht2⟩:=RI (k:=m.x.k) ht hT.1
 have hold:0<=Iz l m.x.k/\Iz l m.x.k<=164:=by
  unfold Iz
  cases hq:BA l m.x.k with
  |none=>simp
  |some s=>have:=K.few _ (Es hq);dsimp only[LF]at this |-;omega
 refine A6 (fn:=f49) func49 U [ptr bs,.agg (Dx m).toArray] U ?_
 obtain⟨A,N,C,hz⟩:∃A N C,((BA l m.x.k).map Sv.enc).getD (.slice none 0 0)=.slice A N C:=by
  cases BA l m.x.k with
  |none=>exact⟨_,_,_,rfl⟩
  |some s=>exact⟨_,_,_,rfl⟩
 refine Ad (Co (Dx m) (.agg _) U U H ?_);rintro b3 w - H;refine qA (Ad (Af P3 U (AG BL U H at0 U (Jz AW FB Fq U (Rdx.read hm.k H.ext hS9) ?_))));refine HP U U (qA (Ar (Ad (An U (Ay U (Af GP U (AG LN U H at1 U (BW U (Fp (m:=mv l) (n:=m.x.k) U Na (ER Fq) Q8 U U H at2 K.m ?_)))))))));rw[EE (f:=Sv.enc),hz,qez];refine AM U (Ag U U (Ag U U (Aj U (Am U (qA (Ad (AC U (qA (FF 34358689792 (α:=Obj) (fun _=>[]) (fun z w'=>DT str (mv (FH l m.x.k)) z/\Ctx w0 [bs,m1,m2] w' [(b3,Bl 56 (Dx m)),(bs,Bl CA (C3 vd vj vp vt gen root m1 m2 (n - Iz l m.x.k) dead)),(m1,z),(m2,o2)]) U ?_ ?_)))))))))
 .skip
  refine Au _ U ?_ ?_
  .intro h19;obtain⟨s,hq⟩:=qdc.1 h19;rw[hq]at hz;have ho1:Iz l m.x.k=LF m.x.k s.v:=by unfold Iz;rw[hq]
   have hsf:=(K.few _ (Es hq)).2;dsimp only at hsf
   obtain⟨rfl,rfl,rfl⟩:s.a=A/\s.v.length=N/\s.c=C:=by injection hz with h1 h2 h3;exact⟨h1,h2,h3⟩
   refine BR [([0,1,2,3,4,5],6),([7,8,9],10)] (fun z=>z.heap[bs]?=some (Bl CA (C3 vd vj vp vt gen root m1 m2 n dead))) [10] mixed (H.drew.get at1) (AB U U ?_);refine CE U (Bn U (AE Li U (BJ DU U (fun _ hx=>(by rw[Ap hx];rfl)) ?_)));refine U6 U U (Cg U (Bm ?_));replace H:=H.drew;refine Ah qB (Jk m.x.k s.v s.a s.c _) U ?_;rintro v w ⟨rfl,rfl⟩;refine Ab (Bb (H.get at1) (AB U U ?_));refine HD U U U (Bn U (AE Li U (Bm (Bc (.int _ _) GZ U U U H at1 (by(simp;done)) ?_))));rintro w H;refine Ab (CR U (B3 (Av (An U (Ay U (Af GP U (AG LN U H at1 U (BW U (XN (m:=mv l) (n:=m.x.k) U Na (ER Fq) U U H at2 K.m ?_)))))))));rw[N8];rintro o5 w hM1 H;refine qA ?_;exact⟨o5,rfl,trivial,hM1,by rw[ho1];exact H⟩
  .intro h19;have hq:BA l m.x.k=none:=by simpa using h19
   refine Aq (Aa ?_);exact⟨o1,rfl,trivial,by rw[NS hq];exact K.m,by rw[show Iz l m.x.k=0 by(unfold Iz;rw[hq]),Int.sub_zero];exact H⟩
 .rintro o5 j19 w ⟨hM1,H⟩
  have hSL:∀(z:Obj) (y:Obj),∀x∈[bs,m1,m2],∃o,(x,o)∈[(b3,Bl 56 (Dx m)),(bs,y),(m1,z),(m2,o2)]:=fun z y x hx=>by
   simp only[qab,qaj,or_false]at hx
   rcases hx with rfl|rfl|rfl
   .exact⟨y,by simp⟩
   .exact⟨z,by simp⟩
   .exact⟨o2,by simp⟩
  refine Ar (Ad (Af MV U (AG Gx U H at0 U (Cl U (qA (FF 288230101273804800 (α:=Sv × Obj × List (Nat × Obj)) (fun _=>[]) (fun z w'=>z.1.v=m.x.v/\DT str (mv (Sn l m.x z.1)) z.2.1/\(m.x.d=false->(∀w':World,(∀x∈z.2.2,w'.heap[x.1]?=some x.2)->Rd w' z.1.a 1 B8 z.1.v)/\(z.1.v=[]\/w0.heap.size<=(adr z.1.a).block)/\z.1.v.length<=z.1.c)/\Ctx w0 [bs,m1,m2] w' ([(b3,Bl 56 (Dx m)),(bs,Bl CA (C3 vd vj vp vt gen root m1 m2 (n - Iz l m.x.k+GL m.x) dead)),(m1,z.2.1),(m2,o2)]++z.2.2)) U ?_ ?_))))))
  .skip
   refine Au _ U ?_ ?_
   .intro hd;replace hd:=CJ hd;have hd':m.x.d=false:=by simpa using hd
    have hnew:GL m.x=((m.x.k.length+m.x.v.length+4:Nat):Int):=by unfold GL;rw[if_neg (by simp[hd'])];rfl
    refine BR [([0,1,2,3,4,6,7],5),([],8),([],9)] (fun z=>(z.heap[bs]?=some (Bl CA (C3 vd vj vp vt gen root m1 m2 (n - Iz l m.x.k) dead))/\z.heap[b3]?=some (Bl 56 (Dx m)))) [] mixed (⟨H.drew.get at1,H.drew.get at0⟩) ?_;refine AB U U (CE U (Bn U (AE GP U (BJ LN U (fun _ hx=>(by rw[Ap hx.1];rfl)) ?_))));refine U6 U U (AE ID U (BJ BL U (fun _ hx=>(by rw[Ap hx.2];rfl)) ?_));refine Bm ?_;replace H:=H.drew;refine NP U AW CO H ?_;rintro b43 w H O;refine Ab (Bb (⟨H.get at1,H.get at0⟩) (AB U U ?_));refine Bm (Fk U AW AW CO Pu HY U (m.x.v.map bv) U U H O (by simp) (HQ m.x.v) (Rd.appB (Rdx.read hm.v H.ext hS9)) ?_);clear H O;rintro a46 c46 f46 w H O;rw[qa3 m.x.v.length];replace O:OS a46 m.x.v.length c46 1 f46 (m.x.v.map bv):=(by simpa using O);refine Ab (Bb (⟨H.get at1,H.get at0⟩) (AB U U ?_))
    refine Bm (GO (.slice a46 m.x.v.length c46) U Na (ER Fq) U U U H at2 hM1 ?_);rw[show IP (mv (FH l m.x.k)) m.x.k (.slice a46 m.x.v.length c46)=mv (Sn l m.x ⟨a46,c46,m.x.v⟩)by(unfold Sn;rw[if_neg (by simp[hd'])];exact N7 (f:=Sv.enc) (x:=⟨a46,c46,m.x.v⟩))];rintro o9 w hM3 H9;have H:Ctx w0 [bs,m1,m2] w ([(b3,Bl 56 (Dx m)),(bs,Bl CA (C3 vd vj vp vt gen root m1 m2 (n - Iz l m.x.k) dead)),(m1,o9),(m2,o2)]++ent a46 5 f46):=H9;refine Ab (Bb (⟨H.get at1,H.get at0⟩) (B3 (Ke [([0,1,2,3,4,5,6],7),([8,9,10],11)] (fun z=>(z.heap[bs]?=some (Bl CA (C3 vd vj vp vt gen root m1 m2 (n - Iz l m.x.k) dead))/\z.heap[b3]?=some (Bl 56 (Dx m)))) [11] mixed (⟨H.drew.get at1,H.drew.get at0⟩) ?_)));refine AB U U (CE U (Bn U (AE Li U (BJ DU U (fun _ hx=>(by rw[Ap hx.1];rfl)) ?_))));refine U6 U U (AE ID U (BJ BL U (fun _ hx=>(by rw[Ap hx.2];rfl)) ?_));refine Bm ?_
    replace H:=H.drew;refine Ah qB (Jk m.x.k m.x.v m.va m.vc _) U ?_;rintro v w ⟨rfl,rfl⟩;refine Ab (Bb (⟨H.get at1,H.get at0⟩) (AB U U ?_));refine EF U U (Bn U (AE Li U (Bm (Bc (.int _ _) GZ U U U H at1 (by(simp;done)) ?_))));rintro w H;refine Ab (CR U (B3 (Aa ?_)));refine⟨(⟨a46,c46,m.x.v⟩,o9,ent a46 5 f46),rfl,trivial,rfl,hM3,fun _=>⟨fun w' hw'=>OS.rdB O hw',?_,O.le⟩,?_⟩
    .exact Ctx.ent_new H (hSL _ _) O
    .rw[hnew];exact H
   .intro hd;replace hd:=CK hd;have hd':m.x.d=true:=by simpa using hd
    have hnew:GL m.x=0:=by unfold GL;rw[if_pos hd']
    refine Aq (Aa ?_);exact⟨(⟨none,0,m.x.v⟩,o5,[]),rfl,trivial,rfl,by unfold Sn;rw[if_pos hd'];exact hM1,(fun h=>by rw[hd']at h;cases h),by rw[hnew,Int.add_zero];exact H⟩
  .rintro⟨s,o9,E⟩ j37 w ⟨hsv,hM3,hR,H⟩;dsimp only at hsv hM3 hR H;refine Av (An U (Ay U (Af PA U (AG Zi U H at1 U (BW U (Qp (m:=mi t) (n:=m.x.k) U Q4 (ER Fq) zv_3 U U H at3 hM2 ?_))))));rw[show(BA (mi t) m.x.k).getD (.int .i64 0)=.int .i64 ((BA t m.x.k).getD 0)by(rw[EE (f:=Value.int .i64)];cases BA t m.x.k <;> rfl)];refine AA U U (GO (.int .i64 ((BA t m.x.k).getD 0+1)) U Q4 (ER Fq) U U U H at3 hM2 ?_);rw[N7 (f:=Value.int .i64)];rintro o10 w hM4 H9;have H:Ctx w0 [bs,m1,m2] w ([(b3,Bl 56 (Dx m)),(bs,Bl CA (C3 vd vj vp vt gen root m1 m2 (n - Iz l m.x.k+GL m.x) dead)),(m1,o9),(m2,o10)]++E):=H9;refine Ab (Hw U U ?_);refine⟨rfl,s,o9,o10,H.left.drop 1,⟨hM3,fun p hp=>?_,fun p hp=>?_⟩,hsv,hM4⟩
   .rcases WG hp with⟨hd,rfl⟩|hp
    .obtain⟨h1,h2,h3⟩:=hR hd;exact⟨⟨h1 _ fun x hx=>H.blk x (qax _ hx),h2.imp id fun h hMx=>by have h8:(adr s.a).block<w0.heap.size:=hMb _ hMx;omega⟩,h3⟩
    .have h:=K.ok p hp;exact⟨⟨Rdx.read h.1 H.ext hS,h.1.2⟩,h.2⟩
   .rcases WG hp with⟨hd,rfl⟩|hp
    .exact⟨hf.1,by rw[hsv];exact hf.2⟩
    .exact K.few p hp
section
variable {w:World}{bs m1 m2 gen:Nat}{n root:Int}{dead:Bool}{vd vj vp vt:Value}
abbrev deadE(dead:Bool):Int:=if dead=true then 8 else 0
theorem Jn(hs:w.heap[bs]?=some (Bl CA (C3 vd vj vp vt gen root m1 m2 n dead))):Ret prog 42 #[ptr bs] w fun v w'=>v=.int .i64 (deadE dead)/\w=w':=by
 obtain⟨w0,rfl⟩:=qD w;refine A6 (fn:=f42) func42 U [ptr bs] U (Ad (Ac U (qA (Ar (AD (Ad (An U (BN VI U ?_))))))));refine Am U (qA (Bw U (Ad (An U (Ay U (Af Zp U (Bf Gx U ((by rw[Ap hs];rfl)) ?_)))))));refine Am U (qA (Au _ U ?_ ?_))
 .intro h1;refine Ad (Ac U (qA (Ax (AL (Ao (AH (v:=(.int _ _)) U U U ?_))))));exact⟨qac (Value.int .i64) (if_pos h1).symm,rfl⟩
 .intro h1;refine Aq (AF (Aa (Ad (Ac U (qA (Ax (AH (v:=(.int _ _)) U U U ?_)))))));exact⟨qac (Value.int .i64) (if_neg (by simp[h1])).symm,rfl⟩
theorem Ab7(hs:w.heap[bs]?=some (Bl CA (C3 vd vj vp vt gen root m1 m2 n dead))):Ret prog 25 #[ptr bs] w fun v w'=>v=.int .i64 (if dead=true then 0 else n)/\w=w':=by
 obtain⟨w0,rfl⟩:=qD w;refine A6 (fn:=f25) func25 U [ptr bs] U (Ad (Ac U (qA (Ar (Ad (An U (Ah qB (Jn hs) U ?_)))))));rintro v w ⟨rfl,rfl⟩;refine AZ U U (qA (Au _ U ?_ ?_))
 .intro h1;replace h1:=Bu h1;have hd:dead=true:=by cases dead;exact absurd rfl h1;rfl
  refine Ad (Ac U (qA (Ax (Ao (AH (v:=(.int _ _)) U U U ?_)))));exact⟨qac (Value.int .i64) (if_pos hd).symm,rfl⟩
 .intro h1;replace h1:=Bv h1;have hd:¬dead=true:=fun h=>by rw[h]at h1;cases h1
  refine Aq (Aa (Ad (An U (Ay U (Af Li U (Bf DU U ((by rw[Ap hs];rfl)) ?_))))));refine Ac U (qA (Ax (AH (v:=(.int _ _)) U U U ?_)));exact⟨qac (Value.int .i64) (if_neg hd).symm,rfl⟩
theorem WH(H:Ctx w [bs] w [(bs,Bl CA (C3 vd vj vp vt gen root m1 m2 n dead))])(x:Int):Ret prog 47 #[ptr bs,.int .i64 x] w fun v w'=>v=.int .i64 x/\Ctx w [bs] w' [(bs,Bl CA (C3 vd vj vp vt gen root m1 m2 n (!decide (x=0))))]:=by
 obtain⟨w0,rfl⟩:=qD w;refine A6 (fn:=f47) func47 U [ptr bs,.int .i64 x] U (Ad (Ac U (qA (Ad (An U (Ae U (AZ U U (Ay U (Af Zp U (Bc (.bool _) Ae2 U U U H at0 (by(simp;done)) ?_))))))))));rintro w H;refine qA (Ad (Ae U (Ac U (qA (Ax (AH (v:=(.int _ _)) U U U ?_))))));exact⟨rfl,H⟩
def KK(l:List (Byt × Sv))(k:Byt):Byt:=((BA l k).map Sv.v).getD []
theorem Ai5{o1:Obj}{M:Mut}{l:List (Byt × Sv)}(hs:w.heap[bs]?=some (Bl CA (C3 vd vj vp vt gen root m1 m2 n false)))(h1m:w.heap[m1]?=some o1)(K:KvAt w M l o1)(a:Option Addr)(c:Nat)(k:Byt)(Rk:Rd w a 1 B8 k) :
  Ret prog 26 #[ptr bs,.slice a k.length c] w fun v w'=>∃a' c',v=.tuple #[.slice a' (KK l k).length c',.bool (BA l k).isSome,.int .i64 0]/\Rd w' a' 1 B8 (KK l k)/\Ext [] w w':=by
 obtain⟨w0,rfl⟩:=qD w
 obtain⟨A,C,hz,hR,hlen⟩:∃A C,((BA l k).map Sv.enc).getD (.slice none 0 0)=.slice A (KK l k).length C/\Rd w0 A 1 B8 (KK l k)/\(KK l k).length<=128:=by
  unfold KK
  cases hq:BA l k with
  |none=>exact⟨none,0,rfl,Rd.nil,by simp⟩
  |some s=>exact⟨s.a,s.c,rfl,(K.ok _ (Es hq)).1.1,(K.few _ (Es hq)).2⟩
 refine A6 (fn:=f26) func26 U [ptr bs,.slice a k.length c] U (Ad (Aj U (Am U (Ac U (qA (Ar (Ad (An U (Ah qB (Jn hs) U ?_)))))))));rintro v w ⟨rfl,rfl⟩;have H:=Ctx.start w0 [];refine Ac U (qA (Ad (Ae U (AZ U U (qA (Au _ U ?_ ?_))))))
 .intro h1;replace h1:=Bu h1;exact absurd U h1
 .intro h1;replace h1:=Bv h1;refine Aq (Aa (Kd (fun x=>x=_) mixed U ?_));refine GN U (Ej U (Da GP U (Ma LN U (by rintro _ rfl;exact((by rw[Ap (w:=World.drew w0) hs];rfl))) ?_)));refine ML U U (Akw U AW FB Fq U (by rintro _ rfl;exact Rk.ext0 (Ext.drew [] _)) ?_);refine V8 k U Na (ER Fq) Q8 U U (by rintro _ rfl;exact h1m) K.m ?_;rw[EE (f:=Sv.enc),hz,qez];refine Ah6 U U (SL U U U (SL U U U (SS U U (Aas U U (LJ ?_)))));rintro _ rfl;replace H:=H.drew;refine Ad (Ai U (Ah qB (Je A C _ (KK l k) _ (hR.ext0 (Ext.drew [] _)) U) U ?_));rintro v w ⟨F,-⟩;obtain⟨a24,c24,rfl,R24,hc24⟩:=Fresh.rdB F;refine AC U (Aj U (Am U (Ac U (qA (Ax (CG (v1:=(.slice _ _ _)) (v2:=(.bool _)) (v3:=(.int _ _)) U U U U U ?_))))));exact⟨a24,c24,rfl,R24,(Ext.drew [] _).trans F.ext⟩
end
structure Stp where
 op:Int
 gen:Nat
 ba:Option Addr
 bc:Nat
 b:Byt
 n:Int
 pos:Nat
 by':UInt8
 pa:Option Addr
 pc:Nat
 picks:List Int
abbrev I64:Int->List Value:=fun x=>[.int .i64 x]
def Stp.enc(x:Stp):List Value:=[.int .i64 x.op,.int .u64 (x.gen:Int),.slice x.ba x.b.length x.bc,.int .i64 x.n,.int .u16 (x.pos:Int),bv x.by',.slice x.pa x.picks.length x.pc]
structure Stp.Ok(w:World)(x:Stp):Prop where
 rb:Rd w x.ba 1 B8 x.b
 rp:Rd w x.pa 1 I64 x.picks
 cb:x.b.length<=x.bc
 cp:x.picks.length<=x.pc
 mb:x.b.length<=140737488351232
 mp:x.picks.length<=140737488351232
 gen:x.gen<18446744073709551616
 n1 : -9223372036854775808<=x.n
 n2:x.n<=9223372036854775807
 pos:x.pos<65536
 picks:∀i∈x.picks,-9223372036854775808<=i/\i<=9223372036854775807
def sumH(l:List Stp):Nat:=(l.map fun x=>x.b.length+x.picks.length).sum
def heavyB(l:List Stp):Bool:=decide (40<l.length) || decide (20000<sumH (l.take 100))
def Ai6(x:Stp):Byt:=if x.b.length<=497 then Ds x.gen x.b else zeros
def rawB(x:Stp):Byt:=(Ai6 x).modify (x.pos % 512) fun c=>c ^^^ x.by'
structure Two(w0 w:World)(bd rd:Nat)(A B:Dev)(F G:Nat->Prop):Prop where
 ext:Ext [] w0 w
 dev:DevAt w bd A F
 ref:RefAt w rd B G
 f:∀x,F x->w0.heap.size<=x/\x<w.heap.size
 g:∀x,G x->w0.heap.size<=x/\x<w.heap.size
 fg:∀x,F x->¬G x
structure Still(F G F' G':Nat->Prop)(w w':World):Prop where
 blk:∀b,b<w.heap.size->¬F b->¬G b->w'.heap[b]?=w.heap[b]?
 fg:∀b,b<w.heap.size->¬F b->¬G b->¬F' b/\¬G' b
 size:w.heap.size<=w'.heap.size
def Free(w:World)(F G:Nat->Prop)(b:Nat):Prop:=b<w.heap.size/\¬F b/\¬G b
theorem Free.go{w w':World}{F G F' G':Nat->Prop}{b:Nat}(h:Free w F G b)(s:Still F G F' G' w w'):Free w' F' G' b :=
 ⟨qat h.1 s.size,s.fg b h.1 h.2.1 h.2.2⟩
theorem Rd.same{w w':World}{α:Type}{a:Option Addr}{s:Nat}{enc:α->List Value}{l:List α}(R:Rd w a s enc l)(h:w'.heap[(adr a).block]?=w.heap[(adr a).block]?):Rd w' a s enc l :=
 ⟨R.some',fun i x hx j v hv hj=>by
  have h1:=R.cell i x hx j v hv hj;unfold World.cell? at h1 |-
  rw[h];exact h1⟩
def RdF{α:Type}(w:World)(F G:Nat->Prop)(a:Option Addr)(s:Nat)(enc:α->List Value)(l:List α):Prop:=Rd w a s enc l/\(l=[]\/Free w F G (adr a).block)
theorem RdF.go{α:Type}{w w':World}{F G F' G':Nat->Prop}{a:Option Addr}{s:Nat}{enc:α->List Value}{l:List α}(h:RdF w F G a s enc l)(t:Still F G F' G' w w'):RdF w' F' G' a s enc l:=by
 obtain⟨R,hn⟩:=h
 rcases hn with rfl|hn
 .exact⟨Rd.nil,.inl rfl⟩
 .exact⟨Rd.same R (t.blk _ hn.1 hn.2.1 hn.2.2),.inr (hn.go t)⟩
def BlF(w:World)(F G:Nat->Prop)(b:Nat)(o:Obj):Prop:=w.heap[b]?=some o/\Free w F G b
theorem BlF.go{w w':World}{F G F' G':Nat->Prop}{b:Nat}{o:Obj}(h:BlF w F G b o)(t:Still F G F' G' w w'):BlF w' F' G' b o :=
 ⟨by rw[t.blk _ h.2.1 h.2.2.1 h.2.2.2];exact h.1,h.2.go t⟩
theorem Still.call{w w':World}{F G:Nat->Prop}(hx:Ext [] w w'):Still F G F G w w':=⟨fun b hb _ _=>hx.block b hb (by simp),fun _ _ h1 h2=>⟨h1,h2⟩,hx.size⟩
theorem rd_lt{w:World}{α:Type}{a:Option Addr}{s:Nat}{enc:α->List Value}{l:List α}(R:Rd w a s enc l)(hs:0<s)(he:∀x∈l,(enc x).length=s):l=[]\/(adr a).block<w.heap.size:=by
 cases l with
 |nil=>exact .inl rfl
 |cons x l =>
  obtain⟨v,hv⟩:=AR (l:=enc x) (i:=0) (h:=by have:=he x (qae ..);omega);have h9:=World.block_lt_of_cell? w ⟨(adr a).block,_,none⟩ (R.cell 0 x rfl 0 _ hv hs);exact .inr h9
section
variable {w0 w w':World}{bd rd:Nat}{A B A' B':Dev}{F G:Nat->Prop}
theorem Two.call(T:Two w0 w bd rd A B F G)(hx:Ext [] w w'):Two w0 w' bd rd A B F G :=
 ⟨T.ext.trans hx,T.dev.keep0 hx,T.ref.keep0 hx,fun x h=>by have:=T.f x h;have:=hx.size;omega,fun x h=>by have:=T.g x h;have:=hx.size;omega,T.fg⟩
theorem Two.devs(T:Two w0 w bd rd A B F G)(h:DevAt w' bd A' F)(t:Turn F w w'):Two w0 w' bd rd A' B F G/\Still F G F G w w':=by
 have h1:=t.size;have hx0:=t.new T.ext fun x h=>(T.f x h).1;obtain⟨S,hS,hx⟩:=t;exact⟨⟨hx0,h,T.ref.keep hx fun x h=>T.fg x (hS x h),fun x h=>by have:=T.f x h;omega,fun x h=>by have:=T.g x h;omega,T.fg⟩,⟨fun b hb hF _=>hx.block b hb fun h=>hF (hS b h),fun b _ hF hG=>⟨hF,hG⟩,h1⟩⟩
theorem Two.old{α:Type}{a:Option Addr}{s:Nat}{enc:α->List Value}{l:List α}(T:Two w0 w bd rd A B F G)(R:Rd w0 a s enc l)(hs:0<s)(he:∀x∈l,(enc x).length=s):RdF w F G a s enc l :=
 ⟨R.ext0 T.ext,(rd_lt R hs he).imp id fun h=>⟨qat h T.ext.size,fun h'=>by have:=T.f _ h';omega,fun h'=>by have:=T.g _ h';omega⟩⟩
theorem Two.newer(T:Two w0 w bd rd A B F G){b:Nat}(h1:w.heap.size<=b)(h2:b<w'.heap.size):Free w' F G b :=
 ⟨h2,fun h=>by have:=T.f _ h;omega,fun h=>by have:=T.g _ h;omega⟩
end
theorem Stp.one(x:Stp):∀v∈x.enc,Bg v=true:=fun v hv=>by
 simp only[Stp.enc,bv,qab,qaj,or_false]at hv
 rcases hv with rfl|rfl|rfl|rfl|rfl|rfl|rfl <;> rfl
theorem Stp.Ok.ext{w w':World}{x:Stp}(h:x.Ok w)(hx:Ext [] w w'):x.Ok w':=⟨h.rb.ext0 hx,h.rp.ext0 hx,h.cb,h.cp,h.mb,h.mp,h.gen,h.n1,h.n2,h.pos,h.picks⟩
def Cp(b:Byt)(i:Nat):Byt:=(b.drop (480*i)).take 480
theorem Mw(b:Byt)(i:Nat):(Cp b i).length=min 480 (b.length - 480*i):=by rw[Cp,qa1,qbe]
theorem Rd.boxX{w w':World}{a a2:Option Addr}{l:Byt}{b t n c:Nat}(R:Rd w a 1 B8 l)(hb:w.heap[b]?=some (Bl t [.slice a2 n c]))(he:Ext [b] w w'):Rd w' a 1 B8 l:=by
 cases l with
 |nil=>exact Rd.nil
 |cons x l =>
  refine R.ext he fun h=>?_;have h1:=R.cell 0 x rfl 0 (bv x) rfl (by decide);rw[qaa.1 h,Ap hb]at h1;have h2:=qad h1;simp[bv]at h2
theorem Ai7(a:Option Addr)(c i s:Nat):(adr (Em a c i s)).block=(adr a).block:=by
 unfold Em;split
 .rfl
 .cases a with
  |none=>rfl
  |some p =>
   obtain⟨b,o,sp⟩:=p;show(adr (some (Addr.add ⟨b,o,sp⟩ (i*s)))).block=b;unfold Addr.add
   by_cases h:i*s=0 <;> simp[h,adr]
theorem Y9{w:World}{l bx c:Nat}{a:Option Addr}{b:Byt}(hx:w.heap[bx]?=some (Bl 24 [.slice a b.length c]))(R:Rd w a 1 B8 b)(hc:b.length<=c)(hm:b.length<=100000000)(J:Nat->World->Prop)(K:World->Prop)(hJ0:J 0 w)(hst:∀i w' w'',J i w'->Ext [bx] w' w''->J i w'')(hround:∀i ai ci w',i<blk b.length - 1->J i w'->Rd w' ai 1 B8 (Cp b i)->(adr ai).block=(adr a).block->(∃a' n' c',w'.heap[bx]?=some (Bl 24 [.slice a' n' c'])) ->
   Go.GV.YieldAt prog l [.int .i64 (i:Int),.slice ai (Cp b i).length ci] w' fun u w''=>w''.heap[bx]?=w'.heap[bx]? /\ (b=[]\/w''.heap[(adr a).block]?=w'.heap[(adr a).block]?)/\∃t,u=.bool t/\(t=true->J (i+1) w'')/\(t=false->K w'')) :
  Ret prog 142 #[.func (.yield l) #[] #[],ptr bx] w fun _ w'=>J (blk b.length - 1) w'\/K w':=by
 obtain⟨w0,rfl⟩:=qD w;have hb2:=DX b.length;have hb3:=Ov b.length;refine A6 (fn:=f142) func142 U [.func (.yield l) #[] #[],.pointer (some ⟨bx,0,none⟩)] U ?_;refine Ad (Bf BL U (Ap hx _) ?_);refine AO AW U (Ah qB (FN (b.length:Int) _) U ?_);rintro v w ⟨rfl,rfl⟩;rw[Il];refine B4 U U ?_;refine Ae U (qA (AD (BF 67108376 (α:=Nat × Option Addr × Nat) (fun s=>[(9,.int .i64 s.1)]) (fun s w'=>s.1<=blk b.length - 1/\J s.1 w'/\w'.heap[bx]?=some (Bl 24 [.slice s.2.1 (b.drop (480*s.1)).length s.2.2])/\Rd w' s.2.1 1 B8 (b.drop (480*s.1))/\(b.drop (480*s.1)).length<=s.2.2/\(adr s.2.1).block=(adr a).block) (fun s=>blk b.length - 1 - s.1) (0,a,c) U ?_ ?_ ?_)))
 .exact⟨rfl,trivial⟩
 .exact⟨qak _,hJ0,hx,R,hc,rfl⟩
 .rintro⟨i,ai,ci⟩ j w ⟨hi,hJ,hx,R,hc,ha⟩;dsimp only at hi hJ hx R hc ha;dsimp only;refine Ad (Bt U U (qA (Ar (Au _ U ?_ ?_))))
  .intro h1;replace h1:=AU h1;have hcl:=Mw b i;have hdl:(b.drop (480*i)).length=b.length - 480*i:=qbe;refine Aq (Aa (Ar (AD (Ad (Ae U (Ac U (qA (Ad (Bf BL U (Ap hx _) ?_)))))))));refine AO AW U (U1 U U U ?_);rw[show min (480:Int) ((b.drop (480*i)).length:Int)=((Cp b i).length:Int)by omega];refine Ac U (qA (Ar (Ad (DI U (.func _ _ _) U ?_))));refine Ae U (Bf BL U (Ap hx _) ?_);refine Ae U (Ee AW CO U U ?_);refine Qm U U (hround i ai ci w (by omega) hJ (R.take 480) ha ⟨_,_,_,hx⟩) U ?_;rintro _ w5 ⟨hbx5,hba5,t,rfl,hT,hF⟩;refine Cl U (qA (Au _ U ?_ ?_))
   .intro h2;replace h2:=CJ h2;refine Ax (Ao (AL (Ao (Ao (AL (Add U U ?_))))));exact .inr (hF (by simpa using h2))
   .intro h2;replace h2:=CK h2;have hx5:w5.heap[bx]?=some (Bl 24 [.slice ai (b.drop (480*i)).length ci]):=hbx5.trans hx
    have R5:Rd w5 ai 1 B8 (b.drop (480*i)):=by
     rcases hba5 with h0|h0
     .rw[h0];simp only[List.drop_nil];exact Rd.nil
     .exact Rd.same R (by rw[ha];exact h0)
    have H:=Ctx.start1 hx5;refine Aq (Aa (Av (AG BL U H at0 U (Ae U (FR U AW CO U U ?_)))));refine Bc (.slice _ _ _) FA U U U H at0 (by(simp;done)) ?_;rintro w H;refine Ab (AF (Aa (Av (AA U U ?_))));refine Ae U (qA ?_);have hnl:(b.drop (480*(i+1))).length=b.length - 480*(i+1):=qbe;have Rc:=R5.cut (Cp b i).length ci hc
    have hde:(b.drop (480*i)).drop (Cp b i).length=b.drop (480*(i+1)):=by
     rw[qdn]
     by_cases h480:480<=b.length - 480*i
     .congr 1;omega
     .rw[qdx (by omega),qdx (by omega)]
    rw[hde]at Rc;refine⟨(i+1,Em ai ci (Cp b i).length 1,ci - (Cp b i).length),rfl,⟨rfl,trivial⟩,⟨by dsimp only;omega,hst _ _ _ (hT (by simpa using h2)) H.ext,?_,Rd.boxX Rc hx5 H.ext,by dsimp only;omega,(Ai7 ..).trans ha⟩,by dsimp only;omega⟩;dsimp only;rw[H.get at0,show(b.drop (480*(i+1))).length=(b.drop (480*i)).length - (Cp b i).length by omega];rfl
  .intro h1;replace h1:=AV h1;have hib:i=blk b.length - 1:=by omega
   subst hib;refine B9 (A8 (A8 (Bd (Hw U U ?_))));exact .inl hJ
theorem Ab8(a:Option Addr)(n c:Nat)(w:World):Ret prog 117 #[.slice a n c] w fun v w'=>∃bx,v=.func (.func 142) #[] #[ptr bx]/\w'.heap[bx]?=some (Bl 24 [.slice a n c])/\w.heap.size<=bx/\Ext [] w w':=by
 obtain⟨w0,rfl,H⟩:=qE w;refine A6 (fn:=f117) func117 U [.slice a n c] U (Ad (Co _ (.slice _ _ _) U U H ?_));rintro b1 w - H;refine DR U .nilFunc U (qA (Ad (Cz [.pointer _] U (DR U (.func _ _ _) U ?_))));refine qA (Ax (AH (v:=(.func _ _ _)) U U U ?_));exact⟨b1,rfl,H.get at0,(H.own _ (qae ..)).elim (fun h=>by cases h) id,H.ext⟩
theorem NA{P:Program}{e:Env}{w:World}{fn:Func}{R:Value->World->Prop}{a:Tmp}{t:TypeId}{p:Addr}(hr:fn.results=#[.cell a t])(ha:e.g a=.pointer (some p))(h:Marks e.ds w fun w'=>∃v,(loadVar t p).run P w'=.ok v w'/\R v w'):Zf P fn R .ret e w :=
 Marks.mono (fun w ⟨v,hv,h⟩ tmps ht=>by
  have h1:=(ht a).trans ha;rw[qbq]at h1
  exact⟨v,by simp[results,hr,h1,asAddr,hv],h⟩) h
def wrP(A:Dev)(J:Jr)(b:Byt):Nat->Int × Dev
 |0=>(0,A)
 |i+1=>if(wrP A J b i).1=0 then(N5 (wrP A J b i).2 J i 1 (CM J.seq i (Cp b i)),JI (wrP A J b i).2 J i 1 (CM J.seq i (Cp b i)))else wrP A J b i
theorem WI{A:Dev}{J:Jr}{b:Byt}{i:Nat}(h:(wrP A J b i).1≠0):∀n,i<=n->wrP A J b n=wrP A J b i
 |0,hn=>by rw[show i=0 by omega]
 |n+1,hn=>by
  by_cases hi:i=n+1
  .rw[hi]
  .have ih:=WI h n (by omega);have h9:wrP A J b (n+1)=if(wrP A J b n).1=0 then(N5 (wrP A J b n).2 J n 1 (CM J.seq n (Cp b n)),JI (wrP A J b n).2 J n 1 (CM J.seq n (Cp b n)))else wrP A J b n:=rfl;rw[h9,if_neg (by rw[ih];exact h),ih]
theorem NC{A:Dev}{J:Jr}{b:Byt}{m:Nat}(h:Few A m):∀i,Few (wrP A J b i).2 (m+i)
 |0=>h
 |i+1=>by
  unfold wrP
  split
  .exact GI (NC h i) _ _
  .exact(NC h i).mono (by omega)
def CN(A:Dev)(J:Jr)(b:Byt):Int × Dev :=
 if(wrP A J b (blk b.length - 1)).1=0 then
  (if Df (wrP A J b (blk b.length - 1)).2=0 then
   (if N5 (Cc (wrP A J b (blk b.length - 1)).2) J (blk b.length - 1) 2 (Gv J.seq b)=0 then
    (Df (JI (Cc (wrP A J b (blk b.length - 1)).2) J (blk b.length - 1) 2 (Gv J.seq b)),Cc (JI (Cc (wrP A J b (blk b.length - 1)).2) J (blk b.length - 1) 2 (Gv J.seq b)))
   else(N5 (Cc (wrP A J b (blk b.length - 1)).2) J (blk b.length - 1) 2 (Gv J.seq b),JI (Cc (wrP A J b (blk b.length - 1)).2) J (blk b.length - 1) 2 (Gv J.seq b)))
  else(Df (wrP A J b (blk b.length - 1)).2,Cc (wrP A J b (blk b.length - 1)).2))
 else wrP A J b (blk b.length - 1)
structure Dv(w0 w:World)(bd:Nat)(A:Dev)(F F':Nat->Prop)(L:List (Nat × Obj)):Prop where
 dev:DevAt w bd A F'
 turn:Turn F w0 w
 own:∀x,F' x->F x\/(w0.heap.size<=x/\x<w.heap.size)
 lt:∀x,F' x->x<w.heap.size
 blk:∀x∈L,w.heap[x.1]?=some x.2
 off:∀x∈L,¬F' x.1
theorem Dv.step{w0 w w':World}{bd:Nat}{A A':Dev}{F F':Nat->Prop}{L:List (Nat × Obj)}(D:Dv w0 w bd A F F' L)(h:DevAt w' bd A' (grow F' w w'))(t:Turn F' w w'):Dv w0 w' bd A' F (grow F' w w') L:=by
 have h1:=t.size;have h0:=D.turn.size;have ht:Turn F w0 w':=D.turn.trans t fun x h=>(D.own x h).elim .inl fun h => .inr h.1;obtain⟨S,hS,hx⟩:=t;refine⟨h,ht,fun x hx=>?_,fun x hx=>?_,fun x hx'=>?_,fun x hx' hg=>?_⟩
 .rcases hx with hx|hx
  .rcases D.own x hx with h|h
   .exact .inl h
   .exact .inr ⟨h.1,by omega⟩
  .exact .inr ⟨by omega,hx.2⟩
 .rcases hx with hx|hx
  .have:=D.lt x hx;omega
  .exact hx.2
 .rw[hx.block x.1 (Al (D.blk x hx')) fun h=>D.off x hx' (hS _ h)];exact D.blk x hx'
 .rcases hg with hg|hg
  .exact D.off x hx' hg
  .have:=Al (D.blk x hx');omega
theorem Dv.same{w0 w w':World}{bd:Nat}{A A':Dev}{F F':Nat->Prop}{L:List (Nat × Obj)}(D:Dv w0 w bd A F F' L)(h:DevAt w' bd A' F')(t:Turn F' w w'):Dv w0 w' bd A' F F' L:=by
 have h1:=t.size;have ht:Turn F w0 w':=D.turn.trans t fun x h=>(D.own x h).elim .inl fun h => .inr h.1;obtain⟨S,hS,hx⟩:=t
 exact⟨h,ht,fun x hx=>(D.own x hx).elim .inl fun h => .inr ⟨h.1,by omega⟩,fun x hx=>by have:=D.lt x hx;omega,fun x hx'=>by
  rw[hx.block x.1 (Al (D.blk x hx')) fun h=>D.off x hx' (hS _ h)];exact D.blk x hx',D.off⟩
theorem Dv.call{w0 w w':World}{bd:Nat}{A:Dev}{F F':Nat->Prop}{L:List (Nat × Obj)}(D:Dv w0 w bd A F F' L)(hx:Ext [] w w'):Dv w0 w' bd A F F' L:=D.same (D.dev.keep0 hx) (.of0 hx)
theorem Dv.other{w0 w w':World}{bd:Nat}{A:Dev}{F F':Nat->Prop}{L L':List (Nat × Obj)}(D:Dv w0 w bd A F F' L){b:Nat}(hx:Ext [b] w w')(hb:w0.heap.size<=b)(hn:¬F' b)(hL:∀x∈L',w'.heap[x.1]?=some x.2/\¬F' x.1):Dv w0 w' bd A F F' L':=by
 have h1:=hx.size;refine⟨D.dev.keep hx fun x h=>by rw[qaa.1 h];exact hn,D.turn.trans (.of hx (S:=[b]) (F:=fun x=>x=b) fun x h=>qaa.1 h) fun x h => .inr (by rw[h];exact hb),fun x hx=>(D.own x hx).elim .inl fun h => .inr ⟨h.1,by omega⟩,fun x hx=>by have:=D.lt x hx;omega,fun x h=>(hL x h).1,fun x h=>(hL x h).2⟩
theorem Dv.sub{w0 w:World}{bd:Nat}{A:Dev}{F F':Nat->Prop}{L L':List (Nat × Obj)}(D:Dv w0 w bd A F F' L)(h:∀x∈L',x∈L):Dv w0 w bd A F F' L':=⟨D.dev,D.turn,D.own,D.lt,fun x hx=>D.blk x (h x hx),fun x hx=>D.off x (h x hx)⟩
theorem YA{Q:Exit->Env->World->Prop}{e:Env}{w:World}{j:Option Code}(hj:j=some .ret)(h:Q .ret e w):NJ Q e w j:=by subst hj;exact h
theorem JJ{w0 w:World}{bd bj b4 Db:Nat}{A:Dev}{F F':Nat->Prop}{L:List (Nat × Obj)}{e:Int}{oj:Obj}{d:Deferred}(D:Dv w0 w bd A F F' ((b4,Bl 28 [.int .i64 e])::L))(hd:d.target=.collected Db)(hDm:(Db,.deferred (some []))∈L)(hDb:w0.heap.size<=Db)(hjm:(bj,oj)∈L)(hjD:bj≠Db)(h4D:b4≠Db) :
  Marks [d] w fun w'=>∃v,(loadVar 28 ⟨b4,0,none⟩).run prog w'=.ok v w'/\(v=.int .i64 e/\∃F',Dv w0 w' bd A F F' [(bj,oj)]):=by
 refine⟨Db,hd,D.blk _ (qag _ hDm),?_⟩;have hx:=Ext.setB w Db (.deferred none)
 have h4:(w.putObj Db (.deferred none)).heap[b4]?=some (Bl 28 [.int .i64 e]):=by
  rw[hx.block b4 (Al (D.blk _ (qae ..))) (by simpa using h4D)];exact D.blk _ (qae ..)
 refine⟨_,GB Ev (Ap h4 0),rfl,F',D.other hx hDb (D.off _ (qag _ hDm)) fun x hx'=>?_⟩;rw[qaa.1 hx'];exact⟨by rw[hx.block bj (Al (D.blk _ (qag _ hjm))) (by simpa using hjD)];exact D.blk _ (qag _ hjm),D.off _ (qag _ hjm)⟩
theorem Ab9{w:World}{bj bd:Nat}{J:Jr}{A:Dev}{F:Nat->Prop}(h:w.heap[bj]?=some (Bl TJ (JB bd J)))(hJ:J.Ok)(a:Option Addr)(c n:Nat)(b:Byt)(R:Rd w a 1 B8 b)(hn:b.length=n)(hm:n<=900000)(hc:n<=c)(hlt:∀x,F x->x<w.heap.size)(hFj:¬F bj)(hFa:b=[]\/¬F (adr a).block){mx:Nat}(hfew:Few A mx)(hmx:mx<=1000000000)(DA:DevAt w bd A F) :
  Ret prog 87 #[ptr bj,.slice a n c] w fun v w'=>v=.int .i64 (CN A J b).1/\∃F',Dv w w' bd (CN A J b).2 F F' [(bj,Bl TJ (JB bd J))]:=by
 subst hn;obtain⟨w0,rfl,H⟩:=qE w;have hjl:=Al h;have hbl:=Rd.lt8 R;have hb2:=DX b.length;have hb3:=Ov b.length;refine Ja (fn:=Tryz.f87) func87 U [.pointer (some ⟨bj,0,none⟩),.slice a b.length c] U ?_;refine Ad (Co _ (.pointer _) U U H ?_);rintro b2 w - H;refine Be VJ H ?_;rintro b4 w - H;refine qA (Ar (Ad (Ai U (Ah qB (Ab8 a b.length c _) U ?_))));rintro v w ⟨bx,rfl,hbx,hbxn,hx11⟩;refine qA (AD ?_);have ho2:w0.heap.size<=b2:=(H.own _ (qag _ (qae ..))).elim (fun h=>by cases h) id;have ho4:w0.heap.size<=b4:=(H.own _ (qae ..)).elim (fun h=>by cases h) id;have hl2:=H.lt at1;have hl4:=H.lt at0;have hb24:=H.ne at0 at1 (by decide);replace H:=H.call hx11;have hbxL:=Al hbx;refine GW U qB ?_;intro fn tmps hts htm Db l w2 hDb hl hx2 hD hrec
 obtain⟨lo,hlo,hrec'⟩:∃lo,lo=_/\w2.heap[l]?=some (.loop lo):=⟨_,rfl,hrec⟩;have H2:=H.call hx2;have hbx2:w2.heap[bx]?=some (Bl 24 [.slice a b.length c]):=by rw[hx2.block bx hbxL (by simp)];exact hbx
 have hx02:Ext [] w0 w2:=H2.ext;have hnew:∀x,w0.heap.size<=x->¬F x:=fun x hx hF=>by have:=hlt x hF;omega
 have hj2:w2.heap[bj]?=some (Bl TJ (JB bd J)):=by rw[hx02.block bj hjl (by simp)];exact h
 obtain⟨L,hL⟩:=qD ([(bj,Bl TJ (JB bd J)),(b2,Bl 81 [ptr bj]),(Db,.deferred (some []))]:List (Nat × Obj))
 have D2:Dv w0 w2 bd A F F ((l,.loop lo)::(b4,Bl 28 [.int .i64 0])::L):=by
  refine⟨DA.keep0 hx02,.of0 hx02,fun x h => .inl h,fun x hx=>by have:=hlt x hx;have:=hx02.size;omega,fun x hx=>?_,fun x hx=>?_⟩
  .rw[hL]at hx;simp only[qab,qaj,or_false]at hx
   rcases hx with rfl|rfl|rfl|rfl|rfl
   .exact hrec'
   .exact H2.get at0
   .exact hj2
   .exact H2.get at1
   .exact hD
  .rw[hL]at hx;simp only[qab,qaj,or_false]at hx;have h1:=hx11.size;have h2:=H.ext.size
   rcases hx with rfl|rfl|rfl|rfl|rfl
   .exact hnew _ (by dsimp only;omega)
   .exact hnew _ ho4
   .exact hFj
   .exact hnew _ ho2
   .exact hnew _ (by dsimp only;omega)
 have hsz11:=hx11.size;have hszH:=H.ext.size
 have hneX:∀(o1 o2:Obj),∀x∈(l,o1)::(b4,o2)::L,x.1≠bx:=by
  intro o1 o2 x hx;rw[hL]at hx;simp only[qab,qaj,or_false]at hx
  rcases hx with rfl|rfl|rfl|rfl|rfl <;> (dsimp only;omega)
 refine Ret.mono (Y9 (l:=l) hbx2 (R.ext0 hx02) hc (by omega)
  (fun i w'=>(wrP A J b i).1=0/\∃F',Dv w0 w' bd (wrP A J b i).2 F F' ((l,.loop lo)::(b4,Bl 28 [.int .i64 0])::L)/\¬F' bx/\bx<w'.heap.size)
  (fun w'=>(wrP A J b (blk b.length - 1)).1≠0/\∃F',Dv w0 w' bd (wrP A J b (blk b.length - 1)).2 F F' ((l,.loop { lo with state := .done,pending:=some .ret })::(b4,Bl 28 [.int .i64 (wrP A J b (blk b.length - 1)).1])::L)) ?_ ?_ ?_) ?_
 .exact⟨rfl,F,D2,hnew _ (by have h1:=hx11.size;have h2:=H.ext.size;omega),Al hbx2⟩
 .rintro i w' w'' ⟨he,F',D,hnb,hlb⟩ hx;refine⟨he,F',D.other hx (by omega) hnb fun x hx'=>⟨?_,D.off x hx'⟩,hnb,by have:=hx.size;omega⟩;rw[hx.block x.1 (Al (D.blk x hx')) (by simpa using hneX _ _ x hx')];exact D.blk x hx'
 .rintro i ai ci w' hi ⟨he,F',D,hnb,hlb⟩ Rc hai ⟨a9,n9,c9,hbx9⟩;have hcl:=Mw b i;have hw0':=D.turn.size
  obtain⟨Lb,hLb,hLa⟩:∃Lb:List (Nat × Obj),(∀x∈Lb,w'.heap[x.1]?=some x.2/\¬F' x.1/\x.1<w0.heap.size)/\(b=[]\/∃o,((adr a).block,o)∈Lb):=by
   rcases hbl with h0|h0
   .exact⟨[],by simp,.inl h0⟩
   .by_cases hbe:b=[]
    .exact⟨[],by simp,.inl hbe⟩
    .obtain⟨o,ho⟩:∃o,w'.heap[(adr a).block]?=some o:=⟨_,Array.getElem?_eq_getElem (by omega)⟩;refine⟨[((adr a).block,o)],fun x hx=>?_,.inr ⟨o,qae ..⟩⟩;rw[qaa.1 hx];exact⟨ho,fun hF=>(D.own _ hF).elim (hFa.resolve_left hbe) fun h=>by omega,h0⟩
  have hneL:∀(o2:Obj),∀x∈(b4,o2)::(bx,Bl 24 [.slice a9 n9 c9])::(Lb++L),x.1≠l:=by
   intro o2 x hx;rw[hL]at hx;simp only[qab,qau,qaj,or_false]at hx
   rcases hx with rfl|rfl|hx|rfl|rfl|rfl
   .dsimp only;omega
   .dsimp only;omega
   .have:=(hLb x hx).2.2;omega
   .dsimp only;omega
   .dsimp only;omega
   .dsimp only;omega
  have hneL4:∀(o1:Obj),∀x∈(l,o1)::(bx,Bl 24 [.slice a9 n9 c9])::(Lb++L),x.1≠b4:=by
   intro o2 x hx;rw[hL]at hx;simp only[qab,qau,qaj,or_false]at hx
   rcases hx with rfl|rfl|hx|rfl|rfl|rfl
   .dsimp only;omega
   .dsimp only;omega
   .have:=(hLb x hx).2.2;omega
   .dsimp only;omega
   .dsimp only;omega
   .dsimp only;omega
  have DL:Dv w0 w' bd (wrP A J b i).2 F F' ((l,.loop lo)::(b4,Bl 28 [.int .i64 0])::(bx,Bl 24 [.slice a9 n9 c9])::(Lb++L)):=by
   refine⟨D.dev,D.turn,D.own,D.lt,fun x hx=>?_,fun x hx=>?_⟩
   .simp only[qab,qau]at hx
    rcases hx with rfl|rfl|rfl|hx|hx
    .exact D.blk _ (qae ..)
    .exact D.blk _ (qag _ (qae ..))
    .exact hbx9
    .exact(hLb x hx).1
    .exact D.blk _ (qag _ (qag _ hx))
   .simp only[qab,qau]at hx
    rcases hx with rfl|rfl|rfl|hx|hx
    .exact D.off _ (qae ..)
    .exact D.off _ (qag _ (qae ..))
    .exact hnb
    .exact(hLb x hx).2.1
    .exact D.off _ (qag _ (qag _ hx))
  have hout:∀(o1 o2:Obj) {wz:World} {Az:Dev} {Fz:Nat->Prop},Dv w0 wz bd Az F Fz ((l,o1)::(b4,o2)::(bx,Bl 24 [.slice a9 n9 c9])::(Lb++L))->wz.heap[bx]?=w'.heap[bx]? /\ (b=[]\/wz.heap[(adr a).block]?=w'.heap[(adr a).block]?)/\Dv w0 wz bd Az F Fz ((l,o1)::(b4,o2)::L)/\¬Fz bx/\bx<wz.heap.size:=by
   intro o1 o2 wz Az Fz Dz;have hm:(bx,Bl 24 [.slice a9 n9 c9])∈(l,o1)::(b4,o2)::(bx,Bl 24 [.slice a9 n9 c9])::(Lb++L):=by simp
   refine⟨(Dz.blk _ hm).trans hbx9.symm,?_,Dz.sub ?_,Dz.off _ hm,Al (Dz.blk _ hm)⟩
   .rcases hLa with h0|⟨o,ho⟩
    .exact .inl h0
    right;rw[(hLb _ ho).1];exact Dz.blk ((adr a).block,o) (qag _ (qag _ (qag _ (qa4 _ ho))))
   .intro x hx;simp only[qab,qau]at hx |-
    rcases hx with h|h|h
    .exact .inl h
    .exact .inr (.inl h)
    .exact .inr (.inr (.inr (.inr h)))
  have hlo1:lo.state=.ready:=by rw[hlo]
  have hlo3:lo.pending=none:=by rw[hlo]
  have hll:¬F' l:=D.off _ (qae ..);have hl0:w0.heap.size<=l:=by omega
  have hDL:∀x∈(b4,Bl 28 [.int .i64 0])::(bx,Bl 24 [.slice a9 n9 c9])::(Lb++L),w'.heap[x.1]?=some x.2/\¬F' x.1:=fun x hx=>⟨DL.blk x (qag _ hx),DL.off x (qag _ hx)⟩;subst hlo;refine Km (DL.blk _ (qae ..)) U (HR _ (Nn hts htm) ?_);refine Ad (Ac U (qA (Av (Aj U (Ab (Ky (DL.blk _ (qae ..)) U ?_))))));intro wR lo2 hxR hlR hlo2
  have D1:Dv w0 wR bd (wrP A J b i).2 F F' ((l,.loop lo2)::(b4,Bl 28 [.int .i64 0])::(bx,Bl 24 [.slice a9 n9 c9])::(Lb++L)):=DL.other hxR hl0 hll fun x hx=>by
   rcases qab.1 hx with rfl|hx
   .exact⟨hlR,hll⟩
   .exact⟨by rw[hxR.block x.1 (Al (hDL x hx).1) (by simpa using hneL _ x hx)];exact(hDL x hx).1,(hDL x hx).2⟩
  have RR:Rd wR ai 1 B8 (Cp b i):=by
   rcases hbl with h0|h0
   .rw[Cp,h0];simp only[List.drop_nil,List.take_nil];exact Rd.nil
   .exact Rc.ext hxR (by rw[hai];simp;omega)
  have hmj:∀(o1 o2:Obj),(bj,Bl TJ (JB bd J))∈(l,o1)::(b4,o2)::(bx,Bl 24 [.slice a9 n9 c9])::(Lb++L):=fun o1 o2=>by simp[hL]
  have hm2:∀(o1 o2:Obj),(b2,Bl 81 [ptr bj])∈(l,o1)::(b4,o2)::(bx,Bl 24 [.slice a9 n9 c9])::(Lb++L):=fun o1 o2=>by simp[hL]
  have hm4:∀(o1 o2:Obj),(b4,o2)∈(l,o1)::(b4,o2)::(bx,Bl 24 [.slice a9 n9 c9])::(Lb++L):=fun o1 o2=>by simp
  have hjR:=D1.blk _ (hmj _ _)
  have hnx:wrP A J b (i+1)=(N5 (wrP A J b i).2 J i 1 (CM J.seq i (Cp b i)),JI (wrP A J b i).2 J i 1 (CM J.seq i (Cp b i))):=by
   have h9:wrP A J b (i+1)=if(wrP A J b i).1=0 then(N5 (wrP A J b i).2 J i 1 (CM J.seq i (Cp b i)),JI (wrP A J b i).2 J i 1 (CM J.seq i (Cp b i)))else wrP A J b i:=rfl;rw[h9,if_pos he]
  refine AD (BR [([0,1,2,3,4],5),([],6),([],7)] (fun z=>z.heap[b2]?=some (Bl 81 [ptr bj])) [] mixed (D1.blk _ (hm2 _ _)) ?_);refine AB U U (BJ LM U (fun _ hx=>Ap hx 0) ?_);refine BM U (BJ LM U (fun _ hx=>Ap hx 0) ?_);refine BM U (Cg U (Bm ?_))
  skip
  refine Ah qB (RG (show(World.drew wR).heap[bj]?=_ from hjR) hJ i ai ci _ (Cp b i) (RR.ext0 (Ext.drew [] wR)) U (hm:=by omega)) U ?_;rintro v w5 F19;obtain⟨a19,c19,rfl,R19,hc19⟩:=Fresh.rdB F19;have D5:=(D1.call (Ext.drew [] wR)).call F19.ext;refine Ab (Bb (D5.blk _ (hm2 _ _)) (AB U U ?_));refine Bm (Ah qB (ZH (D5.blk _ (hmj _ _)) hJ i 1 a19 c19 _ (CM J.seq i (Cp b i)) R19 U (by rw[Mu];omega) D5.lt (D5.off _ (hmj _ _)) (NC hfew i) D5.dev) U ?_);rintro v w6 ⟨rfl,DA6,hT6⟩;have D6:=D5.step DA6 hT6;refine Ab (Bb (D6.blk _ (hm2 _ _)) (AB U U ?_));refine Bm (Ac U (Ab (Bb (D6.blk _ (hm2 _ _)) (B3 (Ad (Ae U (AZ U U (qA (Au _ U ?_ ?_)))))))))
  .intro g;replace g:=Bu g;replace H:=Ctx.start1 (D6.blk _ (hm4 _ _));refine Ad (Ae U (Bc (.int _ _) Fw U U U H at0 (by decide) ?_));rintro w H;refine qA (Ax (AL ?_));have hx8:=H.ext;have h4o:=D6.off _ (hm4 _ _)
   have D8:Dv w0 w bd (JI (wrP A J b i).2 J i 1 (CM J.seq i (Cp b i))) F _ ((l,.loop lo2)::(b4,Bl 28 [.int .i64 (N5 (wrP A J b i).2 J i 1 (CM J.seq i (Cp b i)))])::(bx,Bl 24 [.slice a9 n9 c9])::(Lb++L)):=D6.other hx8 ho4 h4o fun x hx=>by
    have hx0:x=(b4,Bl 28 [.int .i64 (N5 (wrP A J b i).2 J i 1 (CM J.seq i (Cp b i)))])\/x∈(l,Obj.loop lo2)::(bx,Bl 24 [.slice a9 n9 c9])::(Lb++L):=by
     simp only[qab]at hx |-
     rcases hx with h|h|h
     .exact .inr (.inl h)
     .exact .inl h
     .exact .inr (.inr h)
    rcases hx0 with rfl|hx0
    .exact⟨H.get at0,h4o⟩
    .have hx1:x∈(l,Obj.loop lo2)::(b4,Bl 28 [.int .i64 0])::(bx,Bl 24 [.slice a9 n9 c9])::(Lb++L):=by
      simp only[qab]at hx0 |-
      rcases hx0 with h|h
      .exact .inl h
      .exact .inr (.inr h)
     exact⟨by rw[hx8.block x.1 (Al (D6.blk x hx1)) (by simpa using hneL4 _ x hx0)];exact D6.blk x hx1,D6.off x hx1⟩
   refine⟨lo2,D8.blk _ (qae ..),?_⟩;have hx9:=Ext.setB w l (.loop { lo2 with state := .done,pending:=some .ret })
   have D9:Dv w0 (w.putObj l (.loop { lo2 with state := .done,pending:=some .ret })) bd (JI (wrP A J b i).2 J i 1 (CM J.seq i (Cp b i))) F _ ((l,.loop { lo2 with state := .done,pending:=some .ret })::(b4,Bl 28 [.int .i64 (N5 (wrP A J b i).2 J i 1 (CM J.seq i (Cp b i)))])::(bx,Bl 24 [.slice a9 n9 c9])::(Lb++L)):=D8.other hx9 hl0 (D8.off _ (qae ..)) fun x hx=>by
    rcases qab.1 hx with rfl|hx
    .exact⟨HC (D8.blk _ (qae ..)),D8.off (l,.loop lo2) (qae ..)⟩
    .have hx1:=qag (l,Obj.loop lo2) hx;exact⟨by rw[hx9.block x.1 (Al (D8.blk x hx1)) (by simpa using hneL _ x hx)];exact D8.blk x hx1,D8.off x hx1⟩
   obtain⟨g1,g2,g3,_,_⟩:=hout _ _ D9;have hst:wrP A J b (blk b.length - 1)=wrP A J b (i+1):=WI (by rw[hnx];exact g) _ (by omega);rw[hst,hnx];subst hlo2;exact⟨g1,g2,false,rfl,(fun h=>by cases h),fun _=>⟨g,_,g3⟩⟩
  .intro g;replace g:=Bv g;refine Aq (AF (HJ (D6.blk _ (qae ..)) hlo2 U U ?_));intro wF hxF hlF
   have D9:=D6.other (L':=(l,_)::(b4,Bl 28 [.int .i64 0])::(bx,Bl 24 [.slice a9 n9 c9])::(Lb++L)) hxF hl0 (D6.off _ (qae ..)) fun x hx=>by
    rcases qab.1 hx with rfl|hx
    .exact⟨hlF,D6.off (l,.loop lo2) (qae ..)⟩
    .have hx1:=qag (l,Obj.loop lo2) hx;exact⟨by rw[hxF.block x.1 (Al (D6.blk x hx1)) (by simpa using hneL _ x hx)];exact D6.blk x hx1,D6.off x hx1⟩
   obtain⟨g1,g2,g3,g4,g5⟩:=hout _ _ D9;refine⟨g1,g2,true,rfl,fun _=>⟨by rw[hnx];exact g,_,by rw[hnx];exact g3,g4,g5⟩,fun h=>by cases h⟩
 .have hmD:(Db,Obj.deferred (some []))∈L:=by simp[hL]
  have hmJ:(bj,Bl TJ (JB bd J))∈L:=by simp[hL]
  have hm2:(b2,Bl 81 [ptr bj])∈L:=by simp[hL]
  have hneL:∀(o2:Obj),∀x∈(b4,o2)::L,x.1≠l:=by
   intro o2 x hx;rw[hL]at hx;simp only[qab,qaj,or_false]at hx
   rcases hx with rfl|rfl|rfl|rfl <;> (dsimp only;omega)
  have hneL4:∀x∈L,x.1≠b4:=by
   intro x hx;rw[hL]at hx;simp only[qab,qaj,or_false]at hx
   rcases hx with rfl|rfl|rfl <;> (dsimp only;omega)
  have hl0:w0.heap.size<=l:=by omega
  have hD0:w0.heap.size<=Db:=by omega
  have hjD:bj≠Db:=by omega
  have h4D:b4≠Db:=by omega
  have hswap:∀{w3 w4:World} {A':Dev} {F':Nat->Prop} {o1 o2:Obj},Dv w0 w3 bd A' F F' ((l,o1)::(b4,o2)::L)->Ext [l] w3 w4->Dv w0 w4 bd A' F F' ((b4,o2)::L):=fun{w3 w4 A' F' o1 o2} D hx =>
   D.other hx hl0 (D.off (l,o1) (qae ..)) fun x hx'=>⟨by rw[hx.block x.1 (Al (D.blk x (qag _ hx'))) (by simpa using hneL _ x hx')];exact D.blk x (qag _ hx'),D.off x (qag _ hx')⟩
  rintro v w3 (⟨he,F',D,hnb,hlb⟩|⟨he,F',D⟩)
  .refine⟨_,D.blk _ (qae ..),by rw[hlo];exact(fun h=>by cases h),Hj (by rw[hlo]) ?_⟩;have hx4:=Ext.setB w3 l (.loop { lo with state := .exhausted });generalize w3.putObj l (.loop { lo with state := .exhausted })=w4 at hx4 |-;replace D:=hswap D hx4;refine AF (Aa ?_);have hfP:=NC (J:=J) (b:=b) hfew (blk b.length - 1);have hmc:∀{x:Nat × Obj} {o2:Obj},x∈L->x∈(b4,o2)::L:=fun h=>qag _ h
   have hset:∀{w5 w6:World} {A':Dev} {F':Nat->Prop} {o1 o2:Obj},Dv w0 w5 bd A' F F' ((b4,o1)::L)->Ext [b4] w5 w6->w6.heap[b4]?=some o2->Dv w0 w6 bd A' F F' ((b4,o2)::L):=fun{w5 w6 A' F' o1 o2} D hx h4 =>
    D.other hx ho4 (D.off (b4,o1) (qae ..)) fun x hx'=>by
     rcases qab.1 hx' with rfl|hx'
     .exact⟨h4,D.off (b4,o1) (qae ..)⟩
     .exact⟨by rw[hx.block x.1 (Al (D.blk x (hmc hx'))) (by simpa using hneL4 x hx')];exact D.blk x (hmc hx'),D.off x (hmc hx')⟩
   refine Ar (Ad (Bf LM U (Ap (D.blk _ (hmc hm2)) 0) ?_));refine Ay U (Af MS U (Bf CY U (Ap (D.blk _ (hmc hmJ)) (0+0)) ?_));refine Ah qB (Ln hfP D.dev) U ?_;rintro v w5 ⟨rfl,DA5,hT5⟩;have D5:=D.same DA5 hT5;refine Ac U (qA (Ad (Ae U (AZ U U (qA (Au _ U ?_ ?_))))))
   .intro g2;replace g2:=Bu g2;replace H:=Ctx.start1 (D5.blk _ (qae ..));refine Ad (Ae U (Bc (.int _ _) Fw U U U H at0 (by decide) ?_));rintro w H;refine qA (Ax (Ao (NA U U (Marks.mono ?_ (JJ (hset D5 H.ext (H.get at0)) U hmD hD0 hmJ hjD h4D)))));rintro w6 ⟨v,hv,rfl,hF⟩;refine⟨_,hv,?_,?_⟩
    .rw[CN,if_pos he,if_neg g2]
    .rw[CN,if_pos he,if_neg g2];exact hF
   .intro g2;replace g2:=Bv g2;refine Aq (Aa (Ar (BR [([0,1,2,5,6],3),([4],7),([],8),([],9)] (fun z=>z.heap[b2]?=some (Bl 81 [ptr bj])) [] mixed (D5.blk _ (hmc hm2)) ?_)));refine AB U U (BJ LM U (fun _ hx=>Ap hx 0) ?_);refine Cg U (Qh AW U (BJ LM U (fun _ hx=>Ap hx 0) ?_));refine Cg U (Bm ?_)
    skip
    refine Ah qB (FN (b.length:Int) _) U ?_;rintro v wB ⟨rfl,rfl⟩;rw[Il];refine Ab (Bb (D5.blk _ (hmc hm2)) (AB U U ?_));refine HD U U U ?_;rw[show((blk b.length:Int) - 1)=((blk b.length - 1:Nat):Int)by omega];refine Bm (Ah qB (Ag4 (show(World.drew w5).heap[bj]?=_ from D5.blk _ (hmc hmJ)) hJ a c _ b U) U ?_);rintro v w6 F39;obtain⟨a39,c39,rfl,R39,hc39⟩:=Fresh.rdB F39;have D6:=(D5.call (Ext.drew [] w5)).call F39.ext;refine Ab (Bb (D6.blk _ (hmc hm2)) (AB U U ?_));refine Bm (Ah qB (ZH (D6.blk _ (hmc hmJ)) hJ (blk b.length - 1) 2 a39 c39 _ (Gv J.seq b) R39 U (by rw[WA];decide) D6.lt (D6.off _ (hmc hmJ)) (HI hfP) D6.dev) U ?_);rintro v w7 ⟨rfl,DA7,hT7⟩;have D7:=D6.step DA7 hT7;refine Ab (Bb (D7.blk _ (hmc hm2)) (AB U U ?_))
    refine Bm (Ac U (Ab (Bb (D7.blk _ (hmc hm2)) (B3 (Ad (Ae U (AZ U U (qA (Au _ U ?_ ?_)))))))))
    .intro g3;replace g3:=Bu g3;replace H:=Ctx.start1 (D7.blk _ (qae ..));refine Ad (Ae U (Bc (.int _ _) Fw U U U H at0 (by decide) ?_));rintro w H;refine qA (Ax (Ao (NA U U (Marks.mono ?_ (JJ (hset D7 H.ext (H.get at0)) U hmD hD0 hmJ hjD h4D)))));rintro w8 ⟨v,hv,rfl,hF⟩;refine⟨_,hv,?_,?_⟩
     .rw[CN,if_pos he,if_pos g2,if_neg g3]
     .rw[CN,if_pos he,if_pos g2,if_neg g3];exact hF
    .intro g3;replace g3:=Bv g3;refine Aq (Aa (Ad (Bf LM U (Ap (D7.blk _ (hmc hm2)) 0) ?_)));refine Ay U (Af MS U (Bf CY U (Ap (D7.blk _ (hmc hmJ)) (0+0)) ?_));refine Ah qB (Ln (GI (HI hfP) _ _) D7.dev) U ?_;rintro v w8 ⟨rfl,DA8,hT8⟩;have D8:=D7.same DA8 hT8;replace H:=Ctx.start1 (D8.blk _ (qae ..));refine Bc (.int _ _) Fw U U U H at0 (by decide) ?_;rintro w H;refine qA (Ax (NA U U (Marks.mono ?_ (JJ (hset D8 H.ext (H.get at0)) U hmD hD0 hmJ hjD h4D))));rintro w9 ⟨v,hv,rfl,hF⟩;refine⟨_,hv,?_,?_⟩
     .rw[CN,if_pos he,if_pos g2,if_pos g3];rfl
     .rw[CN,if_pos he,if_pos g2,if_pos g3];exact hF
  .refine⟨_,D.blk _ (qae ..),(fun h=>by cases h),YA U ?_⟩;have hx4:=Ext.setB w3 l (.loop { lo with state := .exhausted,pending:=some .ret });generalize w3.putObj l (.loop { lo with state := .exhausted,pending:=some .ret })=w4 at hx4 |-;replace D:=hswap D hx4;refine AL (Ao (NA U U (Marks.mono ?_ (JJ D U hmD hD0 hmJ hjD h4D))));rintro w6 ⟨v,hv,rfl,hF⟩;refine⟨_,hv,?_,?_⟩
   .rw[CN,if_neg he]
   .rw[CN,if_neg he];exact hF
end Go.Proofs.YtcpgbcabmcbclaaGreatDoor
