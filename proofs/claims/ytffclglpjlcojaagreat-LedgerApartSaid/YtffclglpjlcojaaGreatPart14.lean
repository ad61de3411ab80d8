/- Part 14 of the proof. The last text: LedgerApart: for every input the law answers true, and turns nothing. -/
import Derived.Test.YtffclglpjlcojaaGreatPart13
set_option maxRecDepth 20000
set_option maxHeartbeats 4000000
namespace Go.Proofs.YtffclglpjlcojaaGreat
open Go.GV Go.Proofs.Tryz
def G6(k:Ak):Prop:=(k.kd=2\/k.kd=3\/k.kd=4)\/k.kd=6\/k.kd=7
theorem De{s:Ld}{k:Ak}(h:k.kd=2\/k.kd=3\/k.kd=4):Et s k={ s with acs:=FR k.kd s.acs k.a k.x }/\ET s k=rp (MG (FR k.kd s.acs k.a k.x) k.a) (Fm k.kd s.acs k.a k.x):=by
 unfold Et ET FR Fm
 rcases h with h|h|h <;> simp[h]
theorem DG{s:Ld}{k:Ak}(h:k.kd=6\/k.kd=7):Et s k={ s with ds:=FQ s.ds k.id (decide (k.kd=6)) }/\ET s k=rp [] (HS s.ds k.id (decide (k.kd=6))):=by
 unfold Et ET
 rcases h with h|h <;> simp[h]
theorem YS{s s1 s2 s3 s4:Ld}{a b:Ak}{p1 p2 p3 p4:Rp}(ha:G6 a)(hb:G6 b)(S1:Cr s a s1 p1)(S2:Cr s1 b s2 p2)(S3:Cr s b s3 p3)(S4:Cr s3 a s4 p4)(h1:a.kd<=4->b.kd<=4->a.a≠b.a:=by omega)(h2:4<a.kd->4<b.kd->a.id≠b.id:=by omega)(n1:p1.e≠13:=by omega)(n2:p2.e≠13:=by omega)(n3:p3.e≠13:=by omega)(n4:p4.e≠13:=by omega):s2=s4/\p1=p4/\p2=p3:=by
 have na:¬(a.kd=10\/a.kd=11):=by unfold G6 at ha;omega
 have nb:¬(b.kd=10\/b.kd=11):=by unfold G6 at hb;omega
 obtain⟨rfl,rfl⟩:=Dl S1 (hk:=na);obtain⟨rfl,rfl⟩:=Dl S2 (hk:=nb);obtain⟨rfl,rfl⟩:=Dl S3 (hk:=nb);obtain⟨rfl,rfl⟩:=Dl S4 (hk:=na);clear S1 S2 S3 S4
 rcases ha with ha|ha
 .rcases hb with hb|hb
  .have hk:b.a≠a.a:=fun e=>h1 (by omega) (by omega) e.symm;rw[(De ha).1,(De hb).1,(De hb).1,(De ha).1];rw[(De ha).1]at n2;rw[(De hb).1]at n4;rw[(De ha).2,rp_e]at n1;rw[(De hb).2,rp_e]at n2 n3;rw[(De ha).2,rp_e]at n4;rw[(De ha).2,(De hb).2,(De hb).2,(De ha).2];obtain⟨c1,c2,c3⟩:=YB hk n1 n2 n3 n4;obtain⟨e1,e2⟩:=GL (kd:=b.kd) (acs:=s.acs) (x:=b.x) (Ne.symm hk);obtain⟨e3,e4⟩:=GL (kd:=a.kd) (acs:=s.acs) (x:=a.x) hk;obtain⟨e5,e6⟩:=GL (kd:=b.kd) (acs:=FR a.kd s.acs a.a a.x) (x:=b.x) (Ne.symm hk);obtain⟨e7,e8⟩:=GL (kd:=a.kd) (acs:=FR b.kd s.acs b.a b.x) (x:=a.x) hk;dsimp only;rw[c1,c2,c3];refine⟨rfl,?_,?_⟩
   .rw[<-c3];unfold MG;rw[e6]
   .unfold MG;rw[e8]
  .rw[(De ha).1,(DG hb).1,(DG hb).1,(De ha).1,(De ha).2,(DG hb).2,(DG hb).2,(De ha).2];exact⟨rfl,rfl,rfl⟩
 .rcases hb with hb|hb
  .rw[(DG ha).1,(De hb).1,(De hb).1,(DG ha).1,(DG ha).2,(De hb).2,(De hb).2,(DG ha).2];exact⟨rfl,rfl,rfl⟩
  .have hk:a.id≠b.id:=h2 (by omega) (by omega);rw[(DG ha).1,(DG hb).1,(DG hb).1,(DG ha).1,(DG ha).2,(DG hb).2,(DG hb).2,(DG ha).2];dsimp only;rw[JQ (Ne.symm hk),JQ hk,YD (Ne.symm hk)];exact⟨rfl,rfl,rfl⟩
attribute [local irreducible] AG W Wq Wt
instance (k:Ak):Decidable (G6 k):=by unfold G6;infer_instance
theorem Rz(k:Ak)(w:World):Ret prog 6 #[.agg (BA k).toArray] w fun v w'=>v=.bool (decide (G6 k))/\Ext [] w w':=by
 obtain⟨w0,rfl,H⟩:=qE w;refine Ay (fn:=Tryz.f6) func6 U [.agg (BA k).toArray] U (Ad (Br (BA k) (.agg _) U U H ?_));rintro b1 w - H;refine Ai U (qA (Ad (Ah EA U (AB Km U H at0 U (BP U U (Aw U (AK 6 U ?_ ?_)))))))
 .intro h1;replace h1:=AM h1;refine Ag U (Ag U (Ag U (A6 U (.bool _) U (Aw U (Ag U (Ag U (Ag U (A6 U (.bool _) U (Aw U ?_)))))))));refine Ag U (Ag U (Ag U (A6 U (.bool _) U (Aw U (Ag U (Ag U (Ag U (A6 U (.bool _) U (Ai U ?_)))))))));refine qA (A7 (AD (v:=(.bool _)) U U U ?_));exact⟨qaa Value.bool (by unfold G6;rw[qad];simp_all;try omega),H.ext⟩
 .intro h2;replace h2:=AN h2;refine Ah EA U (AB Km U H at0 U (BP U U (A9 U (.bool _) U (Aw U (AK 11 U ?_ ?_)))))
  .intro h3;replace h3:=AM h3;refine Ag U (Ag U (Ag U (A6 U (.bool _) U (Aw U (Ag U (Ag U (Ag U (A6 U (.bool _) U (Aw U ?_)))))))));refine Ag U (Ag U (Ag U (A6 U (.bool _) U (Ai U (qA (A7 (AD (v:=(.bool _)) U U U ?_)))))));exact⟨qaa Value.bool (by unfold G6;rw[qad];simp_all;try omega),H.ext⟩
  .intro h4;replace h4:=AN h4;refine Ah EA U (AB Km U H at0 U (BP U U (A9 U (.bool _) U (Aw U (AK 16 U ?_ ?_)))))
   .intro h5;replace h5:=AM h5;refine Ag U (Ag U (Ag U (A6 U (.bool _) U (Aw U (Ag U (Ag U (Ag U (A6 U (.bool _) U (Ai U ?_)))))))));refine qA (A7 (AD (v:=(.bool _)) U U U ?_));exact⟨qaa Value.bool (by unfold G6;rw[qad];simp_all;try omega),H.ext⟩
   .intro h6;replace h6:=AN h6;refine Ah EA U (AB Km U H at0 U (BP U U (A9 U (.bool _) U (Aw U (AK 21 U ?_ ?_)))))
    .intro h7;replace h7:=AM h7;refine Ag U (Ag U (Ag U (A6 U (.bool _) U (Ai U (qA (A7 (AD (v:=(.bool _)) U U U ?_)))))));exact⟨qaa Value.bool (by unfold G6;rw[qad];simp_all;try omega),H.ext⟩
    .intro h8;replace h8:=AN h8;refine Ah EA U (AB Km U H at0 U (BP U U (A9 U (.bool _) U (Ai U (qA (A7 (AD (v:=(.bool _)) U U U ?_)))))));exact⟨qaa Value.bool (by unfold G6;rw[qad];simp_all;try omega),H.ext⟩
def sameRp(p q:Rp):Prop:=p.e=q.e/\p.n=q.n
theorem R9(e:Int)(l:List Int)(a b:Option Addr)(c d:Nat)(w:World)(R:Rd w a 1 I1 l)(R':Rd w b 1 I1 l)(hl:l.length<=1000000:=by omega):
  Ret prog 10 #[.agg #[.int .i64 e,.slice a l.length c],.agg #[.int .i64 e,.slice b l.length d]] w fun v w'=>v=.bool true/\Ext [] w w':=by
 obtain⟨w0,rfl,H⟩:=qE w;refine Ay (fn:=f10) func10 U [.agg #[.int .i64 e,.slice a l.length c],.agg #[.int .i64 e,.slice b l.length d]] U (Ad (Br [.int .i64 e,.slice a l.length c] (.agg _) U U H ?_));rintro b2 w - H;refine Br [.int .i64 e,.slice b l.length d] (.agg _) U U H ?_;rintro b3 w - H;refine Ai U (qA (Ao (Ad (Ah EB U (AB Hd U H at1 U (Ah EB U (AB Hd U H at0 U (Cv U U ?_))))))));rw[show decide (e=e)=true from qar rfl];refine Aw U (Ah FU U (AB BN U H at1 U (Ba AV U (Ah FU U (AB BN U H at0 U (Ba AV U (Cv U U ?_)))))));rw[show decide ((l.length:Int)=(l.length:Int))=true from qar rfl]
 refine A9 U (.bool _) U (qA (F2 U (Aq (Aa (Ao (Ad (Ae U (qA (A1 (Bt 274876858416 (α:=Nat) (fun i=>[(5,.int .i64 (i:Int))]) (fun i w'=>i<=l.length/\Ctx w0 [] w' [(b3,Bl 33 [.int .i64 e,.slice b l.length d]),(b2,Bl 33 [.int .i64 e,.slice a l.length c])]) (fun i=>l.length - i) 0 U ?_ ?_ ?_))))))))))
 .exact⟨rfl,trivial⟩
 .exact⟨qaj _,H⟩
 .clear H;rintro i j w ⟨hi,H⟩;refine Ao (Ad (Af U (Ah FU U (AB BN U H at1 U (Ba AV U (Bm U U (qA (An _ U ?_ ?_))))))))
  .intro h1;replace h1:=AM h1;obtain⟨x,hx⟩:=AA (l:=l) (i:=i);refine Aq (Aa (Ao (A1 (Dw (fun x=>x=_) Bq U ?_))));refine A5 FU U (Cc BN U (by rintro _ rfl;exact H.drew) at1 U ?_);refine AX U (BH (R.ext0 H.drew.ext) AV B2 U U (by rfl) ?_);refine BX Bw U (by rintro _ rfl;exact(((R.ext0 H.drew.ext).fld hx rfl (j:=0) rfl))) ?_;refine A5 FU U (Cc BN U (by rintro _ rfl;exact H.drew) at0 U ?_);refine AX U (BH (R'.ext0 H.drew.ext) AV B2 U U (by rfl) ?_);refine BX Bw U (by rintro _ rfl;exact(((R'.ext0 H.drew.ext).fld hx rfl (j:=0) rfl))) ?_;refine Md U U (BT ?_);rintro _ rfl;replace H:=H.drew;refine An _ U ?_ ?_
   .intro h2;replace h2:=Cy h2;exact absurd h2 (by simp)
   .intro h2;replace h2:=Cz h2;refine Aq (A8 (Aa (A0 (Af U (Az U U ?_)))));refine Ae U (qA ?_);exact⟨i+1,rfl,⟨rfl,trivial⟩,⟨by omega,H⟩,by omega⟩
  .intro h1;replace h1:=AN h1;refine Bp (Am (Am (AO (Aa (Ad (Ai U (qA (A7 (AD (v:=(.bool _)) U U U ?_)))))))));exact⟨rfl,H.ext⟩
structure Led2(b1 b2:Nat)(w0 w:World)(B:List (Nat × Obj))(m1 m2:Lm)(s1 s2:Ld)(T:Nat->Prop):Prop where
 L:Led b1 w0 w (B++LL m2 s2) m1 s1 T
 I:LdIn w m2 s2 T
 e:m2.bl=b2
section
variable {b1 b2:Nat}{w0 w w':World}{B F:List (Nat × Obj)}{m1 m2:Lm}{s1 s2:Ld}{T:Nat->Prop}
theorem Led2.swap(h:Led2 b1 b2 w0 w B m1 m2 s1 s2 T):Led2 b2 b1 w0 w B m2 m1 s2 s1 T :=
 ⟨⟨h.L.H.perm (by rw[qaz,qaz];exact List.Perm.append_left _ qcv),h.I,h.e⟩,h.L.I,h.L.e⟩
theorem Led2.next(h:Led2 b1 b2 w0 w B m1 m2 s1 s2 T)(H:Ctx w [] w' F):Led2 b1 b2 w0 w' (F++B) m1 m2 s1 s2 T :=
 ⟨by rw[qaz];exact h.L.next H,h.I.grow H.ext (fun x hx=>by cases hx) (Grows.refl _ _) (fun x ht=>qaw (h.I.low x ht) H.size),h.e⟩
theorem Led2.call(h:Led2 b1 b2 w0 w B m1 m2 s1 s2 T)(hx:Ext [] w w'):Led2 b1 b2 w0 w' B m1 m2 s1 s2 T:=h.next ((Ctx.start w []).call hx)
theorem Led2.own(h:Led2 b1 b2 w0 w B m1 m2 s1 s2 T):∀x∈B,w.heap[x.1]?=some x.2:=fun x hx=>h.L.H.blk x (qao _ (qao _ hx))
theorem Led2.drop(h:Led2 b1 b2 w0 w B m1 m2 s1 s2 T):Led2 b1 b2 w0 w [] m1 m2 s1 s2 T :=
 ⟨⟨by have H:=h.L.H;rw[qaz]at H;exact H.right,h.L.I,h.L.e⟩,h.I,h.e⟩
theorem Lj{k:Ak}(h:Led2 b1 b2 w0 w B m1 m2 s1 s2 T)(hin:AkIn k) :
  Ret prog 9 #[ptr b1,.agg (BA k).toArray] w fun v w'=>∃a c full p s' m' T',v=.agg #[.int .i64 p.e,.slice a p.n.length c]/\OS a p.n.length c 1 full (p.n.map Dj)/\Cr s1 k s' p/\Led2 b1 b2 w0 w' (ent a 2 full++B) m' m2 s' s2 T':=by
 refine Ret.mono (F1 h.L hin) ?_;rintro v w' ⟨a,n,c,full,p,s',m',T',rfl,O,hst,L3,g,hx⟩;obtain rfl:n=p.n.length:=by have:=O.llen;rw[qak]at this;omega
 exact⟨a,c,full,p,s',m',T',rfl,O,hst,by rw[qaz];exact L3,h.I.grow hx (fun x hx => .inl (h.L.I.own x hx)) g L3.I.low,h.e⟩
theorem Ad3(L:Led b1 w0 w [] m1 s1 T) :
  Ret prog 8 #[] w fun v w'=>∃m2 T',v=ptr m2.bl/\Led2 b1 m2.bl w0 w' [] m1 m2 s1 s00 T':=by
 refine Ret.mono (MK w) ?_;rintro v w' ⟨m2,rfl,H2,I2⟩;have L2:=L.nextT H2;rw[qa3]at L2;exact⟨m2,_,rfl,L2,⟨I2.O,I2.M,I2.ok,I2.len,I2.n,I2.no,(fun r hr=>by cases hr),(fun x hx=>Or.inr hx),L2.I.low⟩,rfl⟩
end
theorem UB{s s':Ld}{k:Ak}{p:Rp}(h:Cr s k s' p)(hk:G6 k):p.n.length<=2:=by
 obtain⟨-,rfl⟩:=Dl h (hk:=by unfold G6 at hk;omega)
 rcases hk with hk|hk
 .rw[(De hk).2];unfold rp
  split <;> simp[MG]
 .rw[(DG hk).2];unfold rp
  split <;> simp
structure ApZ where
 i:Nat
 m1:Lm
 m2:Lm
 s:Ld
 T:Nat->Prop
theorem PL(a:Option Addr)(c:Nat)(ks:List Ak)(x y:Ak)(w:World)(R:Rd w a 7 BA ks)(hin:∀k∈ks,AkIn k)(hx0:AkIn x)(hy0:AkIn y):Ret prog 3 #[.slice a ks.length c,.agg (BA x).toArray,.agg (BA y).toArray] w fun v w'=>v=.bool true/\Ext [] w w':=by
 obtain⟨w0,rfl,H⟩:=qE w;refine Ay (fn:=Tryz.f3) func3 U [.slice a ks.length c,.agg (BA x).toArray,.agg (BA y).toArray] U (Ad (Br (BA x) (.agg _) U U H ?_));rintro b4 w - H;refine Br (BA y) (.agg _) U U H ?_;rintro b5 w - H;refine Ai U (qA (Ao (Ad (BV (α:=Unit) 2305843009213677568 (fun _=>[(60,.bool (decide ((80<(ks.length:Int)\/¬G6 x\/¬G6 y\/(x.kd<=4/\y.kd<=4/\x.a=y.a))\/(4<x.kd/\4<y.kd/\x.id=y.id))))]) (fun _ w'=>Ctx w0 [] w' [(b5,Bl 25 (BA y)),(b4,Bl 25 (BA x))]) U ?_ ?_))))
 .refine A2 U (Ba Gj U (CD U U (Aw U (AK 17 U ?_ ?_))))
  .intro h1;replace h1:=AM h1;refine Ag U (Ag U (Ag U (A6 U (.bool _) U (Aw U (Ag U (Ag U (Ag U (A6 U (.bool _) U (Aw U ?_)))))))));refine Ag U (Ag U (Ag U (Ag U (Ag U (Ag U (Ag U (Ag U (Ag U (Ag U ?_)))))))));refine Ag U (Ag U (Ag U (Ag U (Ag U (A6 U (.bool _) U (Aw U (Ag U (Ag U (Ag U ?_)))))))));refine Ag U (Ag U (Ag U (Ag U (Ag U (Ag U (Ag U (Ag U (Ag U (Ag U ?_)))))))));refine Ag U (Ag U (A6 U (.bool _) U (Ab ?_)));exact⟨rfl,(),rfl,⟨qaa Value.bool (by rw[qad];simp_all;try omega),trivial⟩,H⟩
  .intro h2;replace h2:=AN h2;refine Cj Ic EJ U H at1 U (Al qB (Rz x _) U ?_);rintro v w ⟨rfl,hx19⟩;replace H:=H.call hx19;refine BE U (A9 U (.bool _) U (Aw U (AK 22 U ?_ ?_)))
   .intro h3;replace h3:=B7 h3;refine Ag U (Ag U (Ag U (A6 U (.bool _) U (Aw U (Ag U (Ag U (Ag U (Ag U (Ag U ?_)))))))));refine Ag U (Ag U (Ag U (Ag U (Ag U (Ag U (Ag U (Ag U (Ag U (Ag U ?_)))))))));refine A6 U (.bool _) U (Aw U (Ag U (Ag U (Ag U (Ag U (Ag U (Ag U (Ag U (Ag U ?_)))))))));refine Ag U (Ag U (Ag U (Ag U (Ag U (Ag U (Ag U (A6 U (.bool _) U (Ab ?_))))))));exact⟨rfl,(),rfl,⟨qaa Value.bool (by rw[qad];simp_all;try omega),trivial⟩,H⟩
   .intro h4;replace h4:=B9 h4;refine Cj Ic EJ U H at0 U (Al qB (Rz y _) U ?_);rintro v w ⟨rfl,hx24⟩;replace H:=H.call hx24;refine BE U (A9 U (.bool _) U (Aw U (AK 27 U ?_ ?_)))
    .intro h5;replace h5:=B7 h5;refine Ag U (Ag U (Ag U (Ag U (Ag U (Ag U (Ag U (Ag U (Ag U (Ag U ?_)))))))));refine Ag U (Ag U (Ag U (Ag U (Ag U (A6 U (.bool _) U (Aw U (Ag U (Ag U (Ag U ?_)))))))));refine Ag U (Ag U (Ag U (Ag U (Ag U (Ag U (Ag U (Ag U (Ag U (Ag U ?_)))))))));refine Ag U (Ag U (A6 U (.bool _) U (Ab ?_)));exact⟨rfl,(),rfl,⟨qaa Value.bool (by rw[qad];simp_all;try omega),trivial⟩,H⟩
    .intro h6;replace h6:=B9 h6;refine Ah EA U (AB Km U H at1 U (Kc U U (Aw U (AK 31 U ?_ ?_))))
     .intro h7;replace h7:=AM h7;refine Ah EA U (AB Km U H at0 U (Kc U U (A6 U (.bool _) U (Aw U (AK 36 U ?_ ?_)))))
      .intro h8;replace h8:=AM h8;refine Ah F6 U (AB Cd U H at1 U (Ah F6 U (AB Cd U H at0 U (BP U U (A6 U (.bool _) U (A9 U (.bool _) U (Aw U (AK 44 U ?_ ?_))))))))
       .intro h9;replace h9:=AM h9;refine Ag U (Ag U (Ag U (Ag U (Ag U (Ag U (Ag U (Ag U (Ag U (Ag U ?_)))))))));refine Ag U (Ag U (Ag U (Ag U (Ag U (A6 U (.bool _) U (Ab ?_))))));exact⟨rfl,(),rfl,⟨qaa Value.bool (by rw[qad];simp_all;try omega),trivial⟩,H⟩
       .intro h10;replace h10:=AN h10;refine Ah EA U (AB Km U H at1 U (CD U U (Aw U (AK 48 U ?_ ?_))))
        .intro h11;replace h11:=AM h11;refine Ah EA U (AB Km U H at0 U (CD U U (A6 U (.bool _) U (Aw U (AK 53 U ?_ ?_)))))
         .intro h12;replace h12:=AM h12;refine Ah FT U (AB Bz U H at1 U (Ah FT U (AB Bz U H at0 U (BP U U (A6 U (.bool _) U (A9 U (.bool _) U (Ab ?_)))))));exact⟨rfl,(),rfl,⟨qaa Value.bool (by rw[qad];simp_all;try omega),trivial⟩,H⟩
         .intro h13;replace h13:=AN h13;refine Ag U (Ag U (Ag U (Ag U (Ag U (A9 U (.bool _) U (A9 U (.bool _) U (Ab ?_)))))));exact⟨rfl,(),rfl,⟨qaa Value.bool (by rw[qad];simp_all;try omega),trivial⟩,H⟩
        .intro h14;replace h14:=AN h14;refine Ag U (Ag U (Ag U (A9 U (.bool _) U (Aw U (Ag U (Ag U (Ag U (Ag U (Ag U ?_)))))))));refine A9 U (.bool _) U (A9 U (.bool _) U (Ab ?_));exact⟨rfl,(),rfl,⟨qaa Value.bool (by rw[qad];simp_all;try omega),trivial⟩,H⟩
      .intro h15;replace h15:=AN h15;refine Ag U (Ag U (Ag U (Ag U (Ag U (A9 U (.bool _) U (A9 U (.bool _) U (Aw U (Ah EA U (AB Km U H at1 U ?_)))))))));refine CD U U (Aw U (AK 48 U ?_ ?_))
       .intro h16;replace h16:=AM h16;refine Ah EA U (AB Km U H at0 U (CD U U (A6 U (.bool _) U (Aw U (AK 53 U ?_ ?_)))))
        .intro h17;replace h17:=AM h17;refine Ah FT U (AB Bz U H at1 U (Ah FT U (AB Bz U H at0 U (BP U U (A6 U (.bool _) U (A9 U (.bool _) U (Ab ?_)))))));exact⟨rfl,(),rfl,⟨qaa Value.bool (by rw[qad];simp_all;try omega),trivial⟩,H⟩
        .intro h18;replace h18:=AN h18;refine Ag U (Ag U (Ag U (Ag U (Ag U (A9 U (.bool _) U (A9 U (.bool _) U (Ab ?_)))))));exact⟨rfl,(),rfl,⟨qaa Value.bool (by rw[qad];simp_all;try omega),trivial⟩,H⟩
       .intro h19;replace h19:=AN h19;refine Ag U (Ag U (Ag U (A9 U (.bool _) U (Aw U (Ag U (Ag U (Ag U (Ag U (Ag U ?_)))))))));refine A9 U (.bool _) U (A9 U (.bool _) U (Ab ?_));exact⟨rfl,(),rfl,⟨qaa Value.bool (by rw[qad];simp_all;try omega),trivial⟩,H⟩
     .intro h20;replace h20:=AN h20;refine Ag U (Ag U (Ag U (A9 U (.bool _) U (Aw U (Ag U (Ag U (Ag U (Ag U (Ag U ?_)))))))));refine A9 U (.bool _) U (A9 U (.bool _) U (Aw U (Ah EA U (AB Km U H at1 U (CD U U (Aw U (AK 48 U ?_ ?_)))))))
      .intro h21;replace h21:=AM h21;refine Ah EA U (AB Km U H at0 U (CD U U (A6 U (.bool _) U (Aw U (AK 53 U ?_ ?_)))))
       .intro h22;replace h22:=AM h22;refine Ah FT U (AB Bz U H at1 U (Ah FT U (AB Bz U H at0 U (BP U U (A6 U (.bool _) U (A9 U (.bool _) U (Ab ?_)))))));exact⟨rfl,(),rfl,⟨qaa Value.bool (by rw[qad];simp_all;try omega),trivial⟩,H⟩
       .intro h23;replace h23:=AN h23;refine Ag U (Ag U (Ag U (Ag U (Ag U (A9 U (.bool _) U (A9 U (.bool _) U (Ab ?_)))))));exact⟨rfl,(),rfl,⟨qaa Value.bool (by rw[qad];simp_all;try omega),trivial⟩,H⟩
      .intro h24;replace h24:=AN h24;refine Ag U (Ag U (Ag U (A9 U (.bool _) U (Aw U (Ag U (Ag U (Ag U (Ag U (Ag U ?_)))))))));refine A9 U (.bool _) U (A9 U (.bool _) U (Ab ?_));exact⟨rfl,(),rfl,⟨qaa Value.bool (by rw[qad];simp_all;try omega),trivial⟩,H⟩
 rintro - j60 w H;refine An _ U ?_ ?_
 .intro h1;refine Ad (Al qB (LQ _) U ?_);rintro v w ⟨rfl,hx61⟩;replace H:=H.call hx61;refine Ai U (qA (A7 (Av (AD (v:=(.bool _)) U U U ?_))));exact⟨rfl,H.ext⟩
 .intro h1;have h1:=qbh h1;obtain⟨w1,rfl⟩:=qD w;have hE:=H.ext;have h4:w1.heap[b4]?=some (Bl 25 (BA x)):=H.get at1;have h5:w1.heap[b5]?=some (Bl 25 (BA y)):=H.get at0;refine Aq (Aa (Ad (Al qB (MK _) U ?_)));rintro v w ⟨m0,rfl,H0,I0⟩;obtain⟨b1,hb1⟩:∃b,m0.bl=b:=⟨_,rfl⟩;have L:Led b1 w1 w [] m0 s00 (fun x=>x∈CT m0 s00):=⟨H0,I0,hb1⟩;rw[hb1];refine B1 U (qA (Ad (Al qB (Ad3 L) U ?_)));rintro v w ⟨m2,T2,rfl,K⟩;obtain⟨b2,hb2⟩:∃b,m2.bl=b:=⟨_,rfl⟩;rw[hb2]at K |-;clear H H0 I0 L;refine B1 U (qA (Ao (Ad (Ae U (qA (A1 (Bt 4835684831714442989273600 (α:=ApZ) (fun z=>[(9,.int .i64 (z.i:Int))]) (fun z w'=>z.i<=ks.length/\Led2 b1 b2 w1 w' [] z.m1 z.m2 z.s z.s z.T) (fun z=>ks.length - z.i) ⟨0,m0,m2,s00,T2⟩ U ?_ ?_ ?_)))))))
  .exact⟨rfl,trivial⟩
  .exact⟨qaj _,K⟩
  .clear K;rintro⟨i,m1,m2,s,T⟩ j w ⟨hi,K⟩;dsimp only at hi K;dsimp only;have H:=Ctx.start w [];refine Ao (Ad (Af U (A2 U (Ba Gj U (Bm U U (qA (An _ U ?_ ?_)))))))
   .intro h2;replace h2:=AM h2;obtain⟨k,hk⟩:=AA (l:=ks) (i:=i);have hkin:=hin k (qac hk);refine Aq (Aa (Ao (A1 (Ad (Ax U (A2 U (Af U (Be (R.ext0 (hE.trans K.L.H.ext)) Gj EJ U U (by rfl) ?_))))))));refine BQ _ Ic EJ U U (((R.ext0 (hE.trans K.L.H.ext)).row hk U)) (Al qB (Lj K hkin) U ?_);rintro v w ⟨a1,c1,f1,p1,s1,m1',T1,rfl,-,S1,K⟩;replace K:=K.drop;refine qA (A0 (Ax U (A2 U (Af U (Be (R.ext0 (hE.trans K.L.H.ext)) Gj EJ U U (by rfl) ?_)))));refine BQ _ Ic EJ U U (((R.ext0 (hE.trans K.L.H.ext)).row hk U)) (Al qB (Lj K.swap hkin) U ?_);rintro v w ⟨a2,c2,f2,p2,s2,m2',T2,rfl,-,S2,K⟩;replace K:=K.drop;obtain⟨rfl,rfl⟩:=ML S1 S2;refine Ab (A8 (Aa (A0 (Af U (Az U U ?_)))));refine Ae U (qA ?_)
    exact⟨⟨i+1,m1',m2',s1,T2⟩,rfl,⟨rfl,trivial⟩,⟨by dsimp only;omega,K.swap⟩,by dsimp only;omega⟩
   .intro h2;replace h2:=AN h2;refine Bp (Am (Am (AO (Aa (Ad (Ax U (BQ _ Ic EJ U U ((Ca (b:=b4) (t:=25) (l:=BA x) (K.L.H.ext.to h4 (by simp)) 0 (BA x) U)) ?_)))))));refine Al qB (Lj K hx0) U ?_;rintro v w ⟨a1,c1,f1,p1,s1,m1',T1,rfl,O1,S1,K⟩;replace H:=Ctx.start w [];refine AU Gk H ?_;rintro b10 w - H;refine Bj Dy U U U (by exact(by simp[AZ])) H at0 U ?_;rintro w H;refine qA (Ad ?_)
    replace K:=K.next H
    replace H:=Ctx.start w [];refine CU (ptr b1) U (BQ _ Ic EJ U U ((Ca (b:=b5) (t:=25) (l:=BA y) (K.L.H.ext.to h5 (by simp)) 0 (BA y) U)) ?_);refine Al qB (Lj K hy0) U ?_;rintro v w ⟨a2,c2,f2,p2,s2,m1',T2,rfl,O2,S2,K⟩;replace H:=Ctx.start w [];refine AU Gk H ?_;rintro b11 w - H;refine Bj Dy U U U (by exact(by simp[AZ])) H at0 U ?_;rintro w H;refine qA (Ad ?_);replace K:=(K.next H).swap;replace H:=Ctx.start w [];refine CU (ptr b2) U (BQ _ Ic EJ U U ((Ca (b:=b5) (t:=25) (l:=BA y) (K.L.H.ext.to h5 (by simp)) 0 (BA y) U)) ?_);refine Al qB (Lj K hy0) U ?_;rintro v w ⟨a3,c3,f3,p3,s3,m2',T3,rfl,O3,S3,K⟩;replace H:=Ctx.start w [];refine AU Gk H ?_;rintro b12 w - H;refine Bj Dy U U U (by exact(by simp[AZ])) H at0 U ?_;rintro w H;refine qA (Ad ?_)
    replace K:=K.next H
    replace H:=Ctx.start w [];refine CU (ptr b2) U (BQ _ Ic EJ U U ((Ca (b:=b4) (t:=25) (l:=BA x) (K.L.H.ext.to h4 (by simp)) 0 (BA x) U)) ?_);refine Al qB (Lj K hx0) U ?_;rintro v w ⟨a4,c4,f4,p4,s4,m2',T4,rfl,O4,S4,K⟩;replace H:=Ctx.start w [];refine AU Gk H ?_;rintro b13 w - H;refine Bj Dy U U U (by exact(by simp[AZ])) H at0 U ?_;rintro w H;refine qA (Ao ?_)
    replace K:=K.next H
    replace H:=Ctx.start w [];have h13:w.heap[b13]?=some (Bl 33 [.int .i64 p4.e,.slice a4 p4.n.length c4]):=K.own (b13,_) (qao _ (qai ..));have h12:w.heap[b12]?=some (Bl 33 [.int .i64 p3.e,.slice a3 p3.n.length c3]):=K.own (b12,_) (qal _ (qal _ (qao _ (qai ..))));have h11:w.heap[b11]?=some (Bl 33 [.int .i64 p2.e,.slice a2 p2.n.length c2]):=K.own (b11,_) (qal _ (qal _ (qal _ (qal _ (qao _ (qai ..))))))
    have h10:w.heap[b10]?=some (Bl 33 [.int .i64 p1.e,.slice a1 p1.n.length c1]):=K.own (b10,_) (qal _ (qal _ (qal _ (qal _ (qal _ (qal _ (qao _ (qai ..))))))));have R4:Rd w a4 1 I1 p4.n:=OS.rd1 (f:=Dj) (t:=2) O4 (fun q hq=>K.own q (qal _ (qao _ hq)));have R3:Rd w a3 1 I1 p3.n:=OS.rd1 (f:=Dj) (t:=2) O3 (fun q hq=>K.own q (qal _ (qal _ (qal _ (qao _ hq)))));have R2:Rd w a2 1 I1 p2.n:=OS.rd1 (f:=Dj) (t:=2) O2 (fun q hq=>K.own q (qal _ (qal _ (qal _ (qal _ (qal _ (qao _ hq)))))))
    have R1:Rd w a1 1 I1 p1.n:=OS.rd1 (f:=Dj) (t:=2) O1 (fun q hq=>K.own q (qal _ (qal _ (qal _ (qal _ (qal _ (qal _ (qal _ (qao _ hq)))))))));have hE9:=hE.trans K.L.H.ext;obtain⟨w9,rfl⟩:=qD w;refine Ad (BV (α:=Unit) 5192277051494199062446097943232512 (fun _=>[(111,.bool (decide (p1.e=13\/p2.e=13\/p3.e=13\/p4.e=13)))]) (fun _ w'=>w'=w9) U ?_ ?_)
    .refine Ah EB U (Bc Hd U ((by rw[Aj h10];rfl)) ?_);refine BP U U (Aw U (AK 97 U ?_ ?_))
     .intro h25;replace h25:=AM h25;refine Ag U (Ag U (Ag U (A6 U (.bool _) U (Aw U (Ag U (Ag U (Ag U (A6 U (.bool _) U (Aw U ?_)))))))));refine Ag U (Ag U (Ag U (A6 U (.bool _) U (Ab ?_))));exact⟨rfl,(),rfl,⟨qaa Value.bool (by(rw[qad];simp only[qas,true_iff];omega)),trivial⟩,rfl⟩
     .intro h26;replace h26:=AN h26;refine Ah EB U (Bc Hd U ((by rw[Aj h11];rfl)) ?_);refine BP U U (A9 U (.bool _) U (Aw U (AK 102 U ?_ ?_)))
      .intro h27;replace h27:=AM h27;refine Ag U (Ag U (Ag U (A6 U (.bool _) U (Aw U (Ag U (Ag U (Ag U (A6 U (.bool _) U (Ab ?_)))))))));exact⟨rfl,(),rfl,⟨qaa Value.bool (by(rw[qad];simp only[qas,true_iff];omega)),trivial⟩,rfl⟩
      .intro h28;replace h28:=AN h28;refine Ah EB U (Bc Hd U ((by rw[Aj h12];rfl)) ?_);refine BP U U (A9 U (.bool _) U (Aw U (AK 107 U ?_ ?_)))
       .intro h29;replace h29:=AM h29;refine Ag U (Ag U (Ag U (A6 U (.bool _) U (Ab ?_))));exact⟨rfl,(),rfl,⟨qaa Value.bool (by(rw[qad];simp only[qas,true_iff];omega)),trivial⟩,rfl⟩
       .intro h30;replace h30:=AN h30;refine Ah EB U (Bc Hd U ((by rw[Aj h13];rfl)) ?_);refine BP U U (A9 U (.bool _) U (Ab ?_));exact⟨rfl,(),rfl,⟨qaa Value.bool (by(rw[qad];simp only[qas];omega)),trivial⟩,rfl⟩
    rintro - j111 w hw;subst hw;refine An _ U ?_ ?_
    .intro h7;refine Ad (Al qB (LQ _) U ?_);rintro v w ⟨rfl,hx⟩;replace hE9:=hE9.trans hx;refine Ai U (qA (A7 (Av (AD (v:=(.bool _)) U U U ?_))));exact⟨rfl,hE9⟩
    .intro h7;have h7:=qbh h7;have hsx:G6 x:=Decidable.byContradiction fun h=>h1 (.inl (.inr (.inl h)));have hsy:G6 y:=Decidable.byContradiction fun h=>h1 (.inl (.inr (.inr (.inl h))));have hl1:=UB S1 hsx;have hl2:=UB S2 hsy;obtain⟨rfl,rfl,rfl⟩:=YS hsx hsy S1 S2 S3 S4;have hok:=K.I.ok;refine Aq (Aa (Ad (BQ _ Hw Dy U U ((Ca (b:=b10) (t:=33) (l:=[.int .i64 p1.e,.slice a1 p1.n.length c1]) h10 0 [.int .i64 p1.e,.slice a1 p1.n.length c1] U)) ?_)));refine BQ _ Hw Dy U U ((Ca (b:=b13) (t:=33) (l:=[.int .i64 p1.e,.slice a4 p1.n.length c4]) h13 0 [.int .i64 p1.e,.slice a4 p1.n.length c4] U)) (Al qB (R9 p1.e p1.n a1 a4 c1 c4 _ R1 R4) U ?_);rintro v w ⟨rfl,hx115⟩;replace K:=K.call hx115
     refine Aw U (BQ _ Hw Dy U U ((Ca (b:=b11) (t:=33) (l:=[.int .i64 p2.e,.slice a2 p2.n.length c2]) (hx115.to h11 (by simp)) 0 [.int .i64 p2.e,.slice a2 p2.n.length c2] U)) ?_);refine BQ _ Hw Dy U U ((Ca (b:=b12) (t:=33) (l:=[.int .i64 p2.e,.slice a3 p2.n.length c3]) (hx115.to h12 (by simp)) 0 [.int .i64 p2.e,.slice a3 p2.n.length c3] U)) (Al qB (R9 p2.e p2.n a2 a3 c2 c3 _ (R2.ext0 hx115) (R3.ext0 hx115)) U ?_);rintro v w ⟨rfl,hx119⟩;replace K:=K.call hx119;refine A6 U (.bool _) U (Aw U (Ax U (Al qB (Fg K.swap.L) U ?_)));rintro v w ⟨hx123,z1,rfl,Z1,-⟩;replace K:=K.call hx123;refine Ax U (Al qB (Fg K.L) U ?_);rintro v w ⟨hx125,z2,rfl,Z2,-⟩;replace K:=K.call hx125;replace Z1:=Z1.ext0 hx125;refine Al qB (MN _ U hok Z1 Z2) U ?_;rintro v w ⟨rfl,hx126⟩;refine A6 U (.bool _) U (Aw U (Al qB (LQ _) U ?_));rintro v w ⟨rfl,hx129⟩
     refine A6 U (.bool _) U (Ai U (qA (A7 (AD (v:=(.bool _)) U U U ?_))));exact⟨rfl,((((((hE9.trans hx115).trans hx119).trans hx123).trans hx125).trans hx126).trans hx129)⟩
open Go.GV Go.Proofs.Tryz Go.ChangeShapes Go.WideShapes Go.RowKit
set_option maxRecDepth 100000 in
theorem LR(os:Os)(started:os.Started)(H:Type)(enc:TypeId × Value->H) :
  ReturnsInHanded {} checked os 3 .any (Rows.ledgerApartSpec.pre6 enc prog Tryz.f3 Rows.ledgerApartRow.domain false) (Rows.ledgerApartSpec.post enc prog Tryz.f3 false true false false):=by
 refine returnsInHanded_of_change (C:=checked) own started (by kernel_rfl) func3
  (ChangeSpec.witness6 (enc:=enc) (C:=checked) false ⟨#[],#[.slice none 0 0,.agg #[.int .u8 0,.int .i64 0,.int .i64 0,.int .i64 0,.int .i64 0,.int .i64 0,.int .u64 0],.agg #[.int .u8 0,.int .i64 0,.int .i64 0,.int .i64 0,.int .i64 0,.int .i64 0,.int .u64 0]],[]⟩ 8 (by kernel_rfl) (by kernel_rfl) (by kernel_rfl) (by kernel_rfl)) ?_
 intro W base args ds gs before hval0 hW hcnd _;have hval:∀(j:Nat) t v,Tryz.f3.params[j]?=some t->args[j]?=some v->Value.okWide prog W .any base t v:=hval0;have hW':=hW;obtain⟨p,q,hA0,hV,rfl,hfz,hnd⟩:=hW;have hA:DataW.TrodAll enc prog W 0 (fun _=>true) true Tryz.f3.params.toList args.toList ds p:=hA0;rw[params3]at hA hval;obtain⟨v0,vs0,d0,ds0,p0,q0,hargs,rfl,rfl,h0,r0⟩:=trodAll_cons hA;obtain⟨v1,vs1,d1,ds1,p1,q1,rfl,rfl,rfl,h1,r1⟩:=trodAll_cons r0;obtain⟨v2,vs2,d2,ds2,p2,q2,rfl,rfl,rfl,h2,r2⟩:=trodAll_cons r1;obtain⟨rfl,rfl,rfl⟩:=trodAll_nil r2;obtain rfl:args=#[v0,v1,v2]:=by cases args;simp_all
 obtain⟨a0,c0,l0,rfl,R0,H0⟩:=SZ (hval 0 _ v0 rfl rfl) h0;obtain⟨k1,rfl,H1⟩:=Ad2 (hval 1 _ v1 rfl rfl) h1;obtain⟨k2,rfl,H2⟩:=Ad2 (hval 2 _ v2 rfl rfl) h2;refine(PL a0 c0 l0 k1 k2 W R0 H0 H1 H2).calls.mono ?_;rintro e W' ⟨v,rfl,rfl,hx⟩;exact⟨_,rfl,TB Xo U U underlying4 (fun ds h=>match ds,h with | [_,_,_],_=>rfl) hW' hx⟩
theorem PM:jn1 prog 3 Tryz.f3 Rows.ledgerApartSpec Rows.ledgerApartRow=true:=by kernel_rfl
theorem PN:jn2 prog 3 Tryz.f3 Rows.ledgerApartSpec Rows.ledgerApartRow=true:=by kernel_rfl
theorem PO:jn3 prog 3 Tryz.f3 Rows.ledgerApartSpec Rows.ledgerApartRow=true:=by kernel_rfl
theorem PR:jn4 prog 3 Tryz.f3 Rows.ledgerApartSpec Rows.ledgerApartRow=true:=by kernel_rfl
theorem PS:jn5 prog 3 Tryz.f3 Rows.ledgerApartSpec Rows.ledgerApartRow=true:=by kernel_rfl
theorem PT:joinedFacts prog 3 Tryz.f3 Rows.ledgerApartSpec Rows.ledgerApartRow=true:=Q6 PM PN PO PR PS
theorem ledgerApart_holds:Rows.LedgerApartSaid :=
 OpenClaim.holds_of_wide 3 Tryz.f3 rfl rfl rfl rfl rfl rfl rfl ⟨rfl,rfl,rfl,rfl,rfl⟩ rfl rfl rfl rfl rfl (by kernel_rfl) func3 PT
  (qba (by kernel_rfl)) (by unfold Func.isWrapper;rw[if_neg (qbh (by kernel_rfl))];exact⟨rfl,rfl⟩)
  (fun os started H enc _=>LR os started H enc)
#print axioms ledgerApart_holds
end Go.Proofs.YtffclglpjlcojaaGreat
