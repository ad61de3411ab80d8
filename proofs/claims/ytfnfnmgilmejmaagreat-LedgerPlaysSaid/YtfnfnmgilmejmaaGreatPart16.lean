/- Part 16 of the proof. The last text: LedgerPlays: for every input the law answers true, and turns nothing. -/
import Derived.Test.YtfnfnmgilmejmaaGreatPart15
set_option maxRecDepth 20000
set_option maxHeartbeats 4000000
namespace Go.Proofs.YtfnfnmgilmejmaaGreat
open Go.GV Go.Proofs.Tryz
attribute [local irreducible] A4 W Wq Wt
variable{af:Array Edge}{e:Env}{s:Ld}{ps:List MemPlace}{ops rest:List Oper}{b bl cu nu:Nat}{T:Nat->Prop}{x:Operand}{g:Option (Nat × Bool)}{a au:Option Addr}{dst:Option Tmp}{P:Program}{p11 p12 p7:Prop}{z:StZ}{pos:String}{el t t2 ty:TypeId}{u v x11 x7:Value}{w w' w0:World}{C:World->Prop}
theorem Abp{K:Env->Prop}(hg:AJ ⟨dst,.binOp .neq t x (.const<|.pointer none) t2,ty,pos,af,g⟩ ops e=true)(hu:P.underlying t=some (.pointer el))(hx:ev e x=.pointer a)(h:Wt P ops C K rest<|put e dst<|.bool a.isSome):Wt P ops C K (⟨dst,.binOp .neq t x (.const<|.pointer none) t2,ty,pos,af,g⟩::rest) e :=
 DS hg (fun w _=>by
  have hq:eqGuard .neq t x (.const<|.pointer none) (.pointer a) (.pointer none)=pure ():=rfl;have he:ev e (.const<|.pointer none)=.pointer none:=rfl
  simp only[execOp,hx,he,hq,Sem.run_bind,Sem.run_pure,Result.andThen_ok,XE hu]) h
theorem Xr{s':Ld}{k:Ak}{p:Rp}(h:C9 s k s' p)(hd:s.Days):s'.Days:=by
 unfold C9 at h
 split at h
 .rcases h with⟨-,rfl,-⟩|⟨-,r,-,rfl,-⟩
  .exact hd
  .intro x hx;have hx2:x∈DY s.rn { r with no:=s.no+1,day:=s.day }:=hx;unfold DY at hx2
   rcases qa2.1 (qco hx2)with h1|h1
   .exact hd x h1
   .rw[qab.1 h1];exact qa4 _
 .obtain⟨rfl,-⟩:=h;intro x hx;rw[Abn]at hx;have h1:=hd x hx
  have h2:s.day<=(Dn s k).day:=by
   unfold Dn
   repeat (first|exact qa4 _|assumption|split)
  exact qbj h1 h2
structure StT(s:Ld):Prop where
 nx:0<=s.nx/\s.nx<18446744073709551616
 ids:∀d∈s.ds,0<=d.id/\d.id<18446744073709551616
 N:∀r∈s.rn,I64 r.N
 no:0<=s.no/\s.no<=18446744073709551615
 day:s.day<=9223372036854775807
theorem Ajy(h:KY s=true)(t:StT s):StIn s:=by
 unfold KY Pq at h;simp only[qag,qav]at h;obtain⟨h1,h2,h3,h4⟩:=h;refine⟨by omega,by omega,by omega,t.nx,t.ids,fun r hr=>?_,t.no,t.day⟩;have h5:=qaw.1 h4 r hr;unfold Qx at h5;simp only[qcf,Bool.or_eq_false_iff,qd5]at h5;exact⟨t.N r hr,by omega,by omega,by omega,by omega⟩
theorem V4(w:World)(Z:StAt w s z)(hin:StIn s) :
  Ret prog 9 #[.agg (stX s z u).toArray] w fun v w'=>∃(pa:Option Addr) (code:Int),v=.tuple #[.pointer pa,.int .i64 code]/\Ext [] w w'/\((s.Ok/\s.Days/\code=0/\∃m:Lm,pa=some ⟨m.bl,0,none⟩/\Ctx w [] w' (LL m s)/\LdIn w' m s (fun x=>x∈CR m s))\/(¬(s.Ok/\s.Days)/\code=ofE s/\pa=none)):=by
 refine Ret.mono (Ajt w Z hin) ?_;rintro v w' (⟨h1,h2,m,rfl,H,I⟩|⟨h1,rfl,-,hx⟩)
 .exact⟨_,_,rfl,H.ext,.inl ⟨h1,h2,rfl,m,rfl,H,I⟩⟩
 .exact⟨_,_,rfl,hx,.inr ⟨h1,rfl,rfl⟩⟩
theorem Ael(w:World)(Z:StAt w s z)(hin:StIn s) :
  Ret prog 10 #[.agg (stX s z u).toArray] w fun v w'=>∃(pa:Option Addr) (code:Int),v=.tuple #[.pointer pa,.int .i64 code]/\Ext [] w w'/\((s.Ok/\s.Days/\code=0/\∃m:Rm,pa=some ⟨m.bl,0,none⟩/\m.qs=z.qs/\Rl m s w [] w' [])\/(¬(s.Ok/\s.Days)/\code=ofE s/\pa=none)):=by
 refine Ret.mono (Abi w Z hin) ?_;rintro v w' (⟨h1,h2,m,rfl,hq,k⟩|⟨h1,rfl,hx⟩)
 .exact⟨_,_,rfl,k.H.ext,.inl ⟨h1,h2,rfl,m,rfl,hq,k⟩⟩
 .exact⟨_,_,rfl,hx,.inr ⟨h1,rfl,rfl⟩⟩
theorem V5{m:Lm}{mr:Rm}(L:Led bl w0 w [] m s T)(k:Rl mr s w [] w' [])(hK:∀x∈s.rn.zip mr.qs,RAt w' x.1 x.2/\ROff x.2 x.1 (fun y=>w0.heap.size<=y))(hT:∀x,T x->w0.heap.size<=x):∃T',Duo bl w0 w' [] m mr s s T':=by
 have kH:=k.H;rw[qar]at kH;have L2:=L.nextT kH;refine⟨_,⟨by have:=L2.H;rw[qar]at this;exact this,L2.I,L.e,k.OA,k.OD,k.OR,k.n,L.I.ok,fun x hx=>⟨(hK x hx).1,(hK x hx).2.mono fun y hy=>?_⟩,fun x hx => .inr hx⟩⟩
 rcases hy with(hy|hy)|hy
 .exact hT y hy
 .obtain⟨z,hz,rfl⟩:=qak.1 hy;exact qa3 L.H.size<|(kH.own z hz).elim (fun h=>by cases h) id
 .cases hy
theorem W19.ext{C:C19}(h:W19 C p7 p11 p12 x7 x11 w):Ext [] C.w1 w/\StAt w C.s1 C.z1/\∀z∈C.B0,w.heap[z.1]?=some z.2:=by
 obtain⟨B,mr,sr,T,D,Z,-,h1,-⟩:=h;exact⟨D.H.ext,Z,fun z hz=>D.blk<|h1 z hz⟩
structure LpZ where
 m:Lm
 mr:Rm
 s:Ld
 T:Nat->Prop
structure LpJ where
 i:Nat
 m:Lm
 mr:Rm
 s:Ld
 T:Nat->Prop
structure R19 where
 b:Nat
 B:List (Nat × Obj)
 mr:Rm
 T:Nat->Prop
 a:Option Addr
 c:Nat
theorem N5(new:Bool)(a:Option Addr)(c:Nat)(ks:List Ak)(w:World)(Z:StAt w s z)(hT:StT s)(R:Rd w a 7 BN ks)(hks:∀k∈ks,AkIn k):Ret prog 3 #[.agg (stX s z<|.slice au nu cu).toArray,.bool new,.slice a ks.length c] w fun v w'=>v=.bool true/\Ext [] w w':=by
 obtain⟨w0,rfl,H⟩:=qE w;refine Ao (fn:=Tryz.f3) func3 U [.agg (stX s z<|.slice au nu cu).toArray,.bool new,.slice a ks.length c] U<|Af<|Be (stX s z<|.slice au nu cu) (.agg _) U U H ?_;rintro b3 w - H;refine A5 U<|qA<|AB<|Af<|Bo (α:=Unit) 534773760 (fun _=>[(28,.bool<|(!KY s || decide (120<(ks.length:Int))))]) (fun _ w'=>Ctx w0 [] w' [(b3,Bl 28 (stX s z<|.slice au nu cu))]) U ?_ ?_
 .refine Dh qf qf U H at0 U (Aj qB (Abh _ (Z.ext0 H.ext) U) U ?_);rintro v w ⟨rfl,hx22⟩;replace H:=H.call hx22;refine Df U<|Bj U<|iC 24 U ?_ ?_
  .intro h1;refine Al U<|Al U<|Al U<|Bz U (.bool _) U<|Ab ?_;exact⟨rfl,(),rfl,⟨qaa Value.bool (by clear H Z R hks hT;rw[qac];simp_all),trivial⟩,H⟩
  .intro h2;refine AH U<|Cp qf U<|Es U U<|B9 U (.bool _) U<|Ab ?_;exact⟨rfl,(),rfl,⟨qaa Value.bool (by clear H Z R hks hT;rw[qac];simp_all),trivial⟩,H⟩
 rintro - j28 w H;refine A3 _ U ?_ ?_
 .intro h1;refine Af<|Aj qB (Ke _) U ?_;rintro v w ⟨rfl,hx⟩;replace H:=H.call hx;refine A5 U<|qA<|Bf<|AD<|B6 (v:=(.bool _)) U U U ?_;exact⟨rfl,H.ext⟩
 .intro h1;obtain⟨hfew,hlen⟩:KY s=true/\(ks.length:Int)<=120:=by simpa using h1
  have hin:=Ajy hfew hT;obtain⟨w1,rfl⟩:=qD w;have hE0:=H.ext;have hb3:=H.get at0;have Z1:=Z.ext0 hE0;have R1:=R.ext0 hE0;clear H;have H:=Ctx.start w1 [];refine A1<|Aa<|Af<|Aj qB (Vz _) U ?_;rintro v w ⟨m0,rfl,H0,I0⟩;have L0:Led m0.bl w1 w [] m0 s00 fun x=>x∈CR m0 s00:=⟨H0,I0,rfl⟩;replace H:=H.call H0.ext;refine Bx U<|qA<|Af<|Aj qB (Aed _) U ?_;rintro v w ⟨mr0,rfl,hq0,k0⟩;obtain⟨T0,D0⟩:=V5 L0 k0 (fun x hx=>by cases hx) (fun x hx=>by obtain⟨y,hy,rfl⟩:=qak.1 hx;exact(H0.own y hy).elim (fun h=>by cases h) id);replace H:=H.call k0.H.ext;refine Bx U<|qA<|AB<|Af<|Bj U<|Df U<|qA<|EH 576460735123562432 (α:=LpZ) (fun y=>[(7,ptr y.m.bl),(8,ptr y.mr.bl)]) (fun y w'=>Duo y.m.bl w1 w' [] y.m y.mr y.s y.s y.T/\y.s.Days) U ?_ ?_
  .skip
   refine iB U ?_ ?_
   .intro h2;refine Af<|BC _ qf qf U U ((BQ (b:=b3) (t:=28) (l:=stX s z<|.slice au nu cu) (H.ext.to hb3<|by simp) 0 (stX s z<|.slice au nu cu) U)) ?_;refine Aj qB (V4 _ (Z1.ext0 H.ext) hin) U ?_;rintro v w ⟨pa,ca,rfl,hxa,hA⟩;have h0a:=H.ext;replace H:=H.call hxa;obtain⟨wa,hwa⟩:=qD w;refine E0 U<|BV U U<|BV U U<|Bx U<|Ag U<|qA<|Af<|BC _ qf qf U U ((BQ (b:=b3) (t:=28) (l:=stX s z<|.slice au nu cu) (H.ext.to hb3<|by simp) 0 (stX s z<|.slice au nu cu) U)) ?_;refine Aj qB (Ael _ (Z1.ext0 H.ext) hin) U ?_;rintro v w ⟨pb,cb,rfl,hxb,hB⟩;replace H:=H.call hxb;refine E0 U (BV U U<|BV U U<|Bx U<|Ag U<|qA<|AB ?_)
    have hAB:(∃(m:Lm) (mr:Rm) (T:Nat->Prop),pa=some ⟨m.bl,0,none⟩/\pb=some ⟨mr.bl,0,none⟩/\ca=0/\cb=0/\s.Days/\Duo m.bl w1 w [] m mr s s T)\/(pa=none/\pb=none/\ca=cb):=by
     subst hwa
     rcases hA with⟨g1,g2,g3,m,g4,g5,g6⟩|⟨g1,g3,g4⟩
     .rcases hB with⟨-,-,k3,mr,k4,k5,k6⟩|⟨k1,-⟩
      .have L:Led m.bl w1 wa [] m s fun x=>x∈CR m s:=⟨(Ctx.back (L1:=[]) (L2:=[]) ((Ctx.start w1 []).call h0a) g5).comm,g6,rfl⟩
       obtain⟨T,D⟩:=V5 L k6 (fun x hx=>by
        rw[k5]at hx
        exact⟨(Z1.K x hx).ext0 H.ext,(Z1.K x hx).lt⟩) (fun x hx=>by obtain⟨y,hy,rfl⟩:=qak.1 hx;exact qa3 h0a.size<|(g5.own y hy).elim (fun h=>by cases h) id)
       exact .inl ⟨m,mr,T,g4,k4,g3,k3,g2,D⟩
      .exact absurd ⟨g1,g2⟩ k1
     .rcases hB with⟨k1,k2,-⟩|⟨-,k3,k4⟩
      .exact absurd ⟨k1,k2⟩ g1
      .exact .inr ⟨g4,k4,g3.trans k3.symm⟩
    rcases hAB with⟨m,mr,T,rfl,rfl,rfl,rfl,hdy,D⟩|⟨rfl,rfl,rfl⟩
    .skip
     refine Af<|Bo (α:=Unit) 17996806323437568 (fun _=>[(53,.bool<|false)]) (fun _ w'=>Ctx w1 [] w' []/\Duo m.bl w1 w' [] m mr s s T) U ?_ ?_
     .refine Ad U (Ad U<|CV U U<|Bj U<|iC 47 U ?_ ?_)
      .intro h3;refine Al U<|Al U<|Al U<|Al U<|Al U<|Bz U (.bool _) U<|Ab ?_;exact⟨rfl,(),rfl,⟨qaa Value.bool<|by(simp_all;done),trivial⟩,⟨H,D⟩⟩
      .intro h4;refine AV U<|EB qf U ?_;refine AV U<|EB qf U ?_;refine Ko qf U U U<|B9 U (.bool _) U<|Ab ?_;exact⟨rfl,(),rfl,⟨qaa Value.bool<|by rfl,trivial⟩,⟨H,D⟩⟩
     rintro - j53 w ⟨H,D⟩;refine FT U<|A1<|Aa<|AB<|Af<|AV U<|EB qf U ?_;refine qA<|A3 _ U ?_ ?_
     .intro h4;cases h4
     .intro h4;refine A1<|Aa<|Af<|AV U<|Bx U<|qA<|Aw<|AV U<|Bx U<|qA ?_;exact⟨⟨m,mr,s,T⟩,rfl,⟨rfl,rfl,trivial⟩,D,hdy⟩
    .skip
     refine Af<|Bo (α:=Unit) 17996806323437568 (fun _=>[(53,.bool<|false)]) (fun _ w'=>Ctx w1 [] w' []) U ?_ ?_
     .refine Ad U (Ad U<|CV U U<|Bj U<|iC 47 U ?_ ?_)
      .intro h5;refine Al U<|Al U<|Al U<|Al U<|Al U<|Bz U (.bool _) U<|Ab ?_;exact⟨rfl,(),rfl,⟨qaa Value.bool<|by(simp_all;done),trivial⟩,H⟩
      .intro h6;refine AV U<|EB qf U ?_;refine AV U<|EB qf U ?_;refine Ko qf U U U<|B9 U (.bool _) U<|Ab ?_;exact⟨rfl,(),rfl,⟨qaa Value.bool<|by rfl,trivial⟩,H⟩
     rintro - j53 w H;refine FT U<|A1<|Aa<|AB<|Af<|AV U<|EB qf U ?_;refine qA<|A3 _ U ?_ ?_
     .intro h4;refine Af<|Aj qB (Ke _) U ?_;rintro v w ⟨rfl,hx⟩;replace H:=H.call hx;refine A5 U<|qA<|Bf<|AD<|AD<|B6 (v:=(.bool _)) U U U ?_;exact⟨rfl,hE0.trans H.ext⟩
     .intro h4;cases h4
   .intro h2;refine A1<|Aa ?_;exact⟨⟨m0,mr0,s00,T0⟩,rfl,⟨rfl,rfl,trivial⟩,D0,fun r hr=>by cases hr⟩
  .rintro⟨m,mr,s2,T⟩ j1 w ⟨D,hdy⟩;dsimp only at D hdy;dsimp only;clear H;obtain⟨b1,hb1⟩:∃b,m.bl=b:=⟨_,rfl⟩;obtain⟨b2,hb2⟩:∃b,mr.bl=b:=⟨_,rfl⟩;rw[hb1]at D;rw[hb1,hb2];refine AB<|Af<|Ag U<|qA<|AK<|AY 633825300113538239996048433216 (α:=LpJ) (fun y=>[(13,.int .i64 (y.i:Int))]) (fun y w'=>y.i<=ks.length/\Duo b1 w1 w' [] y.m y.mr y.s y.s y.T/\y.mr.bl=b2/\y.s.Days) (fun y=>ks.length - y.i) ⟨0,m,mr,s2,T⟩ U ?_ ?_ ?_
   .exact⟨rfl,trivial⟩
   .exact⟨qai _,D,hb2,hdy⟩
   .clear D hb1 hb2 hdy;rintro⟨i,m,mr,s2,T⟩ j w ⟨hi,D,hb2,hdy⟩;dsimp only at hi D hb2 hdy;dsimp only;have H:=Ctx.start w [];refine AB<|Af<|Ad U<|AH U<|Cp qf U<|CH U U<|qA<|iB U ?_ ?_
    .intro h3;obtain⟨k,hk⟩:=Au (l:=ks) (i:=i);have hkin:=hks k<|qad hk;refine A1<|Aa<|AB<|AK<|Af<|AV U<|AH U<|Ad U<|A2 (R1.ext0 D.H.ext) qf qf U U (by rfl) ?_;refine BC _ qf qf U U (((R1.ext0 D.H.ext).row hk U))<|Aj qB (Ajx D hkin) U ?_;rintro v w ⟨a1,c1,f1,p1,s1,m1,T1,rfl,O1,S1,D1⟩;replace H:=Ctx.start w [];refine AN qf H ?_;rintro b14 w - H;refine AM qf U U U (by exact(by simp[AF])) H at0 U ?_;rintro w H;refine qA<|Af<|AV U ?_;obtain⟨T7,D7⟩:∃T',Duo b1 w1 w ((b14,Bl 43 [.int .i64 p1.e,.slice a1 p1.n.length c1])::(ent a1 2 f1++[])) m1 mr s1 s2 T':=⟨_,D1.nextT H⟩;clear D1;refine Aj qB (LC D7.led) U ?_;rintro v w ⟨hx72,z1,rfl,Zs,ZO⟩
     replace ZO:=ZO.mono (S':=fun y=>T7 y\/y∈((b14,Bl 43 [.int .i64 p1.e,.slice a1 p1.n.length c1])::(ent a1 2 f1++[])).map (·.1)) (fun y hy=>hy.elim (D7.I.low y) fun h=>by obtain⟨x,hx,rfl⟩:=qak.1 h;exact AX<|D7.blk hx);replace D7:=D7.call hx72;replace H:=Ctx.start w [];refine AN qf H ?_;rintro b15 w - H;refine AM qf U U U (by exact(by simp[AF])) H at0 U ?_;rintro w H;refine qA ?_;have hn15:=(H.own (b15,Bl 28 (stC s1 z1))<|qab.2 rfl).elim (fun h=>by cases h) id;obtain⟨T8,D1,hT8⟩:∃T',Duo b1 w1 w ((b15,Bl 28 (stC s1 z1))::((b14,Bl 43 [.int .i64 p1.e,.slice a1 p1.n.length c1])::(ent a1 2 f1++[]))) m1 mr s1 s2 T'/\∀y,T' y->T7 y\/y=b15:=⟨_,D7.nextT H,fun y hy=>hy.imp_right fun h=>qab.1 h⟩
     replace ZO:=ZO.news Zs (T':=fun y=>T8 y\/y∈((b15,Bl 28 (stC s1 z1))::((b14,Bl 43 [.int .i64 p1.e,.slice a1 p1.n.length c1])::(ent a1 2 f1++[]))).map (·.1)) (fun y hy=>by
      rcases hy with hy|hy
      .exact(hT8 y hy).elim (fun h => .inl (.inl h)) fun h => .inr (by rw[h];exact hn15)
      .rcases qaf.1 hy with h|h
       .exact .inr (by rw[h];exact hn15)
       .exact .inl (.inr h))
     replace Zs:=Zs.ext0 H.ext;clear D7;obtain⟨w9,rfl⟩:=qD w;obtain⟨B0,hB0⟩:=qD ((b15,Bl 28 (stC s1 z1))::((b14,Bl 43 [.int .i64 p1.e,.slice a1 p1.n.length c1])::(ent a1 2 f1++[])));rw[<-hB0]at ZO D1;have hm15:(b15,Bl 28 (stC s1 z1))∈B0:=by rw[hB0];exact qah ..
     have hm14:(b14,Bl 43 [.int .i64 p1.e,.slice a1 p1.n.length c1])∈B0:=by rw[hB0];exact qae _<|qah ..
     have hme:∀x∈ent a1 2 f1,x∈B0:=fun x hx=>by rw[hB0];exact qae _<|qae _<|qax _ hx
     have hW:∀x7 x11,W19 ⟨b1,b2,w1,m1,s2,s1,z1,p1,B0,k,a,ks.length,c,i⟩ False False False x7 x11 w9:=fun x7 x11=>⟨B0,mr,s2,_,D1,Zs,ZO,fun z h=>h,hb2,fun _=>rfl,False.elim,False.elim⟩;obtain⟨C,hC⟩:=qD (⟨b1,b2,w1,m1,s2,s1,z1,p1,B0,k,a,ks.length,c,i⟩:C19);rw[<-hC]at hW;have h4rn:=D1.I.ok.kept.1;clear H;refine Dk 19333368380868327505068032 (α:=R19) (fun y=>[(16,ptr y.b),(17,.bool true)]) (fun y w'=>Duo b1 w1 w' y.B m1 y.mr s1 s1 y.T/\StAt w' s1 z1/\y.mr.bl=b2/\(∀x∈B0,x∈y.B)/\(y.b,Bl 43 [.int .i64 p1.e,.slice y.a p1.n.length y.c])∈y.B/\Rd w' y.a 1 I1 p1.n) U ?_ ?_
     .skip
      refine Acc (N:=14) (anc:=XN 14 [[],[],[],[1,2],[1,2,3],[],[5],[0,1,2,3,4,5,6],[0,1,2,3,4,5,6,7],[0,1,2,3,4,5,6,7,8],[0,1,2,3,4,5,6,7,8],[],[0,1,2,3,4,5,6,7,8,9,11],[0,1,2,3,4,5,6,7,8,9,10,11,12]]) (S19 C) (show Tryz.prog.follows .mixedOrders=true by kernel_rfl) U ⟨rfl,fun _ _=>rfl,fun _ _ h=>h.elim,(hW _ _).call<|Ext.drew [] _⟩ ?_ ?_
      .intro l im o e' w' ho him hu ha hcl A;obtain⟨gE,gZ,gB⟩:=A.W.ext;have h8:e'.g 8=ptr C.b2:=(A.old 8 (by decide)).trans (by rw[hC];rfl);have h2:e'.g 2=.slice C.a C.n C.c:=(A.old 2 (by decide)).trans (by rw[hC];rfl);have h13:e'.g 13=.int .i64 (C.i:Int):=(A.old 13 (by decide)).trans (by rw[hC];rfl);have h15:e'.g 15=ptr b15:=(A.old 15 (by decide)).trans rfl;have hcs:im=0\/im=1\/im=2\/im=3\/im=4\/im=5\/im=6\/im=7\/im=8\/im=9\/im=10\/im=11\/im=12\/im=13:=by omega
       rcases hcs with rfl|rfl|rfl|rfl|rfl|rfl|rfl|rfl|rfl|rfl|rfl|rfl|rfl|rfl
       .cases qal ho;exact ET U _ h8<|Ab<|A.pure (by decide) (fun j h1 h2 _=>(by decide:∀j,j<14->j≠0->74∉sl19.getD j []) j h1 h2) (by decide) (by decide)<|Dj ..
       .cases qal ho;exact ET U _ h2<|Ab<|A.pure (by decide) (fun j h1 h2 _=>(by decide:∀j,j<14->j≠1->75∉sl19.getD j []) j h1 h2) (by decide) (by decide)<|Dj ..
       .cases qal ho;exact ET U _ h13<|Ab<|A.pure (by decide) (fun j h1 h2 _=>(by decide:∀j,j<14->j≠2->76∉sl19.getD j []) j h1 h2) (by decide) (by decide)<|Dj ..
       .cases qal ho;exact A2 (R1.ext0 (by rw[hC]at gE;exact gE)) qf qf ((A.P 1 (by decide) (ha 1 (by decide))).trans<|by rw[hC]) ((A.P 2 (by decide) (ha 2 (by decide))).trans<|by rw[hC]) U<|Ab<|A.pure (by decide) (fun j h1 h2 _=>(by decide:∀j,j<14->j≠3->77∉sl19.getD j []) j h1 h2) (by decide) (by decide)<|(Dj ..).trans<|by rw[hC]
       .cases qal ho;exact BC (BN k) qf qf ((A.P 3 (by decide) (ha 3 (by decide))).trans (by rw[hC];rfl)) U ((R1.ext0 (by rw[hC]at gE;exact gE)).row hk U)<|Ab<|A.pure (by decide) (fun j h1 h2 _=>(by decide:∀j,j<14->j≠4->78∉sl19.getD j []) j h1 h2) (by decide) (by decide)<|(Dj ..).trans<|by rw[hC]
       .cases qal ho;exact BC (stC s1 z1) qf qf h15 U (BQ (b:=b15) (t:=28) (l:=stC s1 z1) (gB (b15,_) (by rw[hC];exact hm15)) 0 (stC s1 z1) U)<|Ab<|A.pure (by decide) (fun j h1 h2 _=>(by decide:∀j,j<14->j≠5->79∉sl19.getD j []) j h1 h2) (by decide) (by decide)<|(Dj ..).trans<|by rw[hC]
       .cases qal ho;have h79:e'.g 79=.agg (stC C.s1 C.z1).toArray:=A.P 5 (by decide) (ha 5 (by decide));refine Aj qB (Xo _ gZ (by rw[hC];dsimp only;omega)) (show[e'.g 79]=_ by rw[h79]) ?_;rintro v w2 ⟨hx,hv⟩;refine Ab<|A.step (d:=80) (by decide) (fun j h1 h2 _=>(by decide:∀j,j<14->j≠6->80∉sl19.getD j []) j h1 h2) ?_ ?_
        .rcases hv with⟨g1,rfl⟩|⟨r,q,g1,g2,-,rfl⟩
         .exact⟨_,_,Dj ..,.inl g1⟩
         .exact⟨r,q,Dj ..,.inr ⟨g1,g2⟩⟩
        .rw[Dg<|by decide,Dg<|by decide,H6,H6,H6];exact A.W.call hx
       .cases qal ho;have h74:e'.g 74=ptr C.b2:=A.P 0 (by decide) (ha 0 (by decide));have h78:e'.g 78=.agg (BN C.k).toArray:=A.P 4 (by decide) (ha 4 (by decide));obtain⟨r,q,h80,hq⟩:=A.P 6 (by decide) (ha 6 (by decide));have e7:l 7=False:=eq_false hu;have e12:l 12=False:=eq_false fun h=>hu<|hcl 12 h 7 (by decide);have W7:=A.W;rw[e7,e12]at W7;refine Aj qB (W7.ref (by rw[hC];exact hkin) (by rw[hC];exact S1) hq) (show[e'.g 74,e'.g 78,e'.g 80]=_ by rw[h74,h78,h80]) ?_;rintro v w2 ⟨W8,v1,rfl⟩;refine Ab (A.step (d:=81) (by decide) (fun j h1 h2 h3=>((by decide:∀j,j<14->j≠7->81∉sl19.getD j []\/7∈(XN 14 [[],[],[],[1,2],[1,2,3],[],[5],[0,1,2,3,4,5,6],[0,1,2,3,4,5,6,7],[0,1,2,3,4,5,6,7,8],[0,1,2,3,4,5,6,7,8],[],[0,1,2,3,4,5,6,7,8,9,11],[0,1,2,3,4,5,6,7,8,9,10,11,12]]) j) j h1 h2).elim id fun h=>absurd (hcl j h3 7 h) hu) ⟨v1,Dj ..⟩ ?_)
        rw[show(7=7\/l 7)=True from eq_true<|.inl rfl,show(11=7\/l 11)=l 11 from H6,show(12=7\/l 12)=False by rw[H6,e12],Dj,Dg<|by decide];exact W8
       .cases qal ho;exact ET U (e'.g 81) U<|Ab<|A.pure (by decide) (fun j h1 h2 _=>(by decide:∀j,j<14->j≠8->73∉sl19.getD j []) j h1 h2) (by decide) (by decide)<|(Dj ..).trans (Dg<|by decide).symm
       .cases qal ho;have h73:e'.g 73=e'.g 81:=A.P 8 (by decide) (ha 8 (by decide));obtain⟨x,h81⟩:=A.P 7 (by decide) (ha 7 (by decide));exact BV (v:=x) (h73.trans h81) U<|Ab<|A.pure (by decide) (fun j h1 h2 _=>(by decide:∀j,j<14->j≠9->82∉sl19.getD j []) j h1 h2) (by decide) (by decide)<|⟨x,(Dg<|by decide).trans h81,Dj ..⟩
       .cases qal ho;have h73:e'.g 73=e'.g 81:=A.P 8 (by decide) (ha 8 (by decide));obtain⟨x,h81⟩:=A.P 7 (by decide) (ha 7 (by decide));exact BV (v := .bool true) (h73.trans h81) U<|Ab<|A.pure (by decide) (fun j h1 h2 _=>(by decide:∀j,j<14->j≠10->83∉sl19.getD j []) j h1 h2) (by decide) (by decide)<|Dj ..
       .cases qal ho;have e12:l 12=False:=eq_false fun h=>hu<|hcl 12 h 11 (by decide);have W7:=A.W;rw[e12]at W7;refine AN qf (Ctx.start w' []) ?_;intro b w2 _ H;refine Ab<|A.step (d:=16) (by decide) (fun j h1 h2 _=>(by decide:∀j,j<14->j≠11->16∉sl19.getD j []) j h1 h2) trivial ?_;rw[show(11=11\/l 11)=True from eq_true<|.inl rfl,show(7=11\/l 7)=l 7 from H6,show(12=11\/l 12)=False by rw[H6,e12],Dj,Dg<|by decide];exact W7.new H U
       .cases qal ho;have W7:=A.W;rw[show l 7=True from eq_true<|ha 7 (by decide),show l 11=True from eq_true<|ha 11 (by decide),show l 12=False from eq_false hu]at W7;obtain⟨x,h81,h82⟩:=A.P 9 (by decide) (ha 9 (by decide));obtain⟨B,mr2,sr,T2,D,-,-,-,-,-,g4,g5⟩:=id W7;obtain⟨-,av,cv,g6,-,-⟩:=g4 trivial;obtain⟨b,ob,h16,-,g8,g9,-,-⟩:=g5 trivial;have hx82:x=.agg (rpC C av cv).toArray:=by rw[h81]at g6;cases g6;rfl
        rw[h16]at W7;refine FU U qf h16 (h82.trans hx82) U (by simp[AF]) (Ctx.start1<|D.blk g8) at0 (by omega) ?_;intro w2 H
        have ho2:over ob 0 (rpC C av cv)=rpC C av cv:=by
         match ob,g9 with
         | [_,_],_=>rfl
        rw[ho2]at H;refine Ab ⟨A.ds,A.old,fun j hj hl=>?_,?_⟩
        .by_cases h:j=12
         .subst h;exact trivial
         .exact A.P j hj (hl.resolve_left h)
        .rw[show(7=12\/l 7)=True from eq_true<|.inr<|ha 7 (by decide),show(11=12\/l 11)=True from eq_true<|.inr<|ha 11 (by decide),show(12=12\/l 12)=True from eq_true<|.inl rfl];show W19 C True True True (e'.g 81) (e'.g 16) w2;rw[h16];exact W7.put g6 H
       .cases qal ho;exact Dr U (.bool true) (A.P 10 (by decide) (ha 10 (by decide)))<|Ab<|A.pure (by decide) (fun j h1 h2 _=>(by decide:∀j,j<14->j≠13->17∉sl19.getD j []) j h1 h2) (by decide) (by decide)<|Dj ..
      .intro l e' w' hl A;have W7:=A.W;rw[show l 7=True from eq_true<|hl 7 (by decide),show l 11=True from eq_true<|hl 11 (by decide),show l 12=True from eq_true<|hl 12 (by decide),hC]at W7;obtain⟨B,mr2,sr,T2,D,g1,-,g2,g3,-,g4,g5⟩:=W7;obtain⟨rfl,av,cv,g6,g7,-⟩:=g4 trivial;obtain⟨b,ob,h16,-,g8,-,-,g9⟩:=g5 trivial;rw[g9 trivial av cv g6]at g8;exact⟨⟨b,B,mr2,T2,av,cv⟩,A.ds,⟨h16,A.P 13 (by decide) (hl 13 (by decide)),trivial⟩,D,g1,g3,g2,g8,g7⟩
     .rintro⟨b16,B,mr2,T2,av,cv⟩ j19 w ⟨D,Zw,hb2',hB,h16,Rw2⟩;dsimp only at D Zw hb2' hB h16 Rw2;dsimp only;clear D1 hW hC hb2;have hsm:=(Ur S1).2;have R14:Rd w a1 1 I1 p1.n:=OS.rd1 (f:=Cu) (t:=2) O1 fun q hq=>D.blk<|hB _<|hme q hq;have hb14:=D.blk<|hB _ hm14;have hb15:=D.blk<|hB _ hm15;have hb16:=D.blk h16;have hok:=D.I.ok;have hE9:=D.H.ext;have V:Rv mr2 s1 w:=D.rl.rv hok fun x hx=>(D.K x hx).1;obtain⟨w9',rfl⟩:=qD w;have H:=Ctx.start w9' [];refine BG [([0,1,2,3,4],5),([6,7,8,9,10],11),([],12),([13],14)] (fun z=>Ext [] w9' z) [] AW (H.drew.ext)<|A0 U U ?_;refine DT U (QI U U<|DT U<|EZ _ qf qf U U (fun _ hx=>(BQ (b:=b14) (t:=43) (l:=[.int .i64 p1.e,.slice a1 p1.n.length c1]) (hx.to hb14<|by simp) 0 [.int .i64 p1.e,.slice a1 p1.n.length c1] rfl)) ?_)
      refine EZ _ qf qf U U (fun _ hx=>(BQ (b:=b16) (t:=43) (l:=[.int .i64 p1.e,.slice av p1.n.length cv]) (hx.to hb16<|by simp) 0 [.int .i64 p1.e,.slice av p1.n.length cv] rfl))<|A6 ?_;replace H:=H.drew;refine Aj qB (Abg p1.e a1 av _ _ c1 cv p1.n _ (R14.ext0 H.ext) U (Rw2.ext0 H.ext) U) U ?_;rintro v w ⟨rfl,hx89⟩;replace H:=H.call hx89;refine Ab<|Bv (H.ext)<|A0 U U ?_;refine QI U U<|Kr U U (.bool _) U<|DT U<|EZ _ qf qf U U (fun _ hx=>(BQ (b:=b15) (t:=28) (l:=stC s1 z1) (hx.to hb15<|by simp) 0 (stC s1 z1) rfl)) ?_;refine Bm U<|A6 ?_;rw[<-hb2'];refine Aj qB (Xn _<|V.ext0 H.ext) U ?_;rintro v w ⟨rfl,hx95⟩;replace H:=H.call hx95;refine Ab<|Bv (H.ext)<|A0 U U ?_;refine A6<|Aj qB (SB _ U hok (Zw.ext0 H.ext)<|V.st.ext0 H.ext) U ?_;rintro v w ⟨rfl,hx96⟩;replace H:=H.call hx96;refine Ab<|Bv (H.ext)<|A0 U U ?_
      refine QI U U<|A6<|B9 U (.bool _) U<|Ab<|Bv (H.ext)<|Bu<|FT U<|A1<|Av<|Aa<|Aw<|Ad U<|Ap U U ?_;refine Ag U<|qA ?_;exact⟨⟨i+1,m1,mr2,s1,T2⟩,rfl,⟨rfl,trivial⟩,⟨by dsimp only;omega,(D.drop).call H.ext,rfl,Xr S1 hdy⟩,by dsimp only;omega⟩
    .intro h3;have hok:=D.I.ok;refine Bi<|Am<|Am<|A8<|Aa<|Af<|AV U<|Aj qB (LC D.led) U ?_;rintro v w ⟨hx72,z1,rfl,Zs,ZO⟩;replace D:=D.call hx72;replace H:=Ctx.start w [];refine AN qf H ?_;rintro b18 w - H;refine AM qf U U U (by exact(by simp[AF])) H at0 U ?_;rintro w H;refine qA ?_;have hb18:=H.get at0;have hx18:=H.ext;have hE18:=D.H.ext.trans H.ext;replace Zs:=Zs.ext0 H.ext;obtain⟨w9,rfl⟩:=qD w;clear H;have H:=Ctx.start w9 [];have h16c:=(BM.1 hok.ac).1;have h64c:=(CB hok.du).1;have hin2:StIn s2:=⟨by omega,by omega,by have:=hok.kept.1;omega,by have:=(CB hok.du).2.1;omega,fun d hd=>by have:=(EK hok.du).1 d hd;have:=(CB hok.du).2.1;omega,fun r hr=>Mw<|hok.may r hr,by have:=hok.kept;omega,hok.day.2⟩;refine Af (BC _ qf qf U U ((BQ (b:=b18) (t:=28) (l:=stC s2 z1) (H.ext.to hb18<|by simp) 0 (stC s2 z1) U)) ?_)
     refine Aj qB (V4 _ (Zs.ext0 H.ext) hin2) U ?_;rintro v w ⟨pa,ca,rfl,hxa,hA⟩;replace H:=H.call hxa;refine E0 U<|BV U U<|BV U U<|Bx U<|Ag U<|qA ?_
     rcases hA with⟨-,-,rfl,m9,rfl,H9,I9⟩|⟨hbad,-⟩
     .skip
      have L9:Led m9.bl _ _ [] m9 s2 fun x=>x∈CR m9 s2:=⟨H9,I9,rfl⟩;obtain⟨b9,hb9⟩:∃b,m9.bl=b:=⟨_,rfl⟩;rw[hb9]at L9;rw[hb9];obtain⟨w10,rfl⟩:=qD w;have hE10:=H.ext;have hb18':=hE10.to hb18 (by simp);replace Zs:=Zs.ext0 hE10;clear H;have H:=Ctx.start w10 [];refine BG [([0,1,2,3,4,5,6,7,9],8),([],10),([11,12],13),([14],15)] (fun z=>Ext [] w10 z) [] AW (H.drew.ext)<|A0 U U ?_;refine AG U<|Aes U U U<|DT U<|Bm U<|Abp U qf U ?_;refine He U (.bool _) U<|DT U<|Bm U<|EZ _ qf qf U U (fun _ hx=>(BQ (b:=b18) (t:=28) (l:=stC s2 z1) (hx.to hb18'<|by simp) 0 (stC s2 z1) rfl)) ?_;refine A6 ?_;replace H:=H.drew;refine Aj qB (LC<|L9.call H.ext) U ?_;rintro v w ⟨hx114,z2,rfl,Zt,-⟩;replace H:=H.call hx114;refine Ab<|Bv (H.ext)<|A0 U U ?_;refine A6<|Aj qB (SB _ U hok Zt<|Zs.ext0 H.ext) U ?_;rintro v w ⟨rfl,hx116⟩
      replace H:=H.call hx116;refine Ab<|Bv (H.ext)<|A0 U U ?_;refine He U (.bool _) U<|DT U<|A6<|Aj qB (Ke _) U ?_;rintro v w ⟨rfl,hx119⟩;replace H:=H.call hx119;refine Ab<|Bv (H.ext)<|A0 U U ?_;refine He U (.bool _) U<|A6<|A5 U<|Ab<|Bv (H.ext)<|Bu<|Bf<|B6 (v:=(.bool _)) U U U ?_;exact⟨rfl,((hE0.trans hE18).trans hE10).trans H.ext⟩
     .exact absurd ⟨hok,hdy⟩ hbad
open Go.GV Go.Proofs.Tryz Go.ChangeShapes Go.WideShapes
theorem Us{α β:Type}:∀l:List<|α × β,(l.map (·.1)).zip (l.map (·.2))=l
 | []=>rfl
 |x::l=>by
  show(x.1,x.2)::(l.map (·.1)).zip (l.map (·.2))=_;rw[Us l]
section
variable {H:Type}{enc:TypeId × Value->H}{w:World}{base:Nat}{spare:Nat->Bool}{held:Bool}
theorem Abq:∃fs,Tryz.prog.underlying 28=some (.struct fs)/\(List.range 7).map (fun i=>fs[i]?.map fun f=>(f.type,f.offset))=[some (2,0),some (22,1),some (23,2),some (24,3),some (25,4),some (24,5),some (26,6)]:=⟨_,underlying28,by kernel_rfl⟩
theorem Aem:Tryz.prog.cellsOf 28=7:=by kernel_rfl
theorem st1:Tryz.prog.cellsOf 22=1:=by kernel_rfl
theorem st2:Tryz.prog.cellsOf 23=1:=by kernel_rfl
theorem st4:Tryz.prog.cellsOf 25=1:=by kernel_rfl
theorem st6:Tryz.prog.cellsOf 26=1:=by kernel_rfl
theorem Ut:Tryz.prog.cellsOf 67=4:=by kernel_rfl
set_option maxRecDepth 100000 in
theorem Ajz{d:DataW H}(hv:Value.okWide prog w .any b 28 v)(h:DataW.Trod enc prog w base spare held 28 v d ps) :
  ∃(s:Ld) (z:StZ) (au:Option Addr) (nu cu:Nat),v=.agg (stX s z<|.slice au nu cu).toArray/\StAt w s z/\StT s:=by
 obtain⟨fs,ht,hf⟩:=Abq;obtain⟨cs,rfl,_⟩:=okWide_struct ht hv;obtain⟨fuel,hf2⟩:=h;have h:DataW.trod enc prog w base spare held fuel 28 cs.toList=some (d,ps):=by simpa[Value.cells]using hf2
 have hl:=Gz ht h;rw[Aem]at hl;simp only[List.range,List.range.loop,qas,qbv,qci,and_true]at hf;obtain⟨f0,f1,f2,f3,f4,f5,f6⟩:=hf;obtain⟨y0,h0,g0⟩:=CX ht h 0 0 f0 underlying2;obtain⟨aA,cA,acs,hA,RA,-⟩:=EP ht h 1 1 f1 underlying22 st1 Vj Ajb;obtain⟨aD,cD,ds,hD,RD,-,-,GD⟩:=EP ht h 2 2 f2 underlying23 st2 Vk Ajc;obtain⟨y3,h3,g3,g3'⟩:=CX ht h 3 3 f3 underlying24
 obtain⟨aR,cR,lR,hR,RR,-,-,GR⟩:=EP (encd:=Er) (Good:=fun x=>RAt w x.1 x.2/\RT x.1) ht h 4 4 f4 underlying25 st4 Sn (fun n cs y g=>by
  obtain⟨r,q,k1,k2,k3,-⟩:=Adr n cs y g
  exact⟨(r,q),k1,k2,k3⟩)
 obtain⟨y5,h5,g5,g5'⟩:=CX ht h 5 5 f5 underlying24;obtain⟨aQ,cQ,lQ,hQ,-⟩:=EP (encd:=fun x:List Value=>x) (Good:=fun _=>True) ht h 6 6 f6 underlying26 st6 Ut (fun _ cs _ _=>⟨cs,rfl,trivial⟩);have g3:(0:Int)<=y3:=g3;have g3':y3<=18446744073709551615:=g3';have g0:y0<=9223372036854775807:=g0.2;refine⟨⟨y0,acs,ds,y3,lR.map (·.1),y5⟩,⟨aA,cA,aD,cD,aR,cR,lR.map (·.2)⟩,aQ,lQ.length,cQ,?_,⟨RA,RD,?_,by rw[qaj,qaj],?_⟩,⟨⟨g3,by dsimp only;omega⟩,fun x hx=>(GD x hx).1,fun r hr=>?_,⟨g5,g5'⟩,g0⟩⟩
 .obtain⟨l,rfl⟩:∃l:List Value,cs=l.toArray:=⟨cs.toList,rfl⟩
  match l,hl with
  | [_,_,_,_,_,_,_],_ =>
   simp at h0 hA hD h3 hR h5 hQ;simp[h0,hA,hD,h3,hR,h5,hQ]
 .rw[Us];exact RR
 .rw[Us];exact fun x hx=>(GR x hx).1
 .obtain⟨x,hx,rfl⟩:=qak.1 hr;exact(GR x hx).2.N
end
open Go.GV Go.Proofs.Tryz Go.ChangeShapes Go.WideShapes Go.RowKit
set_option maxRecDepth 100000 in
theorem Kg(os:Os)(started:os.Started)(H:Type)(enc:TypeId × Value->H) :
  ReturnsInHanded {} checked os 3 .any (Rows.ledgerPlaysSpec.pre6 enc prog Tryz.f3 Rows.ledgerPlaysRow.domain false) (Rows.ledgerPlaysSpec.post enc prog Tryz.f3 false true false false):=by
 refine returnsInHanded_of_change (C:=checked) own started (by kernel_rfl) func3
  (ChangeSpec.witness6 (enc:=enc) (C:=checked) false ⟨#[],#[.agg #[.int .i64 0,.slice none 0 0,.slice none 0 0,.int .u64 0,.slice none 0 0,.int .u64 0,.slice none 0 0],.bool false,.slice none 0 0],[]⟩ 8 (by kernel_rfl) (by kernel_rfl) (by kernel_rfl) (by kernel_rfl)) ?_
 intro W base args ds gs before hval0 hW hcnd _;have hval:∀(j:Nat) t v,Tryz.f3.params[j]?=some t->args[j]?=some v->Value.okWide prog W .any base t v:=hval0;have hW':=hW;obtain⟨p,q,hA0,hV,rfl,hfz,hnd⟩:=hW;have hA:DataW.TrodAll enc prog W 0 (fun _=>true) true Tryz.f3.params.toList args.toList ds p:=hA0;rw[params3]at hA hval;obtain⟨v0,vs0,d0,ds0,p0,q0,hargs,rfl,rfl,h0,r0⟩:=trodAll_cons hA;obtain⟨v1,vs1,d1,ds1,p1,q1,rfl,rfl,rfl,h1,r1⟩:=trodAll_cons r0;obtain⟨v2,vs2,d2,ds2,p2,q2,rfl,rfl,rfl,h2,r2⟩:=trodAll_cons r1;obtain⟨rfl,rfl,rfl⟩:=trodAll_nil r2;obtain rfl:args=#[v0,v1,v2]:=by cases args;simp_all
 obtain⟨st0,sz0,au0,nu0,cu0,rfl,R0,H0⟩:=Ajz (hval 0 _ v0 rfl rfl) h0;obtain⟨k1,rfl,rfl,rfl⟩:=open_bool underlying4 (hval 1 _ v1 rfl rfl) h1;obtain⟨a2,c2,l2,rfl,R2,H2⟩:=Ad0 (hval 2 _ v2 rfl rfl) h2;refine(N5 k1 a2 c2 l2 W R0 H0 R2 H2).calls.mono ?_;rintro e W' ⟨v,rfl,rfl,hx⟩;exact⟨_,rfl,XM Adq U U underlying4 (fun ds h=>match ds,h with | [_,_,_],_=>rfl) hW' hx⟩
theorem N6:jn1 prog 3 Tryz.f3 Rows.ledgerPlaysSpec Rows.ledgerPlaysRow=true:=by kernel_rfl
theorem N7:jn2 prog 3 Tryz.f3 Rows.ledgerPlaysSpec Rows.ledgerPlaysRow=true:=by kernel_rfl
theorem N8:jn3 prog 3 Tryz.f3 Rows.ledgerPlaysSpec Rows.ledgerPlaysRow=true:=by kernel_rfl
theorem N9:jn4 prog 3 Tryz.f3 Rows.ledgerPlaysSpec Rows.ledgerPlaysRow=true:=by kernel_rfl
theorem NA:jn5 prog 3 Tryz.f3 Rows.ledgerPlaysSpec Rows.ledgerPlaysRow=true:=by kernel_rfl
theorem NB:joinedFacts prog 3 Tryz.f3 Rows.ledgerPlaysSpec Rows.ledgerPlaysRow=true:=VO N6 N7 N8 N9 NA
theorem ledgerPlays_holds:Rows.LedgerPlaysSaid :=
 OpenClaim.holds_of_wide 3 Tryz.f3 rfl rfl rfl rfl rfl rfl rfl ⟨rfl,rfl,rfl,rfl,rfl⟩ rfl rfl rfl rfl rfl (by kernel_rfl) func3 NB
  (qbe<|by kernel_rfl) (by unfold Func.isWrapper;rw[if_neg<|qbq<|by kernel_rfl];exact⟨rfl,rfl⟩)
  (fun os started H enc _=>Kg os started H enc)
#print axioms ledgerPlays_holds
end Go.Proofs.YtfnfnmgilmejmaaGreat
