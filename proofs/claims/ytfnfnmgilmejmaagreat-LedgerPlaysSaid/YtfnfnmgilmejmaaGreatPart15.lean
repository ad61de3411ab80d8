/- Part 15 of the proof. -/
import Derived.Test.YtfnfnmgilmejmaaGreatPart14
set_option maxRecDepth 20000
set_option maxHeartbeats 8000000
namespace Go.Proofs.YtfnfnmgilmejmaaGreat
open Go.GV Go.Proofs.Tryz
attribute [local irreducible] A4 W Wq Wt
variable{α:Type}{k:Ak}{cmp:Bool}{e:Env}{id kd x:Int}{s s':Ld}{B E L L' R R' R2:List (Nat × Obj)}{l:List Int}{S S':List Nat}{qs:List RSl}{full:List Value}{b b6 bl d i j n:Nat}{T T':Nat->Prop}{o o' o6 o6' o6'':Obj}{a:Option Addr}{c p11 p12 p7:Prop}{q:RSl}{m':Rm}{r:Rnd}{p:Rp}{y z:StZ}{t:TypeId}{u u2 v v1 x11 x7:Value}{w w' w0 w1 w2:World}
abbrev stX(s:Ld)(z:StZ)(u:Value):List Value:=[.int .i64 s.day,.slice z.aA s.acs.length z.cA,.slice z.aD s.ds.length z.cD,.int .u64 s.nx,.slice z.aR s.rn.length z.cR,.int .u64 s.no,u]
theorem Abf(w:World)(Z:StAt w s z)(Y:StAt w s y)(hB:∀r∈s.rn,RBnd r)(hl1:s.acs.length<=1000000:=by omega)(hl2:s.ds.length<=1000000:=by omega)(hl3:s.rn.length<=1000000:=by omega):
  Ret prog 16 #[.agg (stX s z u).toArray,.agg (stX s y u2).toArray] w fun v w'=>v=.bool true/\Ext [] w w':=by
 obtain⟨w0,rfl,H⟩:=qE w;refine iG func16 U<|Af<|Be (stX s z u) (.agg _) U U H ?_;rintro b2 w - H;refine Be (stX s y u2) (.agg _) U U H ?_;rintro b3 w - H;refine qG 4 ?_;refine Bo (α:=Unit) 35184372088816 (fun _=>[(4,.bool<|true)]) (fun _ w'=>Ctx w0 [] w' [(b3,Bl 28 (stX s y u2)),(b2,Bl 28 (stX s z u))]) U ?_ ?_
 .refine qG 6 ?_;refine iC 10 U ?_ ?_
  .intro h1;refine qG 7 ?_;refine iC 17 U ?_ ?_
   .intro h2;refine qG 7 ?_;refine iC 24 U ?_ ?_
    .intro h3;refine qG 4 ?_;refine Aj qB (Wu z.aA y.aA _ z.cA _ y.cA s.acs s.acs _ (Z.A.ext0 H.ext) U hl1 (Y.A.ext0 H.ext) U hl1) U ?_;rintro v w ⟨rfl,hx29⟩;replace H:=H.call hx29;rw[qam rfl];refine qG 2 ?_;refine Az 31 U ?_ ?_
     .intro h4;refine qG 4 ?_;refine Aj qB (Wv z.aD y.aD _ z.cD _ y.cD s.ds s.ds _ (Z.D.ext0 H.ext) U hl2 (Y.D.ext0 H.ext) U hl2) U ?_;rintro v w ⟨rfl,hx36⟩;replace H:=H.call hx36;rw[qam rfl];refine qG 2 ?_;refine Az 38 U ?_ ?_
      .intro h5;refine qG 4 ?_;refine Aj qB (Xl z.aR y.aR _ z.cR _ y.cR s.rn z.qs y.qs _ (Z.R.ext0 H.ext) U hl3 (Y.R.ext0 H.ext) U Z.n Y.n (fun x hx=>(Z.K x hx).ext0 H.ext) (fun x hx=>(Y.K x hx).ext0 H.ext) hB) U ?_;rintro v w ⟨rfl,hx43⟩;replace H:=H.call hx43;refine qG 3 ?_;exact⟨rfl,(),rfl,⟨qaa Value.bool<|by rfl,trivial⟩,H⟩
      .intro h6;refine qG 8 ?_;exact⟨rfl,(),rfl,⟨qaa Value.bool<|by(simp_all;done),trivial⟩,H⟩
     .intro h7;refine qG 15 ?_;exact⟨rfl,(),rfl,⟨qaa Value.bool<|by(simp_all;done),trivial⟩,H⟩
    .intro h8;refine qG 22 ?_;exact⟨rfl,(),rfl,⟨qaa Value.bool<|by(simp_all;done),trivial⟩,H⟩
   .intro h9;refine qG 29 ?_;exact⟨rfl,(),rfl,⟨qaa Value.bool<|by(simp_all;done),trivial⟩,H⟩
  .intro h10;refine qG 36 ?_;exact⟨rfl,(),rfl,⟨qaa Value.bool<|by(simp_all;done),trivial⟩,H⟩
 rintro - j4 w H;refine qG 2 ?_;exact⟨rfl,H.ext⟩
theorem Abg(e:Int)(a b:Option Addr)(n m c d:Nat)(l:List Int)(w:World)(R:Rd w a 1 I1 l)(hn:l.length=n)(Ry:Rd w b 1 I1 l)(hm:l.length=m)(hn2:n<=1000000:=by omega):
  Ret prog 15 #[.agg #[.int .i64 e,.slice a n c],.agg #[.int .i64 e,.slice b m d]] w fun v w'=>v=.bool true/\Ext [] w w':=by
 subst hn hm;obtain⟨w0,rfl,H⟩:=qE w;refine iG func15 U<|Af<|Be [.int .i64 e,.slice a l.length c] (.agg _) U U H ?_;rintro b2 w - H;refine Be [.int .i64 e,.slice b l.length d] (.agg _) U U H ?_;rintro b3 w - H;refine qG 5 ?_;refine Bo (α:=Unit) 1048512 (fun _=>[(19,.bool<|false)]) (fun _ w'=>Ctx w0 [] w' [(b3,Bl 43 [.int .i64 e,.slice b l.length d]),(b2,Bl 43 [.int .i64 e,.slice a l.length c])]) U ?_ ?_
 .refine qG 6 ?_;refine iC 11 U ?_ ?_
  .intro h1;refine qG 9 ?_;exact⟨rfl,(),rfl,⟨qaa Value.bool<|by(simp_all;done),trivial⟩,H⟩
  .intro h2;refine qG 9 ?_;exact⟨rfl,(),rfl,⟨qaa Value.bool<|by(simp_all;done),trivial⟩,H⟩
 rintro - j19 w H;refine qG 9 ?_;refine AY 274876858416 (α:=Nat) (fun i=>[(5,.int .i64 (i:Int))]) (fun i w'=>i<=l.length/\Ctx w0 [] w' [(b3,Bl 43 [.int .i64 e,.slice b l.length d]),(b2,Bl 43 [.int .i64 e,.slice a l.length c])]) (fun i=>l.length - i) 0 U ?_ ?_ ?_
 .exact⟨rfl,trivial⟩
 .exact⟨qai _,H⟩
 .clear H;rintro i j w ⟨hi,H⟩;refine qGp 9 ?_ ?_
  .intro h2;obtain⟨x,hx⟩:=Au (l:=l) (i:=i);refine A1<|Aa<|AB<|AK<|CG (fun x=>x=_) AW U ?_;refine Aq qf U<|B7 qf U (by rintro _ rfl;exact H.drew) at1 U ?_;refine AS U<|Br R qf qf U U (by rfl) ?_;refine BD qf U (by rintro _ rfl;exact(((R.ext0 H.drew.ext).one (f:=Cu) hx))) ?_;refine Aq qf U<|B7 qf U (by rintro _ rfl;exact H.drew) at0 U ?_;refine AS U<|Br Ry qf qf U U (by rfl) ?_;refine BD qf U (by rintro _ rfl;exact(((Ry.ext0 H.drew.ext).one (f:=Cu) hx))) ?_;refine LM U U<|Cc ?_;rintro _ rfl;replace H:=H.drew;refine iB U ?_ ?_
   .intro h3;omega
   .intro h3;refine A1<|Av<|Aa<|Aw<|Ad U<|Ap U U ?_;refine Ag U<|qA ?_;exact⟨i+1,rfl,⟨rfl,trivial⟩,⟨by omega,H⟩,by omega⟩
  .intro h2;refine Bi<|Am<|Am<|A8<|Aa<|Af<|A5 U<|qA<|Bf<|B6 (v:=(.bool _)) U U U ?_;exact⟨rfl,H.ext⟩
theorem J7(a b:Option Addr)(n m c d:Nat)(l:List Int)(w:World)(R:Rd w a 1 I1 l)(hn:l.length=n)(hn2:n<=1000000)(Ry:Rd w b 1 I1 l)(hm:l.length=m) :
  Ret prog 30 #[.agg #[.int .i64 0,.slice a n c],.slice b m d] w fun v w'=>v=.bool true/\Ext [] w w':=by
 subst hn hm;obtain⟨w0,rfl,H⟩:=qE w;refine iG func30 U<|Af<|Be [.int .i64 0,.slice a l.length c] (.agg _) U U H ?_;rintro b2 w - H;refine qG 5 ?_;refine Bo (α:=Unit) 131008 (fun _=>[(16,.bool<|false)]) (fun _ w'=>Ctx w0 [] w' [(b2,Bl 43 [.int .i64 0,.slice a l.length c])]) U ?_ ?_
 .refine qG 4 ?_;refine iC 9 U ?_ ?_
  .intro h1;refine qG 8 ?_;exact⟨rfl,(),rfl,⟨qaa Value.bool<|by(simp_all;done),trivial⟩,H⟩
  .intro h2;refine qG 8 ?_;exact⟨rfl,(),rfl,⟨qaa Value.bool<|by(simp_all;done),trivial⟩,H⟩
 rintro - j16 w H;refine qG 9 ?_;refine AY 8589803568 (α:=Nat) (fun i=>[(5,.int .i64 (i:Int))]) (fun i w'=>i<=l.length/\Ctx w0 [] w' [(b2,Bl 43 [.int .i64 0,.slice a l.length c])]) (fun i=>l.length - i) 0 U ?_ ?_ ?_
 .exact⟨rfl,trivial⟩
 .exact⟨qai _,H⟩
 .clear H;rintro i j w ⟨hi,H⟩;refine qGp 8 ?_ ?_
  .intro h2;obtain⟨x,hx⟩:=Au (l:=l) (i:=i);refine A1<|Aa<|AB<|AK<|CG (fun x=>x=_) AW U ?_;refine Aq qf U<|B7 qf U (by rintro _ rfl;exact H.drew) at0 U ?_;refine AS U<|Br R qf qf U U (by rfl) ?_;refine BD qf U (by rintro _ rfl;exact(((R.ext0 H.drew.ext).one (f:=Cu) hx))) ?_;refine BT U<|AS U<|Br Ry qf qf U U (by rfl) ?_;refine BD qf U (by rintro _ rfl;exact(((Ry.ext0 H.drew.ext).one (f:=Cu) hx))) ?_;refine LM U U<|Cc ?_;rintro _ rfl;replace H:=H.drew;refine iB U ?_ ?_
   .intro h3;omega
   .intro h3;refine A1<|Av<|Aa<|Aw<|Ad U<|Ap U U ?_;refine Ag U<|qA ?_;exact⟨i+1,rfl,⟨rfl,trivial⟩,⟨by omega,H⟩,by omega⟩
  .intro h2;refine Bi<|Am<|Am<|A8<|Aa<|Af<|A5 U<|qA<|Bf<|B6 (v:=(.bool _)) U U U ?_;exact⟨rfl,H.ext⟩
def KY(s:Ld):Bool:=decide ((s.acs.length:Int)<=40) && (decide ((s.ds.length:Int)<=100) && Pq s.rn)
theorem Abh(w:World)(Z:StAt w s z)(_:AF u=true) :
  Ret prog 5 #[.agg (stX s z u).toArray] w fun v w'=>v=.bool (KY s)/\Ext [] w w':=by
 obtain⟨w0,rfl,H⟩:=qE w;refine Ao (fn:=Tryz.f5) func5 U [.agg (stX s z u).toArray] U<|Af<|Be (stX s z u) (.agg _) U U H ?_;rintro b1 w - H;refine qG 4 ?_;refine Bo (α:=Unit) 262140 (fun _=>[(2,.bool<|KY s)]) (fun _ w'=>Ctx w0 [] w' [(b1,Bl 28 (stX s z u))]) U ?_ ?_
 .refine qG 5 ?_;refine iC 7 U ?_ ?_
  .intro h1;refine qG 6 ?_;refine iC 13 U ?_ ?_
   .intro h2;refine qG 2 ?_;refine Aj qB (Aa5 z.aR _ z.cR s.rn z.qs _ (Z.R.ext0 H.ext) Z.n U) U ?_;rintro v w' ⟨rfl,rfl⟩;refine qG 3 ?_;exact⟨rfl,(),rfl,⟨qaa Value.bool (by clear H Z;unfold KY;rw[qac];simp_all;try omega),trivial⟩,H⟩
   .intro h3;refine qG 6 ?_;exact⟨rfl,(),rfl,⟨qaa Value.bool (by clear H Z;unfold KY;rw[qac];simp_all;try omega),trivial⟩,H⟩
  .intro h4;refine qG 12 ?_;exact⟨rfl,(),rfl,⟨qaa Value.bool (by clear H Z;unfold KY;rw[qac];simp_all;try omega),trivial⟩,H⟩
 rintro - j2 w H;refine qG 2 ?_;exact⟨rfl,H.ext⟩
def Ld.Days(s:Ld):Prop:=∀r∈s.rn,r.day<=s.day
def ofE(s:Ld):Int:=if CO s.acs≠0 then CO s.acs else if ofC s.ds s.nx≠0 then ofC s.ds s.nx else arE s.rn
structure StIn(s:Ld):Prop where
 a:s.acs.length<=1000000
 d:s.ds.length<=1000000
 r:s.rn.length<=1000000
 nx:0<=s.nx/\s.nx<18446744073709551616
 ids:∀d∈s.ds,0<=d.id/\d.id<18446744073709551616
 bnd:∀r∈s.rn,RBnd r
 no:0<=s.no/\s.no<=18446744073709551615
 day:s.day<=9223372036854775807
theorem Q0(hx:Ext [] w w')(h1:w'.heap[b]?=some o)(h2:w.heap.size<=b)(h3:∀x∈ent a t full,w'.heap[x.1]?=some x.2/\w.heap.size<=x.1/\x.1≠b):Ctx w [] w' ((b,o)::ent a t full) :=
 ⟨hx,fun y hy=>(qaf.1 hy).elim (fun e=>by rw[e];exact h1) fun h=>(h3 y h).1,qbf.2 ⟨fun y hy e=>(h3 y hy).2.2 e.symm,DX⟩,fun y hy => .inr ((qaf.1 hy).elim (fun e=>by rw[e];exact h2) fun h=>(h3 y h).2.1)⟩
theorem permO(l r d b s a:α)(E:List α):(l::r::d::b::s::a::E).Perm (s::l::r::a::d::b::E):=by
 classical
 refine qb7.2 fun x=>?_;simp only[qbz];omega
theorem Ajt(w:World)(Z:StAt w s z)(hin:StIn s) :
  Ret prog 9 #[.agg (stX s z u).toArray] w fun v w'=>(s.Ok/\s.Days/\∃m,v=.tuple #[ptr m.bl,.int .i64 0]/\Ctx w [] w' (LL m s)/\LdIn w' m s (fun x=>x∈CR m s))\/(¬(s.Ok/\s.Days)/\v=.tuple #[.pointer none,.int .i64<|ofE s]/\ofE s≠0/\Ext [] w w'):=by
 obtain⟨w0,rfl,H⟩:=qE w;have l1:=hin.a;have l2:=hin.d;have l3:=hin.r;have hE7:arE s.rn≠0:=by unfold arE;split <;> decide
 refine Ao (fn:=Tryz.f9) func9 U [.agg (stX s z u).toArray] U<|Af<|Be (stX s z u) (.agg _) U U H ?_;rintro b1 w - H;refine Bx U<|Ag U<|qA<|Af<|Ae qf U<|Bh qf U H at0 U<|Aj qB (Ai6 z.aA _ z.cA s.acs _ (Z.A.ext0 H.ext) U) U ?_;rintro v w ⟨p,rfl,hp0,hp1,hx16⟩;obtain⟨pa,rfl⟩:∃pa,p=.pointer pa:=(Decidable.em<|CO s.acs=0).elim (fun h=>⟨_,(hp1 h).choose_spec.choose_spec.choose_spec.choose_spec.1⟩) fun h=>⟨_,hp0 h⟩;refine E0 U<|BV U U<|BV U U<|Bx U<|Ag U<|qA<|AB<|Af<|Ad U<|CV U U ?_;refine qA<|iB U ?_ ?_
 .intro h1;refine Af<|Ad U<|Bx U<|Ag U<|qA<|Bf<|AD<|Cz (v1:=(.pointer _)) (v2:=(.int _ _)) U U U U ?_;have hC:ofE s=CO s.acs:=if_pos h1;rw[hC];exact .inr ⟨fun h=>h1 h.1.ac,rfl,h1,H.ext.trans hx16⟩
 .intro h1;have h1':CO s.acs=0:=by omega
  obtain⟨ba,a',c',full,hpe,hA,OA,hbA,hnA⟩:=hp1 h1';cases hpe;replace H:=(Ctx.back (L1:=[]) (L2:=[_]) H<|Q0 hx16 hA hnA hbA).comm;refine A1<|Aa<|Af<|Ae qf U<|Bh qf U H at0 U<|Ae qf U<|Bh qf U H at0 U<|Aj qB (Ze z.aD _ z.cD s.ds s.nx _ (Z.D.ext0 H.ext) U hin.nx hin.ids) U ?_;rintro v w ⟨p,rfl,hp0,hp1,hx27⟩;obtain⟨pa,rfl⟩:∃pa,p=.pointer pa:=(Decidable.em<|ofC s.ds s.nx=0).elim (fun h=>⟨_,(hp1 h).choose_spec.choose_spec.choose_spec.1⟩) fun h=>⟨_,hp0 h⟩;refine E0 U<|BV U U<|BV U U<|Bx U<|Ag U<|qA<|AB<|Af<|Ad U<|CV U U ?_;refine qA<|iB U ?_ ?_
  .intro h2;refine Af<|Ad U<|Bx U<|Ag U<|qA<|Bf<|AD<|Cz (v1:=(.pointer _)) (v2:=(.int _ _)) U U U U ?_;have hC:ofE s=ofC s.ds s.nx:=by unfold ofE;rw[if_neg<|by omega,if_pos h2]
   rw[hC];exact .inr ⟨fun h=>h2 h.1.du,rfl,h2,H.ext.trans hx27⟩
  .intro h2;have h2':ofC s.ds s.nx=0:=by omega
   have hE:ofE s=arE s.rn:=by unfold ofE;rw[if_neg<|by omega,if_neg<|by omega]
   obtain⟨bd,b,o,hpe,hD,hb,hM,hnD,hnb,hne⟩:=hp1 h2';cases hpe
   replace H:=Ctx.back (L1:=[]) (L2:=(b1,_)::(ba,_)::ent a' 162 full) H (⟨hx27,fun y hy=>by
    simp only[qaf,qan,or_false]at hy
    rcases hy with rfl|rfl
    .exact hD
    .exact hb,by simp only[qbf,qab,forall_eq,qan,false_implies,implies_true,List.Pairwise.nil,and_true];exact hne,fun y hy=>by
    simp only[qaf,qan,or_false]at hy
    rcases hy with rfl|rfl
    .exact .inr hnD
    .exact .inr hnb⟩:Ctx _ [] _ [(bd,Bl 156 (DU b s.nx)),(b,o)])
   refine A1<|Aa<|Af<|Ae qf U<|Bh qf U H at2 U<|Ae qf U<|Bh qf U H at2 U<|Aj qB (Ad7 z.aR _ z.cR s.rn z.qs s.no _ (Z.R.ext0 H.ext) Z.n U (fun x hx=>(Z.K x hx).ext0 H.ext) hin.bnd hin.no) U ?_;rintro v w3 ⟨hx38,hg⟩;obtain⟨p,code,rfl,hg2⟩:∃(p:Option Addr) (code:Int),v=.tuple #[.pointer p,.int .i64 code]/\((code=0/\ArOk s.rn s.no/\∃br arch,p=some ⟨br,0,none⟩/\ArIn w w3 br arch s.rn s.no)\/(code=arE s.rn/\¬ArOk s.rn s.no/\p=none)):=hg.elim (fun⟨g1,br,arch,g2,g3⟩=>⟨_,_,g2,.inl ⟨rfl,g1,br,arch,rfl,g3⟩⟩)<|fun⟨g1,g2⟩=>⟨_,_,g2,.inr ⟨rfl,g1,rfl⟩⟩;refine E0 U<|BV U U<|BV U U<|Bx U<|Ag U<|qA<|AB<|Af<|Ad U<|CV U U ?_;refine qA<|iB U ?_ ?_
   .intro h3;refine Af (Ad U<|Bx U<|Ag U<|qA<|Bf<|AD<|Cz (v1:=(.pointer _)) (v2:=(.int _ _)) U U U U ?_)
    rcases hg2 with⟨rfl,-⟩|⟨rfl,g1,rfl⟩
    .exact absurd U h3
    .rw[hE];exact .inr ⟨fun h=>g1 ⟨h.1.kept,h.1.nos,h.1.may⟩,rfl,h3,H.ext.trans hx38⟩
   .intro h3
    rcases hg2 with⟨rfl,AO,br,arch,rfl,AI⟩|⟨rfl,-⟩
    .have HC:=Ctx.back (L1:=[]) (L2:=(bd,_)::(b,_)::(b1,_)::(ba,_)::ent a' 162 full) H (⟨hx38,fun y hy=>by rw[qab.1 hy];exact AI.blk,List.pairwise_singleton ..,fun y hy=>by rw[qab.1 hy];exact .inr AI.new⟩:Ctx _ [] _ [(br,Bl 159 arch)]);have hidw:∀y∈(bd,Bl 156 (DU b s.nx))::(b,o)::(b1,Bl 28 (stX s z u))::(ba,Bl 153 [.slice a' s.acs.length c'])::ent a' 162 full,y.1<w.heap.size:=fun y hy=>AX<|H.blk y hy;have hS3:w3.heap[b1]?=some (Bl 28 (stX s z u)):=HC.get at3;clear H;have H:=Ctx.start w3 [];refine A1<|Aa<|Af<|AV U<|AV U<|AV U<|Ae qf U<|A9 qf U ((by rw[Ai<|H.ext.to hS3<|by simp];rfl)) ?_;refine Bd [ptr ba,ptr bd,ptr br,.int .i64 s.day] qf qf<|Be [ptr ba,ptr bd,ptr br,.int .i64 s.day] (.agg _) U U H ?_;rintro b50 w9 - H
     refine Bx U<|qA<|AB<|Af<|Ae qf U<|A9 qf U ((by rw[Ai<|H.ext.to hS3<|by simp];rfl)) ?_;refine Cp qf U<|Ad U<|qA<|AK ?_;have H9:=H;have hn50:w3.heap.size<=b50:=(H9.own _<|qah ..).elim (fun h=>by cases h) id;have hx49:=H9.ext;have HL:=Ctx.back (L1:=[]) HC H9;have hS:w9.heap[b1]?=some (Bl 28 (stX s z u)):=H9.ext.to hS3 (by simp);have hL9:=H9.get at0;have hA9:w9.heap[ba]?=_:=HL.blk (ba,Bl 153 [.slice a' s.acs.length c'])<|qap [_,_,_,_,_]<|qah ..;have RA9:Rd w9 a' 2 Cg s.acs:=OS.rd (t:=162) OA (fun y hy=>HL.blk y<|qap [_,_,_,_,_,_] hy) (fun _ _=>rfl) (by decide);have hE0:=HL.ext;have RD9:=Z.D.ext0 hE0;have RR9:=Z.R.ext0 hE0;have hzl:(s.rn.zip z.qs).length=s.rn.length:=by rw[qb3,Z.n,qdq]
     clear H H9;have H:=Ctx.start w9 [];refine AY 2361165227036313125900 (α:=Nat) (fun i=>[(54,.int .i64 (i:Int))]) (fun i w'=>i<=s.ds.length/\Ctx w9 [] w' []/\∀(k:Nat) (d:Du),k<i->s.ds[k]?=some d->inA s.acs d.fr=true/\inA s.acs d.to=true) (fun i=>s.ds.length - i) 0 U ?_ ?_ ?_
     .exact⟨rfl,trivial⟩
     .exact⟨qai _,H,fun k x h=>absurd h<|qay _⟩
     .clear H;rintro i j w ⟨hi,H,hall⟩;refine Af<|CH U U<|qA<|AB<|iB U ?_ ?_
      .intro h4;obtain⟨d,hd⟩:=Au (l:=s.ds) (i:=i);refine A1<|Aa<|AB<|AK<|Af<|A2 RD9 qf qf U U (by rfl) ?_;refine BC _ qf qf U U (((RD9.ext0 H.ext).row hd U))<|AN qf H ?_;rintro b10 w - H;refine AM qf U U U (by exact Cx _) H at0 U ?_;rintro w H;refine qA<|Af<|Bo (α:=Unit) 1180303390341259591680 (fun _=>[(69,.bool<|(!inA s.acs d.fr || !inA s.acs d.to))]) (fun _ w'=>Ctx w9 [] w' [(b10,Bl 111 (BK d))]) U ?_ ?_
       .refine AV U (Ae qf U<|Bh qf U H at0 U<|Aj qB (KV d.fr _ (H.ext.to hL9<|by simp) (H.ext.to hA9<|by simp) (RA9.ext0 H.ext) l1) U ?_);rintro v w ⟨rfl,hx⟩;replace H:=H.call hx;refine Df U<|Bj U<|iC 63 U ?_ ?_
        .intro h1;refine Al U<|Al U<|Al U<|Al U<|Al U<|Bz U (.bool _) U<|Ab ?_;exact⟨rfl,(),rfl,⟨qaa Value.bool<|by(simp_all;done),trivial⟩,H⟩
        .intro h2;refine AV U<|Ae qf U<|Bh qf U H at0 U<|Aj qB (KV d.to _ (H.ext.to hL9<|by simp) (H.ext.to hA9<|by simp) (RA9.ext0 H.ext) l1) U ?_;rintro v w ⟨rfl,hx⟩;replace H:=H.call hx;refine Df U<|B9 U (.bool _) U<|Ab ?_;exact⟨rfl,(),rfl,⟨qaa Value.bool<|by(simp_all;done),trivial⟩,H⟩
       rintro - j69 w H;refine A3 _ U ?_ ?_
       .intro h5;refine Af<|Bx U<|Ag U<|qA<|Bf<|Bn<|AD<|AD<|Bn<|AD<|Cz (v1:=(.pointer _)) (v2:=(.int _ _)) U U U U ?_;rw[hE];have hE1:arE s.rn=1:=if_neg (by have:=AO.kept;omega);refine .inr ⟨fun h=>?_,by rw[hE1],hE7,hE0.trans H.ext⟩;have h6:=h.1.bk d<|qad hd;have h7:=CD ((EK h2').1 d<|qad hd).1;rw[Dx.2 ⟨h7.1.1,h6.1⟩,Dx.2 ⟨h7.2.1.1,h6.2⟩]at h5;cases h5
       .intro h5;refine A1<|Av<|Aa<|Aw<|Ap U U ?_;refine Ad U<|qA ?_;refine⟨i+1,rfl,⟨rfl,trivial⟩,⟨by omega,(Ctx.start w9 []).call H.ext,fun k x hk hx=>?_⟩,by omega⟩
        rcases qao k i with h7|h7
        .exact hall k x h7 hx
        .obtain rfl:k=i:=by omega
         rw[hd]at hx;cases hx
         simpa using h5
      .intro h4;obtain rfl:i=s.ds.length:=by omega
       refine Bi<|Am<|Am<|A8<|Aa<|AB<|Af<|Ae qf U<|A9 qf U ((by rw[Ai<|H.ext.to hS<|by simp];rfl)) ?_;refine Cp qf U<|Ad U<|qA<|AK<|AY 19323923647902588214448140 (α:=Nat) (fun i=>[(74,.int .i64 (i:Int))]) (fun i w'=>i<=s.rn.length/\Ctx w9 [] w' []/\∀(k:Nat) (x:Rnd),k<i->s.rn[k]?=some x->x.day<=s.day) (fun i=>s.rn.length - i) 0 U ?_ ?_ ?_
       .exact⟨rfl,trivial⟩
       .exact⟨qai _,H,fun k x h=>absurd h<|qay _⟩
       .clear H;rintro i2 j2 w ⟨hi2,H,hall2⟩;refine Af<|CH U U<|qA<|AB<|iB U ?_ ?_
        .intro h5;obtain⟨r,hr⟩:=Au (l:=s.rn) (i:=i2);obtain⟨q,hq2⟩:=Au (l:=z.qs) (i:=i2) (h:=by have:=Z.n;omega);have hz:(s.rn.zip z.qs)[i2]?=some (r,q):=by rw[qcc];exact⟨hr,hq2⟩
         refine A1<|Aa<|AB<|AK<|Af<|A2 RR9 qf qf U U (by omega) ?_;refine BC _ qf qf U U (((RR9.ext0 H.ext).row hz U))<|AN qf H ?_;rintro b12 w - H;refine AM qf U U U (by exact ES _ _) H at0 U ?_;rintro w H;refine qA<|Af<|Ae qf U<|Bh qf U H at0 U<|Ae qf U<|A9 qf U ((by rw[Ai<|H.ext.to hS<|by simp];rfl)) ?_;refine Es U U<|qA<|iB U ?_ ?_
         .intro h6;refine Af<|Bx U<|Ag U<|qA<|Bf<|Bn<|AD<|AD<|Bn<|AD<|Cz (v1:=(.pointer _)) (v2:=(.int _ _)) U U U U ?_;rw[hE];have hE1:arE s.rn=1:=if_neg (by have:=AO.kept;omega);refine .inr ⟨fun h=>?_,by rw[hE1],hE7,hE0.trans H.ext⟩;have:=h.2 r<|qad hr;dsimp only at h6;omega
         .intro h6;refine A1<|Av<|Aa<|Aw<|Ap U U ?_;refine Ad U<|qA ?_;refine⟨i2+1,rfl,⟨rfl,trivial⟩,⟨by omega,(Ctx.start w9 []).call H.ext,fun k x hk hx=>?_⟩,by omega⟩
          rcases qao k i2 with h7|h7
          .exact hall2 k x h7 hx
          .obtain rfl:k=i2:=by omega
           rw[hr]at hx;cases hx;dsimp only at h6;omega
        .intro h5;obtain rfl:i2=s.rn.length:=by omega
         refine Bi<|Am<|Am<|A8<|Aa<|AB<|Af<|Ae qf U<|A9 qf U ((by rw[Ai<|H.ext.to hS<|by simp];rfl)) ?_;refine CH U U<|qA<|iB U ?_ ?_
         .intro h6;refine Af<|Bx U<|Ag U<|qA<|Bf<|AD<|Cz (v1:=(.pointer _)) (v2:=(.int _ _)) U U U U ?_;rw[hE];have hE1:arE s.rn=1:=if_neg (by have:=AO.kept;omega);exact .inr ⟨fun h=>by have:=h.1.day;omega,by rw[hE1],hE7,hE0.trans H.ext⟩
         .intro h6;refine A1 (Aa<|Af<|AV U<|Bx U<|Ag U<|qA<|Bf<|Cz (v1:=(.pointer _)) (v2:=(.int _ _)) U U U U ?_)
          have hbk:∀d∈s.ds,d.fr<s.acs.length/\d.to<s.acs.length:=fun d hd=>by
           obtain⟨k,hk⟩:=qbi.1 hd;obtain⟨g1,g2⟩:=hall k d (BH hk) hk;exact⟨(Dx.1 g1).2,(Dx.1 g2).2⟩
          have hok:s.Ok:=⟨h1',h2',hbk,⟨by omega,hin.day⟩,AO.kept,AO.nos,AO.may⟩
          have hdy:s.Days:=fun r hr=>by
           obtain⟨k,hk⟩:=qbi.1 hr;exact hall2 k r (BH hk) hk
          have HF:Ctx w0 [] w<|LL ⟨b50,ba,bd,br,b,a',c',full,o,arch⟩ s:=((HL.perm<|permO _ _ _ _ _ _ _).tail).call H.ext;refine .inl ⟨hok,hdy,⟨b50,ba,bd,br,b,a',c',full,o,arch⟩,rfl,HF,OA,hM,hok,AI.len,AI.n,AI.no,fun r hr=>?_,fun x hx=>hx,fun x hx=>?_⟩
          .obtain⟨q,g1,g2,g3⟩:=AI.kept r hr;have hE39:Ext [] w3 w:=hx49.trans H.ext;refine⟨q,g1,g2.ext0 hE39,(g3.or g2.lt).mono fun x hx=>?_⟩;simp only[qas,qaf]at hx
           rcases hx with rfl|rfl|rfl|rfl|rfl|hx
           .exact .inr hn50
           .exact .inl (.inr U)
           .exact .inl (.inl<|hidw (x,_)<|qae _<|qae _<|qae _<|qah ..)
           .exact .inl (.inl<|hidw (x,_)<|qah ..)
           .exact .inl (.inl<|hidw (x,_)<|qae _<|qah ..)
           .obtain⟨y,hy,rfl⟩:=qak.1 hx;exact .inl<|.inl<|hidw y<|qap [_,_,_,_] hy
          .obtain⟨y,hy,rfl⟩:=qak.1 hx;exact AX<|HF.blk y hy
    .exact absurd hE7 (by omega)
theorem Aju(l s a d r:α)(A D E:List α):(l::(((s::a::A)++(d::D))++(r::E))).Perm (s::((l::a::d::r::(A++(D++E)))++[])):=by
 classical
 refine qb7.2 fun x=>?_;simp only[qce,qbz,qcu,qar];omega
theorem Abi(w:World)(Z:StAt w s z)(hin:StIn s) :
  Ret prog 10 #[.agg (stX s z u).toArray] w fun v w'=>(s.Ok/\s.Days/\∃m:Rm,v=.tuple #[ptr m.bl,.int .i64 0]/\m.qs=z.qs/\Rl m s w [] w' [])\/(¬(s.Ok/\s.Days)/\v=.tuple #[.pointer none,.int .i64<|ofE s]/\Ext [] w w'):=by
 obtain⟨w0,rfl,H⟩:=qE w;have l1:=hin.a;have l2:=hin.d;have l3:=hin.r;have hE7:arE s.rn≠0:=by unfold arE;split <;> decide
 refine iG func10 U<|Af<|Be (stX s z u) (.agg _) U U H ?_;rintro b1 w - H;refine Bx U<|Ag U<|qA<|Af<|Ae qf U<|Bh qf U H at0 U<|Aj qB (Zm z.aA _ z.cA s.acs _ (Z.A.ext0 H.ext) U) U ?_;rintro v w ⟨p,rfl,hp0,hp1,hx16⟩;obtain⟨pa,rfl⟩:∃pa,p=.pointer pa:=(Decidable.em<|CO s.acs=0).elim (fun h=>⟨_,(hp1 h).choose_spec.choose_spec.choose_spec.choose_spec.1⟩) fun h=>⟨_,hp0 h⟩;refine E0 U<|BV U U<|BV U U<|Bx U<|Ag U<|qA<|AB<|Af<|Ad U<|CV U U ?_;refine qA<|iB U ?_ ?_
 .intro h1;refine Af<|Ad U<|Bx U<|Ag U<|qA<|Bf<|AD<|Cz (v1:=(.pointer _)) (v2:=(.int _ _)) U U U U ?_;have hC:ofE s=CO s.acs:=if_pos h1;rw[hC];exact .inr ⟨fun h=>h1 h.1.ac,rfl,H.ext.trans hx16⟩
 .intro h1;have h1':CO s.acs=0:=by omega
  obtain⟨ba,a',c',full,hpe,hA,OA,hbA,hnA⟩:=hp1 h1';cases hpe;replace H:=(Ctx.back (L1:=[]) (L2:=[_]) H<|Q0 hx16 hA hnA hbA).comm;refine A1<|Aa<|Af<|Ae qf U<|Bh qf U H at0 U<|Ae qf U<|Bh qf U H at0 U<|Aj qB (Zn z.aD _ z.cD s.ds s.nx _ (Z.D.ext0 H.ext) U hin.nx hin.ids) U ?_;rintro v w ⟨p,rfl,hp0,hp1,hx27⟩;obtain⟨pa,rfl⟩:∃pa,p=.pointer pa:=(Decidable.em<|ofC s.ds s.nx=0).elim (fun h=>⟨_,(hp1 h).choose_spec.choose_spec.choose_spec.choose_spec.1⟩) fun h=>⟨_,hp0 h⟩;refine E0 U<|BV U U<|BV U U<|Bx U<|Ag U<|qA<|AB<|Af<|Ad U<|CV U U ?_;refine qA<|iB U ?_ ?_
  .intro h2;refine Af<|Ad U<|Bx U<|Ag U<|qA<|Bf<|AD<|Cz (v1:=(.pointer _)) (v2:=(.int _ _)) U U U U ?_;have hC:ofE s=ofC s.ds s.nx:=by unfold ofE;rw[if_neg<|by omega,if_pos h2]
   rw[hC];exact .inr ⟨fun h=>h2 h.1.du,rfl,H.ext.trans hx27⟩
  .intro h2;have h2':ofC s.ds s.nx=0:=by omega
   have hE:ofE s=arE s.rn:=by unfold ofE;rw[if_neg<|by omega,if_neg<|by omega]
   obtain⟨bd,ad,cd,fd,hpe,hD,OD,hbD,hnD⟩:=hp1 h2';cases hpe;replace H:=(Ctx.back (L1:=[]) (L2:=(b1,_)::(ba,_)::ent a' 162 full) H<|Q0 hx27 hD hnD hbD).comm;refine A1<|Aa<|Af<|Ae qf U<|Bh qf U H at0 U<|Ae qf U<|Bh qf U H at0 U<|Aj qB (Aa6 z.aR _ z.cR s.rn z.qs s.no _ (Z.R.ext0 H.ext) Z.n U (fun x hx=>(Z.K x hx).ext0 H.ext) hin.bnd hin.no) U ?_;rintro v w3 ⟨hx38,hg⟩;obtain⟨p,code,rfl,hg2⟩:∃(p:Option Addr) (code:Int),v=.tuple #[.pointer p,.int .i64 code]/\((code=0/\ArOk s.rn s.no/\∃br ar cr fr,p=some ⟨br,0,none⟩/\Ctx w [] w3 ((br,A21 ar s.rn.length cr s.no)::ent ar 57 fr)/\OSo ar 0 s.rn.length cr 8 fr ((s.rn.zip z.qs).flatMap Er))\/(code=arE s.rn/\¬ArOk s.rn s.no/\p=none)):=hg.elim (fun⟨g1,br,ar,cr,fr,g2,g3,g4⟩=>⟨_,_,g2,.inl ⟨rfl,g1,br,ar,cr,fr,rfl,g3,g4⟩⟩)<|fun⟨g1,g2⟩=>⟨_,_,g2,.inr ⟨rfl,g1,rfl⟩⟩
   refine E0 U<|BV U U<|BV U U<|Bx U<|Ag U<|qA<|AB<|Af<|Ad U<|CV U U ?_;refine qA<|iB U ?_ ?_
   .intro h3;refine Af (Ad U<|Bx U<|Ag U<|qA<|Bf<|AD<|Cz (v1:=(.pointer _)) (v2:=(.int _ _)) U U U U ?_)
    rcases hg2 with⟨rfl,-⟩|⟨rfl,g1,rfl⟩
    .exact absurd U h3
    .rw[hE];exact .inr ⟨fun h=>g1 ⟨h.1.kept,h.1.nos,h.1.may⟩,rfl,H.ext.trans hx38⟩
   .intro h3
    rcases hg2 with⟨rfl,AO,br,ar,cr,fr,rfl,HR,OR⟩|⟨rfl,-⟩
    .have HC:=(Ctx.back (L1:=[]) (L2:=((b1,Bl 28 (stX s z u))::(ba,Bl 96 [.slice a' s.acs.length c'])::ent a' 162 full)++((bd,RDU ad s.ds.length cd s.nx)::ent ad 111 fd)) H HR).comm;obtain⟨w9,rfl⟩:=qD w3;have hS:w9.heap[b1]?=some (Bl 28 (stX s z u)):=HC.get at0;have hE0:=HC.ext;have RD9:=Z.D.ext0 hE0;have RR9:=Z.R.ext0 hE0;have hzl:(s.rn.zip z.qs).length=s.rn.length:=by rw[qb3,Z.n,qdq]
     have hE1:arE s.rn=1:=if_neg (by have:=AO.kept;omega);clear H;have H:=Ctx.start w9 [];refine A1<|Aa<|AB<|Af<|Ae qf U<|A9 qf U ((by rw[Ai<|H.ext.to hS<|by simp];rfl)) ?_;refine CH U U<|qA<|iB U ?_ ?_
     .intro h4;refine Af<|Bx U<|Ag U<|qA<|Bf<|AD<|Cz (v1:=(.pointer _)) (v2:=(.int _ _)) U U U U ?_;rw[hE];exact .inr ⟨fun h=>by have:=h.1.day;omega,by rw[hE1],hE0.trans H.ext⟩
     .intro h4;refine A1<|Aa<|AB<|Af<|Ag U<|qA<|AK<|AY 9444732948147104383244 (α:=Nat) (fun i=>[(8,.int .i64 (i:Int))]) (fun i w'=>i<=s.ds.length/\Ctx w9 [] w' []/\∀(k:Nat) (d:Du),k<i->s.ds[k]?=some d->d.fr<s.acs.length/\d.to<s.acs.length) (fun i=>s.ds.length - i) 0 U ?_ ?_ ?_
      .exact⟨rfl,trivial⟩
      .exact⟨qai _,H,fun k x h=>absurd h<|qay _⟩
      .clear H;rintro i j w ⟨hi,H,hall⟩;refine AB<|Af<|Ad U<|Ae qf U<|A9 qf U ((by rw[Ai<|H.ext.to hS<|by simp];rfl)) ?_;refine Cp qf U<|CH U U<|qA<|iB U ?_ ?_
       .intro h5;obtain⟨d,hd⟩:=Au (l:=s.ds) (i:=i);refine A1<|Aa<|AB<|AK<|BG [([0,1,2,3,4,5,6,7,8,9,10,11,12,13,14,15,16,17,18,19,20],21)] (fun z=>Ext [] w9 z) [] AW (H.drew.ext) ?_;refine A0 U U ?_;refine Ah qf U<|AU qf U (fun _ hx=>(by rw[Ai<|hx.to hS<|by simp];rfl)) ?_;refine AG U<|B4 RD9 qf qf U U (by rfl) ?_;refine Ah qf U<|AU qf U (fun _ hx=>((RD9.ext0 hx).fld hd rfl (j:=1) rfl)) ?_;refine Ah qf U<|AU qf U (fun _ hx=>(by rw[Ai<|hx.to hS<|by simp];rfl)) ?_;refine X6 U qf U<|QG U U U<|DT U<|iF 61 U ?_ ?_
        .intro h6;refine Bs U<|Bs U<|Bs U<|Bs U<|Bs U<|Bs U<|Bs U<|Bs U<|Bs U<|Bs U ?_;refine A6 ?_;replace H:=H.drew;refine Bz U (.bool _) U<|Ab<|Bv (H.ext)<|Bu<|EG U<|Af<|Bx U<|Ag U<|qA<|Bf<|Bn<|AD<|AD<|Bn<|AD<|Cz (v1:=(.pointer _)) (v2:=(.int _ _)) U U U U ?_;rw[hE];exact .inr ⟨fun h=>by have:=(h.1.bk d<|qad hd).1;omega,by rw[hE1],hE0.trans H.ext⟩
        .intro h6;refine Ah qf U<|AU qf U (fun _ hx=>(by rw[Ai<|hx.to hS<|by simp];rfl)) ?_;refine AG U<|B4 RD9 qf qf U U (by rfl) ?_;refine Ah qf U<|AU qf U (fun _ hx=>((RD9.ext0 hx).fld hd rfl (j:=2) rfl)) ?_;refine Ah qf U<|AU qf U (fun _ hx=>(by rw[Ai<|hx.to hS<|by simp];rfl)) ?_;refine X6 U qf U<|QG U U U<|A6 ?_;replace H:=H.drew;refine B9 U (.bool _) U<|Ab<|Bv (H.ext)<|Bu<|iB U ?_ ?_
         .intro h7;refine Af<|Bx U<|Ag U<|qA<|Bf<|Bn<|AD<|AD<|Bn<|AD<|Cz (v1:=(.pointer _)) (v2:=(.int _ _)) U U U U ?_;rw[hE];exact .inr ⟨fun h=>by have:=(h.1.bk d<|qad hd).2;omega,by rw[hE1],hE0.trans H.ext⟩
         .intro h7;refine A1<|Av<|Aa<|Aw<|Ad U<|Ap U U ?_;refine Ag U<|qA ?_;refine⟨i+1,rfl,⟨rfl,trivial⟩,⟨by omega,H,fun k x hk hx=>?_⟩,by omega⟩
          rcases qao k i with h7|h7
          .exact hall k x h7 hx
          .obtain rfl:k=i:=by omega
           rw[hd]at hx;cases hx;omega
       .intro h5;obtain rfl:i=s.ds.length:=by omega
        refine Bi<|Am<|Am<|A8<|Aa<|AB<|Af<|Ag U<|qA<|AK<|AY 618960574909724398159135244 (α:=Nat) (fun i=>[(9,.int .i64 (i:Int))]) (fun i w'=>i<=s.rn.length/\Ctx w9 [] w' []/\∀(k:Nat) (x:Rnd),k<i->s.rn[k]?=some x->x.day<=s.day) (fun i=>s.rn.length - i) 0 U ?_ ?_ ?_
        .exact⟨rfl,trivial⟩
        .exact⟨qai _,H,fun k x h=>absurd h<|qay _⟩
        .clear H;rintro i2 j2 w ⟨hi2,H,hall2⟩;refine AB<|Af<|Ad U<|Ae qf U<|A9 qf U ((by rw[Ai<|H.ext.to hS<|by simp];rfl)) ?_;refine Cp qf U<|CH U U<|qA<|iB U ?_ ?_
         .intro h6;obtain⟨r,hr⟩:=Au (l:=s.rn) (i:=i2);obtain⟨q,hq2⟩:=Au (l:=z.qs) (i:=i2) (h:=by have:=Z.n;omega);have hz:(s.rn.zip z.qs)[i2]?=some (r,q):=by rw[qcc];exact⟨hr,hq2⟩
          refine A1<|Aa<|AB<|AK<|BG [([0,1,2,3,4,5,6,7],8)] (fun z=>Ext [] w9 z) [] AW (H.drew.ext) ?_;refine A0 U U ?_;refine Ah qf U<|AU qf U (fun _ hx=>(by rw[Ai<|hx.to hS<|by simp];rfl)) ?_;refine AG U<|B4 RR9 qf qf U U (by omega) ?_;refine Ah qf U<|AU qf U (fun _ hx=>((RR9.ext0 hx).fld hz rfl (j:=1) rfl)) ?_;refine Ah qf U<|AU qf U (fun _ hx=>(by rw[Ai<|hx.to hS<|by simp];rfl)) ?_;refine A6 ?_;replace H:=H.drew;refine Es U U<|Ab<|Bv (H.ext)<|Bu<|iB U ?_ ?_
          .intro h7;refine Af<|Bx U<|Ag U<|qA<|Bf<|Bn<|AD<|AD<|Bn<|AD<|Cz (v1:=(.pointer _)) (v2:=(.int _ _)) U U U U ?_;rw[hE];dsimp only at h7;exact .inr ⟨fun h=>by have:=h.2 r<|qad hr;omega,by rw[hE1],hE0.trans H.ext⟩
          .intro h7;refine A1<|Av<|Aa<|Aw<|Ad U<|Ap U U ?_;refine Ag U<|qA ?_;refine⟨i2+1,rfl,⟨rfl,trivial⟩,⟨by omega,H,fun k x hk hx=>?_⟩,by omega⟩
           rcases qao k i2 with g7|g7
           .exact hall2 k x g7 hx
           .obtain rfl:k=i2:=by omega
            rw[hr]at hx;cases hx;dsimp only at h7;omega
         .intro h6;obtain rfl:i2=s.rn.length:=by omega
          refine Bi<|Am<|Am<|A8<|Aa<|Af<|AV U<|AV U<|AV U<|Ae qf U<|A9 qf U ((by rw[Ai<|H.ext.to hS<|by simp];rfl)) ?_;refine Bd [ptr ba,ptr bd,ptr br,.int .i64 s.day] qf qf<|Be [ptr ba,ptr bd,ptr br,.int .i64 s.day] (.agg _) U U H ?_;rintro b95 w - H;refine Bx U<|Ag U<|qA<|Bf<|Cz (v1:=(.pointer _)) (v2:=(.int _ _)) U U U U ?_
          have hbk:∀d∈s.ds,d.fr<s.acs.length/\d.to<s.acs.length:=fun d hd=>by
           obtain⟨k,hk⟩:=qbi.1 hd;exact hall k d (BH hk) hk
          have hok:s.Ok:=⟨h1',h2',hbk,⟨by omega,hin.day⟩,AO.kept,AO.nos,AO.may⟩
          have hdy:s.Days:=fun r hr=>by
           obtain⟨k,hk⟩:=qbi.1 hr;exact hall2 k r (BH hk) hk
          have HL:=Ctx.back (L1:=[]) HC H;refine .inl ⟨hok,hdy,⟨b95,ba,bd,br,a',c',full,ad,cd,fd,ar,0,cr,fr,z.qs⟩,rfl,rfl,⟨(HL.perm<|Aju _ _ _ _ _ _ _ _).tail,OA,OD,OR,Z.n⟩⟩
    .exact absurd hE7 (by omega)
abbrev rndZ:List Value:=AE ⟨0,0,false,[],0,[],[],[]⟩ ⟨none,0,none,0,none,0,none,0⟩
theorem Xo(w:World)(Z:StAt w s z)(hl:s.rn.length<=1000000000) :
  Ret prog 14 #[.agg (stC s z).toArray] w fun v w'=>Ext [] w w'/\((s.rn=[]/\v=.agg rndZ.toArray)\/∃r q,s.rn.getLast? = some r/\(r,q)∈s.rn.zip z.qs/\z.qs.getLast? = some q/\v=.agg (AE r q).toArray):=by
 obtain⟨w0,rfl,H⟩:=qE w;have hzl:(s.rn.zip z.qs).length=s.rn.length:=by rw[qb3,Z.n,qdq]
 refine iG func14 U<|Af<|Be (stC s z) (.agg _) U U H ?_;rintro b1 w - H;refine AN qf H ?_;rintro b2 w - H;refine qGp 10 ?_ ?_
 .intro h1;refine Af<|Bd rndZ qf qf ?_;refine qG 1 ?_;rintro w H;refine qG 5 ?_;exact⟨H.ext,.inl ⟨qer.1<|by omega,rfl⟩⟩
 .intro h1;obtain⟨r,hr⟩:=Au (l:=s.rn) (i:=s.rn.length - 1);obtain⟨q,hq2⟩:=Au (l:=z.qs) (i:=s.rn.length - 1) (h:=by have:=Z.n;omega);have hz:(s.rn.zip z.qs)[s.rn.length - 1]?=some (r,q):=by rw[qcc];exact⟨hr,hq2⟩
  refine qG 9 ?_;rw[show(s.rn.length:Int) - 1=((s.rn.length - 1:Nat):Int)by omega];refine A2 (Z.R.ext0 H.ext) qf qf U U (by omega)<|BC _ qf qf U U (((Z.R.ext0 H.ext).row hz U)) ?_;refine AM qf U U U (by exact ES _ _) H at0 U ?_;rintro w H;refine qG 4 ?_;exact⟨H.ext,.inr ⟨r,q,by rw[List.getLast?_eq_getElem?];exact hr,qad hz,by rw[List.getLast?_eq_getElem?,Z.n];exact hq2,rfl⟩⟩
theorem Abj(x y z t:α)(A D E R:List α):((x::y::z::t::(A++(D++E)))++R).Perm<|(y::z::(D++A))++(x::t::(E++R)):=by
 classical
 refine qb7.2 fun a=>?_;simp only[qce,qbz,qcu];omega
section
variable {m:Rm}{s:Ld}{w0 w:World}{S:List Nat}{R:List (Nat × Obj)}
theorem Abk(h:b∈(RX m.ba m.a s.acs.length m.c m.full m.bd m.ad s.ds.length m.cd s.nx m.fd).map (·.1)):b∈(RLL m s).map (·.1):=by
 simp only[qas,qau,qaf,qa2]at h |-
 rcases h with h|h|h|h
 .exact .inr (.inl h)
 .exact .inr (.inr<|.inl h)
 .exact .inr (.inr<|.inr<|.inr<|.inr<|.inl h)
 .exact .inr (.inr<|.inr<|.inr<|.inl h)
theorem Abl(h:Rl m s w0 S w R)(hok:s.Ok)(RA:RAt w r q)(hoff:ROff q r (·∈(RLL m s).map (·.1)))(hB:RBnd r) :
  Ret prog 116 #[ptr m.ba,ptr m.bd,.agg (AE r q).toArray] w fun v w'=>v=.int .i64 (Dl s.acs s.ds r)/\∃full ad cd fd,Rl { m with full:=full,ad:=ad,cd:=cd,fd:=fd } { s with acs:=DE s.acs s.ds r,ds:=DM s.acs s.ds r } w0 S w' R/\Ext ((RLL m s).map (·.1)) w w':=by
 have H1:=h.H.perm<|Abj _ _ _ _ _ _ _ _;have H2:=Ctx.lend H1;refine Ret.mono (S2 hok.ac hok.du w H2 h.OA h.OD RA (hoff.mono fun b hb=>Abk hb) hB.es hB.ids hB.fl hB.pot) fun v w' ⟨g1,full,ad,cd,fd,OA,OD,H3⟩=>⟨g1,full,ad,cd,fd,?_,H3.ext.mono fun b hb=>Abk hb⟩
 have hl:(DE s.acs s.ds r).length=s.acs.length:=by
  have h1:=OA.llen;rw[Jg]at h1;omega
 have H4:=Ctx.back H1 H3;rw[<-hl]at OA H4;exact⟨H4.perm (Abj _ _ _ _ _ _ _ _).symm,OA,OD,h.OR,h.n⟩
theorem Aef(h:Rl m s w0 S w R)(hok:s.Ok)(hno:s.no<4611686018427387904)(RA:RAt w r q)(hoff:ROff q r (·∈(RLL m s).map (·.1)))(hB:RBnd r)(hm:Gg r=true) :
  Ret prog 117 #[ptr m.br,.agg (AE r q).toArray] w fun v w'=>v=.tuple #[.int .u64<|s.no+1,.int .i64 0]/\∃ar o cr fr,Rl { m with ar:=ar,o:=o,cr:=cr,fr:=fr,qs:=Ma m.qs q } { s with rn:=DY s.rn { r with no:=s.no+1 },no:=s.no+1 } w0 S w' R:=by
 have hk:=hok.kept;refine Ret.mono (WZ h.p21 h.OR h.n hk.1 ⟨by omega,hno⟩ RA (hoff.mono fun b hb=>?_) hB hm) fun v w' ⟨g1,ar,o,cr,fr,O,H⟩=>⟨g1,ar,o,cr,fr,H.perm (Aa9 _ _ _ _ _ _ _ _).symm,h.OA,h.OD,O,?_⟩
 .simp only[qas,qau,qaf,qa2]at hb |-
  rcases hb with hb|hb
  .exact .inr (.inr<|.inr<|.inl hb)
  .exact .inr (.inr<|.inr<|.inr<|.inr<|.inr hb)
 .have hn:=h.n;unfold Ma DY;rw[qdj,qdj,qat,qat,hn];rfl
end
theorem RAt.re(h:RAt w r q)(no day:Int):RAt w { r with no:=no,day:=day } q:=⟨h.I,h.E,h.F,h.P,h.fc⟩
theorem ROff.re(h:ROff q r T)(no day:Int):ROff q { r with no:=no,day:=day } T:=⟨h.I,h.E,h.F,h.P⟩
theorem SA(os:List Du)(hm:∀d∈os,CZ d=true)(_:s.Ok)(i:Nat):Cl ((os.map Du.am).take i)<=Cl (os.map Du.am) :=
 (JX i fun x hx=>by
  obtain⟨d,hd,rfl⟩:=qak.1 hx;have:=CD<|hm d hd
  omega).2
theorem RpR.of(H:Ctx w0 S w ((b,Bl 2 (l.map Cu))::L))(hn:l.length=n)(hR:∀z∈R,z∈L):RpR R w (.agg #[.int .i64 0,.slice (some ⟨b,0,none⟩) n n]) ⟨0,l⟩ :=
 ⟨_,n,by rw[<-hn],Rd.of_bl (H.get at0) (Qy l) fun _ _=>rfl,fun _ z hz he=>(qbf.1 H.nd).1 z (hR z hz) he.symm⟩
theorem Aeg{x y:Nat × Obj}(H:Ctx w0 S w (x::y::(L++R)))(b:Nat)(hb:b∈L.map (·.1)):b∈S\/w0.heap.size<=b:=by
 obtain⟨z,hz,rfl⟩:=qak.1 hb;exact H.own z<|qae _<|qae _<|qax _ hz
section
variable {m:Rm}{s:Ld}{w:World}{S:List Nat}{R:List (Nat × Obj)}
theorem Xp(h:Rl m s w S w R)(hok:s.Ok)(P:PlanR s.acs s.ds cmp r)(hno:s.no<4611686018427387904)(no day:Int)(RA:RAt w r q)(hoff:ROff q r (·∈S))(hids:∀b∈(RLL m s).map (·.1),b∈S) :
  Ret prog 61 #[ptr m.bl,.bool cmp,.agg (AE { r with no:=no,day:=day } q).toArray] w fun v w'=>∃v1,v=.tuple #[v1,.bool true] /\
   ∃m' R',Rl m' (L4 s r) w S w' R'/\(∀z∈R,z∈R')/\RpR R w' v1 ⟨0,[IntKind.i64.wrap<|s.no+1,Ex (opn s.ds) r.fl (opn s.ds).length,FE (r.fl.take (opn s.ds).length) (opn s.ds).length]⟩/\m'.bl=m.bl/\m'.qs=Ma m.qs q:=by
 obtain⟨w1,rfl⟩:=qD w;have H:=h.H;have hB:=S4 P;obtain⟨hC,hok2⟩:=ZX hok P hno;have hk:=hok.kept;have hn64:=(CB hok.du).1;have hol:=EW s.ds;have hrc:AE r q=[.int .u64 0,.int .i64 0,.bool cmp,.slice q.aI r.ids.length q.cI,.int .i64 r.N,.slice q.aE r.es.length q.cE,.slice q.aF r.fl.length q.cF,.slice q.aP r.pot.length q.cP]:=by rw[AE,P.no,P.day,P.cmp]
 refine iG func61 U ?_;refine Af<|Be (AE { r with no:=no,day:=day } q) (.agg _) U U H ?_;rintro b5 w - H;refine AN qf H ?_;rintro b6 w - H;refine A5 U<|qA<|AB<|Af<|AV U<|AR U<|Ae qf U<|Bh qf U H at2 U<|AR U<|Ae qf U ?_;refine Bh qf U H at5 U<|IW U U<|qA<|iB U ?_ ?_
 .intro n1;omega
 .intro n1;refine A1<|Aa<|Af<|Ae qf U<|Ch (.int _ _) qf U U U H at1 (by(simp;done)) ?_;rintro w H;refine qA<|Af<|Ae qf U<|Ch (.int _ _) qf U U U H at1 (by(simp;done)) ?_;rintro w H;refine qA<|AB ?_;replace H:Ctx w1 S w ((b6,Bl 43 [.int .i64 0,.slice none 0 0])::(b5,Bl 57 (AE r q))::(RLL m s++R)):=by rw[hrc,<-P.cmp];exact H
  refine Af<|Ae qf U<|Bh qf U H at1 U<|Bj U<|Ko qf U U U ?_;refine qA<|A3 _ U ?_ ?_
  .intro n2;rw[P.cmp]at n2;cases cmp <;> cases n2
  .intro n2;have V:=L8 (h.put H).p18 h.OD;refine A1<|Aa<|Af<|AV U<|AR U<|Ae qf U<|Bh qf U H at2 U<|AR U<|Ae qf U<|Bh qf U H at4 U<|Aj qB (JZ m.ad s.ds.length m.cd s.ds _ V U) U ?_;rintro v w F8;obtain⟨a8,n8,c8,f8,rfl,O8,hb8⟩:=F8.ex;obtain rfl:=O8.numN (fun _ _=>rfl) (by decide);replace H:=H.callEnt F8.ext hb8 DX;replace H:Ctx w1 S w ((b6,Bl 43 [.int .i64 0,.slice none 0 0])::(b5,Bl 57 (AE r q))::(RLL m s++(R++ent a8 111 f8))):=by rw[<-qaz];exact H
   refine AP U<|qA<|BG [([0,1,2,3,4,5,6,7,8],9),([],10)] (fun z=>z.heap[b5]?=some (Bl 57 (AE r q))/\z.heap[m.bl]?=some (L22 m.ba m.bd m.br s.day)) [9,10] AW (⟨H.drew.get at1,H.drew.get at2⟩) ?_;refine A0 U U<|Bm U<|A7 U<|Ah qf U<|AU qf U (fun _ hx=>(by rw[Ai hx.2];rfl)) ?_;refine Bm U<|A7 U<|Ah qf U<|AU qf U (fun _ hx=>(by rw[Ai hx.2];rfl)) ?_;refine EZ _ qf qf U U (fun _ hx=>(BQ hx.1 0 (AE r q) rfl))<|A6 ?_;replace H:=H.drew;refine Aj qB (Abl (h.put H) hok (RA.ext H.ext hoff) (hoff.mono hids) hB) U ?_;rintro v w ⟨rfl,full',ad',cd',fd',h3,-⟩;clear H;rw[hC];have H:=h3.front;refine Ab<|Bw U<|A0 U U ?_;refine A6<|Ag U<|Ab<|Bw U<|Bu<|AB<|Af<|Ad U<|CV U U<|qA<|iB U ?_ ?_
   .intro n3;exact absurd U n3
   .intro n3;have F0:=EQ hok.ac hok.du hC;have hle:(opn s.ds).length<=r.fl.length:=by have:=F0.pay.1;rw[qa8]at this;omega
    obtain⟨xs,hxs⟩:=qD<|r.fl.take (opn s.ds).length;have hxl:xs.length=(opn s.ds).length:=by rw[hxs,qa8];omega
    have hpay:PayIn (opn s.ds) xs:=hxs ▸ F0.pay;have htot:=(CB hok.du).2.2.2;have hosum:Cl ((opn s.ds).map Du.am)<=4503599627370496:=qbj (Qj fun d hd=>by have:=CD ((EK hok.du).1 d hd).1;omega) htot;have hmy:∀d∈opn s.ds,CZ d=true:=fun d hd=>((EK hok.du).1 d (qbc.1 hd).1).1;have hR8:Rd w a8 7 BK (opn s.ds):=OS.rd O8 (fun y hy=>H.blk y<|qae _<|qae _<|qap _<|qap _ hy) (fun _ _=>rfl) (by decide);have hRF:Rd w q.aF 1 I1 r.fl:=(RA.ext H.ext hoff).F;have hb5:=H.get at1;refine A1<|Aa<|Af<|Ag U<|qA<|Af<|Ag U<|qA<|AB<|Af<|Ag U ?_;refine qA<|AK ?_;have H8:=H;obtain⟨w5,rfl⟩:=qD w;clear H;have H:=Ctx.start w5 []
    refine AY 2417851634725658722049024 (α:=Nat) (fun i=>[(10,.int .i64<|Ex (opn s.ds) xs i),(11,.int .i64<|FE xs i),(12,.int .i64 (i:Int))]) (fun i w'=>i<=(opn s.ds).length/\Ctx w5 [] w' []) (fun i=>(opn s.ds).length - i) 0 U ?_ ?_ ?_
    .exact⟨rfl,rfl,rfl,trivial⟩
    .exact⟨qai _,H⟩
    .clear H;rintro i j w ⟨hi,H⟩;refine AB<|Af<|Ad U<|AH U<|Cp qf U<|CH U U<|qA<|iB U ?_ ?_
     .intro n4;obtain⟨d,hd⟩:=Au (l:=opn s.ds) (i:=i);obtain⟨x,hx⟩:=Au (l:=xs) (i:=i)
      have hx2:r.fl[i]?=some x:=by
       rw[hxs,qbt]at hx
       split at hx
       .exact hx
       .cases hx
      have hwe:∀d∈opn s.ds,0<=d.we/\d.we<=1000:=fun d hd=>by have:=CD<|hmy d hd;omega
      have hst:=Jm hd hx;have hss:=Ps xs hx;have hsb:=N4 xs i;have hw1:=GU hpay hwe i hi;have hw2:=GU hpay hwe (i+1) (by omega);have hx0:=hpay.2 i d x hd hx;have hmul:0<=d.we*x:=qda (hwe d<|qad hd).1 hx0.1;have ht1:=(SA (opn s.ds) hmy hok i);have ht2:=(SA (opn s.ds) hmy hok<|i+1);refine A1<|Aa<|AB<|AK<|CG (fun x=>x=_) AW U ?_;refine AS U<|BT U<|AS U<|Br (hR8.ext0 H.drew.ext) qf qf U U (by rfl) ?_;refine Aq qf U<|BD qf U (by rintro _ rfl;exact(((hR8.ext0 H.drew.ext).fld hd rfl (j:=4) rfl))) ?_;refine Aq qf U<|Aq qf U<|BD qf U (by rintro _ rfl;exact((by rw[Ai<|H.drew.ext.to hb5<|by simp];rfl))) ?_;refine AS U<|Br (hRF.ext0 H.drew.ext) qf qf U U (by rfl) ?_;refine BD qf U (by rintro _ rfl;exact(((hRF.ext0 H.drew.ext).one (f:=Cu) hx2))) ?_
      refine NW U U U<|Fw U U ?_;refine Gw U U<|Cc ?_;rintro _ rfl;replace H:=H.drew;refine Af<|Ae qf U<|Ae qf U<|A9 qf U ((by rw[Ai<|H.ext.to hb5<|by simp];rfl)) ?_;refine Ad U<|A2 (hRF.ext0 H.drew.ext) qf qf U U (by rfl) ?_;refine A9 qf U (((hRF.ext0 H.drew.ext).one (f:=Cu) hx2))<|Es U U<|qA<|iB U ?_ ?_
      .intro n5;refine Aw<|Ad U<|Ap U U ?_;refine Ag U<|Ab<|Av<|Aa<|Aw<|Ad U<|Ap U U ?_;refine Ag U<|qA ?_;exact⟨i+1,rfl,⟨qaa (Value.int .i64) hst.symm,qaa (Value.int .i64)<|by rw[hss,if_pos n5],rfl,trivial⟩,⟨by omega,H⟩,by omega⟩
      .intro n5;refine A1<|Av<|Aa<|Aw<|Ad U<|Ap U U ?_;refine Ag U<|qA ?_;exact⟨i+1,rfl,⟨qaa (Value.int .i64) hst.symm,qaa (Value.int .i64)<|by rw[hss,if_neg n5,qds],rfl,trivial⟩,⟨by omega,H⟩,by omega⟩
     .intro n4;obtain rfl:i=(opn s.ds).length:=by omega
      replace H8:=H8.call H.ext;clear H;have H:=H8;clear H8;have hids4:r.ids.length=(opn s.ds).length:=by rw[P.ids,qaj]
      have hmayR:Gg { r with day:=s.day }=true:=by
       unfold Gg;dsimp only;rw[P.chk,hids4,qam<|show(opn s.ds).length<=64 by omega,qam hok.day.1];rfl
      have hok3:({ s with acs:=DE s.acs s.ds r,ds:=DM s.acs s.ds r }:Ld).Ok:=⟨hok2.ac,hok2.du,hok2.bk,hok.day,hok.kept,hok.nos,hok.may⟩;have hB3:RBnd { r with day:=s.day }:=⟨hB.N,hB.es,hB.ids,hB.fl,hB.pot⟩;have hoff3:=hoff.or RA.lt;refine Bi<|Am<|Am<|A8<|Aa<|Af<|AV U<|AR U<|Ae qf U<|Bh qf U H at2 U<|Ae qf U<|Ch (.int _ _) qf U U U H at1 (by(simp;done)) ?_;rintro w H;refine qA ?_;replace H:Ctx w1 S w ((b6,Bl 43 [.int .i64 0,.slice none 0 0])::(b5,Bl 57 (AE { r with day:=s.day } q))::(RLL { m with full:=full',ad:=ad',cd:=cd',fd:=fd' } { s with acs:=DE s.acs s.ds r,ds:=DM s.acs s.ds r }++(R++ent a8 111 f8))):=H;refine BG [([0,1,2,3,4],5),([6,7,8,9],10)] (fun z=>z.heap[b5]?=some (Bl 57 (AE { r with day:=s.day } q))/\z.heap[m.bl]?=some (L22 m.ba m.bd m.br s.day)) [5,10] AW (⟨H.drew.get at1,H.drew.get at2⟩) ?_;refine A0 U U ?_
      refine Bm U<|A7 U<|Ah qf U<|AU qf U (fun _ hx=>(by rw[Ai hx.2];rfl)) ?_;refine EZ _ qf qf U U (fun _ hx=>(BQ hx.1 0 (AE { r with day:=s.day } q) rfl))<|A6 ?_;replace H:=H.drew;refine Aj qB (Aef (r:={ r with day:=s.day }) (h3.put H) hok3 hno ((RA.ext H.ext hoff).re r.no s.day) ((hoff3.mono<|Aeg H).re r.no s.day) hB3 hmayR) U ?_;rintro v w ⟨hv,ar',o',cr',fr',h4⟩;obtain rfl:v=.tuple #[.int .u64<|s.no+1,.int .i64 0]:=hv;clear H;have H:=h4.front;refine Ab<|Bw U<|A0 U U ?_;refine CK U<|AZ U U<|AZ U U<|FM U<|A6<|Ag U<|Ab<|Bw U<|Bu<|Af<|Ad U ?_;refine Hd U U qf qf<|Ad U<|Ad U<|Cs ([s.no+1,Ex (opn s.ds) xs (opn s.ds).length,FE xs (opn s.ds).length].map Cu) qf qf qf H ?_;rintro b99 w - H
      refine Bd [.int .i64 0,.slice (some ⟨b99,0,none⟩) 3 3] qf qf ?_;refine Ad U<|Ct U U<|AM qf U U U (by simp[AF]) H at1 U ?_;rintro w H;refine A5 U<|qA<|Bf<|DV U U U qf qf H at1 U (show _=(.bool _)from rfl) ?_;have hw:IntKind.i64.wrap (s.no+1)=s.no+1:=CC (show(-9223372036854775808:Int)<=s.no+1 by omega) (show s.no+1<=(9223372036854775807:Int)by omega);have hsub:∀z∈R,z∈(b6,Bl 43 [.int .i64 0,.slice (some ⟨b99,0,none⟩) 3 3])::(b5,Bl 57 (AE { r with day:=s.day } q))::(R++ent a8 111 f8):=fun z hz=>qae _<|qae _<|qax _ hz;refine⟨_,rfl,_,_,h4.put H.tail,hsub,?_,rfl,rfl⟩;rw[hw,<-hxs,<-Ns (os:=opn s.ds) (fl:=r.fl) _ (qaq _),<-hxs]
      exact RpR.of (l:=[s.no+1,Ex (opn s.ds) xs (opn s.ds).length,FE xs (opn s.ds).length]) H U fun z hz=>qae _<|qae _<|qap _<|qax _ hz
end
section
variable {m:Rm}{s:Ld}{w0 w:World}{S:List Nat}{R:List (Nat × Obj)}
theorem Xq(h:Rl m s w0 S w R)(hno:4611686018427387904<=s.no) :
  Ret prog 61 #[ptr m.bl,.bool cmp,.agg (AE r q).toArray] w fun v w'=>v=.tuple #[.agg #[.int .i64 6,.slice none 0 0],.bool true]/\∃R',Rl m s w0 S w' R'/\∀z∈R,z∈R':=by
 have H:=h.H;refine iG func61 U ?_;refine Af<|Be (AE r q) (.agg _) U U H ?_;rintro b5 w - H;refine AN qf H ?_;rintro b6 w - H;refine qGp 15 ?_ ?_
 .intro n1;refine Af<|Aj qB (EE 6 _) U ?_;rintro v w ⟨rfl,hx⟩;replace H:=H.call hx;refine qG 1 ?_;rintro w H;refine qG 5 ?_;refine DV U U U qf qf H at0 U (show _=(.bool _)from rfl) ?_;exact⟨rfl,_,h.put (x:=(b6,_)) (y:=(b5,_)) H,fun z hz=>qae _<|qae _ hz⟩
 .intro n1;omega
def DoP(m:Rm)(w0:World)(S:List Nat)(R:List (Nat × Obj))(s':Ld)(p:Rp)(qs:List RSl)(v:Value)(w':World):Prop:=∃v1,v=.tuple #[v1,.bool true]/\RpR R w' v1 p/\∃m' R',Rl m' s' w0 S w' R'/\(∀z∈R,z∈R')/\m'.bl=m.bl/\m'.qs=qs
theorem Ctx.less(H:Ctx w0 S w L)(hs:∀z∈L',z∈L)(hn:L'.Pairwise fun x y=>x.1≠y.1):Ctx w0 S w L':=⟨H.ext,fun z hz=>H.blk z<|hs z hz,hn,fun z hz=>H.own z<|hs z hz⟩
end
theorem perm3(x y z:α)(A R:List α):(A++(x::y::z::R)).Perm (x::y::z::(A++R)):=(V1 x y A (z::R)).trans<|List.Perm.cons _<|List.Perm.cons _ qbl
section
variable {m:Rm}{s:Ld}{w0 w:World}{S:List Nat}{R R':List (Nat × Obj)}
theorem Rl.put3{x y z:Nat × Obj}(h:Rl m s w1 S' w' R')(H:Ctx w0 S w (x::y::z::(RLL m s++R))):Rl m s w0 S w (x::y::z::R):=⟨H.perm (perm3 _ _ _ _ _).symm,h.OA,h.OD,h.OR,h.n⟩
theorem Rl.pick{z:Nat × Obj}(h:Rl m s w0 S w R)(hz:z∈R):∃R2,Ctx w0 S w ([z]++(RLL m s++R2))/\∀y∈R,y.1≠z.1->y∈R2:=by
 obtain⟨l1,l2,rfl⟩:=List.append_of_mem hz;refine⟨l1++l2,h.H.perm<|(qc6 _ qbl).trans qbl,fun y hy hne=>?_⟩
 rcases qa2.1 hy with h1|h1
 .exact qax _ h1
 .rcases qaf.1 h1 with h2|h2
  .exact absurd (qaa (·.1) h2) hne
  .exact qap _ h2
theorem Rl.done{y z:Nat × Obj}(H0:Ctx w0 S w ((b6,o6')::y::z::(RLL m s++R)))(hsub:∀x∈R,x.1≠b6->x∈R2)(H9:Ctx w0 S w2<|[(b6,o6)]++(RLL m' s'++R2))(k:Rl m' s' w0 S w2 R')(H:Ctx w2 [b6] w' [(b6,o6'')])(hr:RpR ((b6,o6')::y::z::R) w2 v1 p)(e1:m'.bl=m.bl)(e2:m'.qs=qs) :
  DoP m w0 S R s' p qs (.tuple #[v1,.bool true]) w':=by
 obtain⟨a',c',rfl,Rr,hnr⟩:=hr;have hne:∀x∈R,x.1≠b6:=fun x hx e=>(qbf.1 H0.nd).1 x (qae _<|qae _<|qap _ hx) e.symm;have H10:=Ctx.back (L1:=[(b6,o6)]) H9 H;exact⟨_,rfl,⟨a',c',rfl,Rr.ext' H.ext fun g hm=>hnr g _ (qah ..) (qab.1 hm).symm,fun g x hx=>hnr g x<|qae _<|qae _<|qae _ hx⟩,m',(b6,o6'')::R2,⟨H10.perm<|show((b6,o6'')::(RLL m' s'++R2)).Perm _ from qbl.symm,k.OA,k.OD,k.OR,k.n⟩,fun x hx=>qae _<|hsub x hx<|hne x hx,e1,e2⟩
theorem Aeh(hin:AkIn k)(hk:¬(k.kd=10\/k.kd=11))(h:Rl m s w S w R)(hok:s.Ok)(hK:∀x∈s.rn.zip m.qs,RAt w x.1 x.2/\ROff x.2 x.1 (·∈S)) :
  Ret prog 13 #[ptr m.bl,.agg (BN k).toArray,.agg (AE r q).toArray] w (DoP m w S R (Dn s k) (Dq s k) m.qs):=by
 obtain⟨w1,rfl⟩:=qD w;have H:=h.H;refine iG func13 U ?_;refine Af<|Be (BN k) (.agg _) U U H ?_;rintro b4 w - H;refine Be (AE r q) (.agg _) U U H ?_;rintro b5 w - H;refine AN qf H ?_;rintro b6 w - H;refine qG 4 ?_;replace H:Ctx w1 S w ((b6,Bl 43 [.int .i64 0,.slice none 0 0])::(b5,Bl 57 (AE r q))::(b4,Bl 46 (BN k))::(RLL m s++R)):=H;refine Af<|Bo (α:=Unit) 65280 (fun _=>[(15,.bool<|(decide (k.kd=10) || decide (k.kd=11)))]) (fun _ w'=>Ctx w1 S w' ((b6,Bl 43 [.int .i64 0,.slice none 0 0])::(b5,Bl 57 (AE r q))::(b4,Bl 46 (BN k))::(RLL m s++R))) U ?_ ?_
 .refine qG 4 ?_;refine iC 11 U ?_ ?_
  .intro h1;refine qG 5 ?_;exact⟨rfl,(),rfl,⟨qaa Value.bool (by clear hK h H hok hin;rw[qac];simp_all),trivial⟩,H⟩
  .intro h2;refine qG 5 ?_;exact⟨rfl,(),rfl,⟨qaa Value.bool (by clear hK h H hok hin;rw[qac];simp_all),trivial⟩,H⟩
 rintro - j15 w H;refine A3 _ U ?_ ?_
 .intro n1;exact absurd (by simpa using n1) hk
 .intro n1;refine qG 4 ?_;refine Dh qf qf U H at2 U<|Aj qB (Xj hin hk (h.put3 H) hok hK) U ?_;rintro v w2 ⟨m',R',h3,hsub,hr,e1,e2⟩;obtain⟨a',c',hva,-⟩:=id hr;rw[hva];have H0:=H;clear H;obtain⟨w,rfl⟩:=qD w2;obtain⟨R2,H9,hs2⟩:=h3.pick<|hsub _<|qah ..;have H:=Ctx.lend H9;refine qG 1 ?_;rintro w H;refine qG 4 ?_;refine DV U U U qf qf H at0 U (show _=(.bool _)from rfl) ?_;rw[hva]at hr;exact Rl.done H0 (fun x hx hne=>hs2 x (hsub x<|qae _<|qae _<|qae _ hx) hne) H9 h3 H hr e1 e2
end
section
variable {m:Rm}{s:Ld}{w0 w:World}{S:List Nat}{R:List (Nat × Obj)}
theorem Rl.lendR(h:Rl m s w0 S w R):Rl m s w ((RLL m s++R).map (·.1)) w R:=⟨Ctx.lend (L1:=RLL m s++R) (L2:=[]) (by rw[qar];exact h.H),h.OA,h.OD,h.OR,h.n⟩
theorem Rl.homeR(h:Rl m s w0 S w R)(k:Rl m' s' w ((RLL m s++R).map (·.1)) w' R'):Rl m' s' w0 S w' R' :=
 ⟨by have:=Ctx.back (L1:=RLL m s++R) (L2:=[]) (by rw[qar];exact h.H) k.H;rw[qar]at this;exact this,k.OA,k.OD,k.OR,k.n⟩
theorem Rl.own(h:Rl m s w0 S w R)(b:Nat)(hb:b∈(RLL m s++R).map (·.1)):b∈S\/w0.heap.size<=b:=by
 obtain⟨z,hz,rfl⟩:=qak.1 hb;exact h.H.own z hz
theorem Aei(hk:k.kd=10\/k.kd=11)(h:Rl m s w S w R)(hok:s.Ok)(P:PlanR s.acs s.ds (decide (k.kd=11)) r)(hno:s.no<4611686018427387904)(no day:Int)(RA:RAt w r q)(hoff:ROff q r (·∈S)) :
  Ret prog 13 #[ptr m.bl,.agg (BN k).toArray,.agg (AE { r with no:=no,day:=day } q).toArray] w (DoP m w S R (L4 s r) ⟨0,[IntKind.i64.wrap<|s.no+1,Ex (opn s.ds) r.fl (opn s.ds).length,FE (r.fl.take (opn s.ds).length) (opn s.ds).length]⟩<|Ma m.qs q):=by
 obtain⟨w1,rfl⟩:=qD w;have H:=h.H;refine iG func13 U ?_;refine Af<|Be (BN k) (.agg _) U U H ?_;rintro b4 w - H;refine Be (AE { r with no:=no,day:=day } q) (.agg _) U U H ?_;rintro b5 w - H;refine AN qf H ?_;rintro b6 w - H;refine qG 4 ?_;replace H:Ctx w1 S w ((b6,Bl 43 [.int .i64 0,.slice none 0 0])::(b5,Bl 57 (AE { r with no:=no,day:=day } q))::(b4,Bl 46 (BN k))::(RLL m s++R)):=H;refine Af<|Bo (α:=Unit) 65280 (fun _=>[(15,.bool<|(decide (k.kd=10) || decide (k.kd=11)))]) (fun _ w'=>Ctx w1 S w' ((b6,Bl 43 [.int .i64 0,.slice none 0 0])::(b5,Bl 57 (AE { r with no:=no,day:=day } q))::(b4,Bl 46 (BN k))::(RLL m s++R))) U ?_ ?_
 .refine qG 4 ?_;refine iC 11 U ?_ ?_
  .intro h1;refine qG 5 ?_;exact⟨rfl,(),rfl,⟨qaa Value.bool (by clear h H hok P RA hoff;rw[qac];simp_all),trivial⟩,H⟩
  .intro h2;refine qG 5 ?_;exact⟨rfl,(),rfl,⟨qaa Value.bool (by clear h H hok P RA hoff;rw[qac];simp_all),trivial⟩,H⟩
 rintro - j15 w H;refine A3 _ U ?_ ?_
 .intro n1;have h2:=h.put3 H;have hoff2:=(hoff.or RA.lt).mono fun b hb=>h2.own b hb;refine qG 6 ?_;refine Aj qB (Xp h2.lendR hok P hno no day (RA.ext H.ext hoff) hoff2 (fun b hb=>by rw[qau];exact qax _ hb)) U ?_;rintro v w2 ⟨v1,rfl,m',R',h3',hsub,hr,e1,e2⟩;have h3:=h2.homeR h3';obtain⟨a',c',rfl,-⟩:=id hr;have H0:=H;clear H;obtain⟨w,rfl⟩:=qD w2;obtain⟨R2,H9,hs2⟩:=h3.pick<|hsub _<|qah ..;have H:=Ctx.lend H9;refine qG 3 ?_;rintro w H;refine qG 5 ?_;refine DV U U U qf qf H at0 U (show _=(.bool _)from rfl) ?_;exact Rl.done H0 (fun x hx hne=>hs2 x (hsub x<|qae _<|qae _<|qae _ hx) hne) H9 h3 H hr e1 e2
 .intro n1;exfalso;simp at n1;omega
theorem Ajv(hk:k.kd=10\/k.kd=11)(h:Rl m s w S w R)(hno:4611686018427387904<=s.no) :
  Ret prog 13 #[ptr m.bl,.agg (BN k).toArray,.agg (AE r q).toArray] w (DoP m w S R s ⟨6,[]⟩ m.qs):=by
 obtain⟨w1,rfl⟩:=qD w;have H:=h.H;refine iG func13 U ?_;refine Af<|Be (BN k) (.agg _) U U H ?_;rintro b4 w - H;refine Be (AE r q) (.agg _) U U H ?_;rintro b5 w - H;refine AN qf H ?_;rintro b6 w - H;refine qG 4 ?_;replace H:Ctx w1 S w ((b6,Bl 43 [.int .i64 0,.slice none 0 0])::(b5,Bl 57 (AE r q))::(b4,Bl 46 (BN k))::(RLL m s++R)):=H;refine Af<|Bo (α:=Unit) 65280 (fun _=>[(15,.bool<|(decide (k.kd=10) || decide (k.kd=11)))]) (fun _ w'=>Ctx w1 S w' ((b6,Bl 43 [.int .i64 0,.slice none 0 0])::(b5,Bl 57 (AE r q))::(b4,Bl 46 (BN k))::(RLL m s++R))) U ?_ ?_
 .refine qG 4 ?_;refine iC 11 U ?_ ?_
  .intro h1;refine qG 5 ?_;exact⟨rfl,(),rfl,⟨qaa Value.bool (by clear h H;rw[qac];simp_all),trivial⟩,H⟩
  .intro h2;refine qG 5 ?_;exact⟨rfl,(),rfl,⟨qaa Value.bool (by clear h H;rw[qac];simp_all),trivial⟩,H⟩
 rintro - j15 w H;refine A3 _ U ?_ ?_
 .intro n1;refine qG 6 ?_;refine Aj qB (Xq (h.put3 H) hno) U ?_;rintro v w2 ⟨rfl,R',h3,hsub⟩;have H0:=H;clear H;obtain⟨w,rfl⟩:=qD w2;obtain⟨R2,H9,hs2⟩:=h3.pick<|hsub _<|qah ..;have H:=Ctx.lend H9;refine qG 3 ?_;rintro w H;refine qG 5 ?_;refine DV U U U qf qf H at0 U (show _=(.bool _)from rfl) ?_;exact Rl.done H0 (fun x hx hne=>hs2 x (hsub x<|qae _<|qae _<|qae _ hx) hne) H9 h3 H ⟨none,0,rfl,Rd.nil,fun g=>absurd rfl g⟩ U U
 .intro n1;exfalso;simp at n1;omega
end
theorem FH(h:C9 s k s' p)(hk:¬(k.kd=10\/k.kd=11):=by decide):s'=Dn s k/\p=Dq s k:=by
 unfold C9 at h;rw[if_neg hk]at h;exact h
theorem Ctx.did{m m':Lm}(H:Ctx w0 S w<|B++LL m s)(H7:Ctx w (CR m s) w'<|LL m' s'++E):Ctx w0 S w'<|(E++B)++LL m' s':=by
 have h1:=Ctx.back (L1:=LL m s) (L2:=B) H.comm H7;rw[qaz]at h1;exact h1.comm
structure Led(bl:Nat)(w0 w:World)(B:List (Nat × Obj))(m:Lm)(s:Ld)(T:Nat->Prop):Prop where
 H:Ctx w0 [] w (B++LL m s)
 I:LdIn w m s T
 e:m.bl=bl
theorem Led.next{m:Lm}(L:Led bl w0 w B m s T)(H:Ctx w [] w' E):Led bl w0 w' (E++B) m s T :=
 ⟨by rw[qaz];exact Ctx.back (L1:=[]) (L2:=B++LL m s) L.H H,L.I.grow H.ext (by simp) (Grows.refl _ _) fun x hx=>qbb (L.I.low x hx) H.size,L.e⟩
theorem V2{m:Lm}(L:Led bl w0 w B m s T)(hin:AkIn k) :
  Ret prog 11 #[ptr bl,.agg (BN k).toArray] w fun v w'=>∃a n c full p s' m' T',v=.agg #[.int .i64 p.e,.slice a n c]/\OS a n c 1 full (p.n.map Cu)/\C9 s k s' p/\Led bl w0 w' (ent a 2 full++B) m' s' T'/\Grows T T' w/\Ext (CR m s) w w'/\∀x∈ent a 2 full,w.heap.size<=x.1:=by
 obtain⟨H,I,e⟩:=L;subst e;refine Ret.mono (do_ok hin w I<|Ctx.lend (L1:=LL m s) H.comm) fun v w' h=>?_;obtain⟨a,n,c,full,p,s',m',T',rfl,O,hst,H7,I7,g,hb,hn⟩:=h;exact⟨a,n,c,full,p,s',m',T',rfl,O,hst,⟨Ctx.did H H7,I7,hb⟩,g,H7.ext,hn⟩
theorem IB{m:Lm}(L:Led bl w0 w B m s T)(hin:AkIn k) :
  Ret prog 11 #[ptr bl,.agg (BN k).toArray] w fun v w'=>∃a n c full p s' m' T',v=.agg #[.int .i64 p.e,.slice a n c]/\OS a n c 1 full (p.n.map Cu)/\C9 s k s' p/\Led bl w0 w' (ent a 2 full++B) m' s' T'/\Grows T T' w/\Ext (CR m s) w w':=by
 refine Ret.mono (V2 L hin) fun v w' h=>?_;obtain⟨a,n,c,full,p,s',m',T',h1,h2,h3,h4,h5,h6,-⟩:=h;exact⟨a,n,c,full,p,s',m',T',h1,h2,h3,h4,h5,h6⟩
abbrev ak(kd a b x w u id:Int):Ak:=⟨kd,a,b,x,w,u,id⟩
theorem KZ{a b w u:Int}(h:(0<=kd/\kd<=255)/\(-9223372036854775808<=a/\a<=9223372036854775807)/\(-9223372036854775808<=b/\b<=9223372036854775807)/\(-9223372036854775808<=x/\x<=9223372036854775807)/\(-9223372036854775808<=w/\w<=9223372036854775807)/\(-9223372036854775808<=u/\u<=9223372036854775807)/\(0<=id/\id<=18446744073709551615):=by decide):AkIn ⟨kd,a,b,x,w,u,id⟩:=⟨h.1,h.2.1,h.2.2.1,h.2.2.2.1,h.2.2.2.2.1,h.2.2.2.2.2.1,h.2.2.2.2.2.2⟩
abbrev yA0:List Ac:=[⟨5,0⟩,⟨0,0⟩]
abbrev yA1:List Ac:=[⟨0,0⟩,⟨5,0⟩]
abbrev yD0:List Du:=[⟨1,0,1,9,2,3,false⟩]
abbrev yD1:List Du:=[⟨1,0,1,4,2,3,false⟩]
abbrev yE0:List Ed:=[⟨0,1,9,-2⟩,⟨2,0,5,0⟩,⟨0,2,4503599627370496,0⟩,⟨2,1,0,0⟩,⟨1,2,4503599627370496,0⟩]
theorem ye0:Cm (yA0.map CF) (opn yD0) false=yE0:=by decide
theorem ya0:CO yA0=0:=by decide
theorem yd0:ofC yD0 2=0:=by decide
theorem yb0:CY (yA0.map CF) yD0=true:=by decide
theorem Ajw(P:PlanR yA0 yD0 false r):DE yA0 yD0 r=yA1/\DM yA0 yD0 r=yD1/\Ex (opn yD0) r.fl (opn yD0).length=10/\FE (r.fl.take (opn yD0).length) (opn yD0).length=1:=by
 have hC:=Pd yb0 P;have F:=EQ ya0 yd0 hC;obtain⟨p1,p2,p3,p4⟩:=WH P;have hes:=P.es.trans ye0;have hN:r.N=3:=P.N;have hcmp:=P.cmp;have hlen:r.fl.length=5:=by rw[F.len,hes];rfl
 have hg:=JW p1;rw[hN,hes]at p3 p4 hg;obtain⟨x,hx⟩:=qD<|flE r.fl;rw[<-hx]at p3 p4;have o0:=p3 0 (by decide);have o1:=p3 1 (by decide);have i0:=p4.in' 0 (by decide);have i1:=p4.in' 1 (by decide);have i2:=p4.in' 2 (by decide);have i3:=p4.in' 3 (by decide)
 have hbest:=Fine.best hg p4 p3 (y:=fun i=>[5,5,0,0,5].getD i 0) (fun i hi=>by
  have hi':i<5:=hi
  match i,hi' with
  |0,_=>decide
  |1,_=>decide
  |2,_=>decide
  |3,_=>decide
  |4,_=>decide) (fun v hv=>by
  have hv':v<3:=hv
  match v,hv' with
  |0,_=>decide
  |1,_=>decide
  |2,_=>decide)
 have hc1:Ot (grE 3 yE0) (fun i=>[5,5,0,0,5].getD i 0) = -10:=by decide
 have hc2:Ot (grE 3 yE0) x = -(2*x 0):=by
  show 0+x 0 * -2+x 1*0+x 2*0+x 3*0+x 4*0=_;omega
 have e0:BJ (grE 3 yE0) x 0 = -(x 0)+x 1 - x 2:=by
  show 0+(0 - 1)*x 0+(1 - 0)*x 1+(0 - 1)*x 2+(0 - 0)*x 3+(0 - 0)*x 4=_;omega
 have c1:Ck yE0 1=5:=rfl
 have h5:x 0=5:=by
  rw[hc1,hc2]at hbest;rw[e0]at o0;rw[c1]at i1;omega
 have hby:∀k,byK (yA0.map CF) (opn yD0) r.cmp r.fl k=(one (1=k) - one (0=k))*5:=fun k=>by
  have:byK (yA0.map CF) (opn yD0) r.cmp r.fl k=0+(one (1=k) - one (0=k))*x 0:=by rw[hcmp,hx];rfl
  rw[this,h5,Int.zero_add]
 refine⟨?_,?_,?_,?_⟩
 .have hl:=(J5 (r:=r) ya0 yd0).2.2;refine qca fun i=>?_
  match i with
  |0=>rw[Pc ya0 yd0 hC (k:=0) rfl,hby];rfl
  |1=>rw[Pc ya0 yd0 hC (k:=1) rfl,hby];rfl
  |i+2=>rw[qbg (by rw[hl];simp),qbg<|by simp]
 .unfold DM;rw[if_pos hC];show EJ yD0 (r.fl.take 1)=_;rw[Pj,<-hx,h5];rfl
 .show 0+2*flE r.fl 0=_;rw[<-hx,h5];rfl
 .show FE (r.fl.take 1) 1=_;rw[Pj,<-hx,h5];rfl
theorem Aej(h:C9 ⟨0,yA0,yD0,2,[],0⟩ (ak 10 0 0 0 0 0 0) s' p):(∃K,s'=⟨0,yA1,yD1,2,K,1⟩)/\p=⟨0,[1,10,1]⟩:=by
 unfold C9 at h;rw[if_pos<|.inl rfl]at h
 rcases h with⟨h1,-⟩|⟨-,r,P,rfl,rfl⟩
 .exact absurd h1 (by decide)
 .obtain⟨e1,e2,e3,e4⟩:=Ajw P;refine⟨⟨DY [] { r with no:=0+1,day:=0 },?_⟩,?_⟩
  .unfold L4;dsimp only;rw[e1,e2];rfl
  .dsimp only;rw[e3,e4];rfl
theorem Ke(w:World):Ret prog 6 #[] w fun v w'=>v=.bool true/\Ext [] w w':=by
 obtain⟨w0,rfl⟩:=qD w;refine Ao (fn:=Tryz.f6) func6 U [] U<|Af<|A5 U<|qA<|Af<|Aj qB (Vz _) U ?_;rintro v w ⟨m0,rfl,H0,I0⟩;obtain⟨bl,hb0⟩:∃b,m0.bl=b:=⟨_,rfl⟩;have L:Led bl w0 w [] m0 s00 fun x=>x∈CR m0 s00:=⟨H0,I0,hb0⟩;rw[hb0];clear H0 I0 hb0;obtain⟨w1,rfl,H⟩:=qE w;refine qG 5 ?_;refine Bd (BN<|ak 1 0 0 0 0 0 0) qf qf ?_
 replace L:=L.next H
 refine Aj qB (IB (k:=ak 1 0 0 0 0 0 0) L<|KZ) U ?_;clear L H;rintro v w ⟨a1,n1,c1,f1,p1,s1,m1,T1,rfl,O1,hst1,L,-,-⟩;obtain⟨rfl,rfl⟩:s1=⟨0,[⟨0,0⟩],[],1,[],0⟩/\p1=⟨0,[0]⟩:=FH hst1;clear hst1;obtain⟨w2,rfl,H⟩:=qE w;refine qG 4 ?_;refine Bd (BN<|ak 1 0 0 0 0 0 0) qf qf ?_
 replace L:=L.next H
 refine Aj qB (IB (k:=ak 1 0 0 0 0 0 0) L<|KZ) U ?_;clear L H;rintro v w ⟨a2,n2,c2,f2,p2,s2,m2,T2,rfl,O2,hst2,L,-,-⟩;obtain⟨rfl,rfl⟩:s2=⟨0,[⟨0,0⟩,⟨0,0⟩],[],1,[],0⟩/\p2=⟨0,[1]⟩:=FH hst2;clear hst2;obtain⟨w3,rfl,H⟩:=qE w;refine qG 4 ?_;refine Bd (BN<|ak 2 0 0 5 0 0 0) qf qf ?_
 replace L:=L.next H
 refine Aj qB (IB (k:=ak 2 0 0 5 0 0 0) L<|KZ) U ?_;clear L H;rintro v w ⟨a3,n3,c3,f3,p3,s3,m3,T3,rfl,O3,hst3,L,-,-⟩;obtain⟨rfl,rfl⟩:s3=⟨0,yA0,[],1,[],0⟩/\p3=⟨0,[5,0]⟩:=FH hst3;clear hst3;obtain⟨w4,rfl,H⟩:=qE w;refine AN qf H ?_;rintro b2 w - H;refine AM qf U U U (by exact(by simp[AF])) H at0 U ?_;rintro w H;refine qG 4 ?_;refine Bd (BN<|ak 5 0 1 9 2 3 0) qf qf ?_
 replace L:=L.next H
 refine Aj qB (IB (k:=ak 5 0 1 9 2 3 0) L<|KZ) U ?_;clear L H;rintro v w ⟨a4,n4,c4,f4,p4,s4,m4,T4,rfl,O4,hst4,L,-,-⟩;obtain⟨rfl,rfl⟩:s4=⟨0,yA0,yD0,2,[],0⟩/\p4=⟨0,[1]⟩:=FH hst4;clear hst4;obtain⟨w5,rfl,H⟩:=qE w;refine AN qf H ?_;rintro b3 w - H;refine AM qf U U U (by exact(by simp[AF])) H at0 U ?_;rintro w H;refine qG 4 ?_;refine Bd (BN<|ak 10 0 0 0 0 0 0) qf qf ?_
 replace L:=L.next H
 refine Aj qB (IB (k:=ak 10 0 0 0 0 0 0) L<|KZ) U ?_;clear L H;rintro v w ⟨a5,n5,c5,f5,p5,s5,m5,T5,rfl,O5,hst5,L,-,-⟩;obtain⟨⟨K,rfl⟩,rfl⟩:=Aej hst5;clear hst5;obtain⟨w6,rfl,H⟩:=qE w;refine AN qf H ?_;rintro b4 w - H;refine AM qf U U U (by exact(by simp[AF])) H at0 U ?_;rintro w H;refine qG 4 ?_;refine Bd (BN<|ak 12 1 0 0 0 0 0) qf qf ?_
 replace L:=L.next H
 refine Aj qB (IB (k:=ak 12 1 0 0 0 0 0) L<|KZ) U ?_;clear L H;rintro v w ⟨a6,n6,c6,f6,p6,s6,m6,T6,rfl,O6,hst6,L,-,-⟩;obtain⟨rfl,rfl⟩:s6=⟨0,yA1,yD1,2,K,1⟩/\p6=⟨0,[5,0]⟩:=FH hst6;clear hst6;obtain⟨w7,rfl,H⟩:=qE w;refine AN qf H ?_;rintro b5 w - H;refine AM qf U U U (by exact(by simp[AF])) H at0 U ?_;rintro w H;refine qG 4 ?_;refine Bd (BN<|ak 13 0 0 0 0 0 0) qf qf ?_
 replace L:=L.next H
 refine Aj qB (IB (k:=ak 13 0 0 0 0 0 0) L<|KZ) U ?_;clear L H;rintro v w ⟨a7,n7,c7,f7,p7,s7,m7,T7,rfl,O7,hst7,L,-,-⟩;obtain⟨rfl,rfl⟩:s7=⟨0,yA1,yD1,2,K,1⟩/\p7=⟨0,[-4]⟩:=FH hst7;clear hst7;obtain⟨w8,rfl,H⟩:=qE w;refine AN qf H ?_;rintro b6 w - H;refine AM qf U U U (by exact(by simp[AF])) H at0 U ?_;rintro w H;refine qG 4 ?_;refine Bd (BN<|ak 9 0 0 0 0 4 0) qf qf ?_
 replace L:=L.next H
 refine Aj qB (IB (k:=ak 9 0 0 0 0 4 0) L<|KZ) U ?_;clear L H;rintro v w ⟨a8,n8,c8,f8,p8,s8,m8,T8,rfl,O8,hst8,L,-,-⟩;obtain⟨rfl,rfl⟩:s8=⟨4,yA1,[],2,K,1⟩/\p8=⟨0,[1]⟩:=FH hst8;clear hst8;obtain⟨w9,rfl,H⟩:=qE w;refine AN qf H ?_;rintro b7 w - H;refine AM qf U U U (by exact(by simp[AF])) H at0 U ?_;rintro w H;refine qG 4 ?_;refine Bd (BN<|ak 9 0 0 0 0 3 0) qf qf ?_
 replace L:=L.next H
 refine Aj qB (IB (k:=ak 9 0 0 0 0 3 0) L<|KZ) U ?_;clear L H;rintro v w ⟨a9,n9,c9,f9,p9,s9,m9,T9,rfl,O9,hst9,L,-,-⟩;obtain⟨rfl,rfl⟩:s9=⟨4,yA1,[],2,K,1⟩/\p9=⟨3,[]⟩:=FH hst9;clear hst9;obtain⟨w10,rfl,H⟩:=qE w;refine AN qf H ?_;rintro b8 w - H;refine AM qf U U U (by exact(by simp[AF])) H at0 U ?_;rintro w H;refine qA ?_
 have L:=L.next H
 obtain⟨wz,rfl⟩:=qD w;have hz:=L.H.ext;have R3:Rd wz a3 1 I1 [5,0]:=O3.rd1 (t:=2) fun x hx=>L.H.blk x (qax _<|by simp[hx]);have h3:=L.H.blk (b2,Bl 43 [.int .i64 0,.slice a3 n3 c3]) (qax _<|by simp);have R4:Rd wz a4 1 I1 [1]:=O4.rd1 (t:=2) fun x hx=>L.H.blk x (qax _<|by simp[hx]);have h4:=L.H.blk (b3,Bl 43 [.int .i64 0,.slice a4 n4 c4]) (qax _<|by simp);have R5:Rd wz a5 1 I1 [1,10,1]:=O5.rd1 (t:=2) fun x hx=>L.H.blk x (qax _<|by simp[hx]);have h5:=L.H.blk (b4,Bl 43 [.int .i64 0,.slice a5 n5 c5]) (qax _<|by simp);have R6:Rd wz a6 1 I1 [5,0]:=O6.rd1 (t:=2) fun x hx=>L.H.blk x (qax _<|by simp[hx]);have h6:=L.H.blk (b5,Bl 43 [.int .i64 0,.slice a6 n6 c6])<|qax _<|by simp
 have R7:Rd wz a7 1 I1 [-4]:=O7.rd1 (t:=2) fun x hx=>L.H.blk x (qax _<|by simp[hx]);have h7:=L.H.blk (b6,Bl 43 [.int .i64 0,.slice a7 n7 c7]) (qax _<|by simp);have R8:Rd wz a8 1 I1 [1]:=O8.rd1 (t:=2) fun x hx=>L.H.blk x (qax _<|by simp[hx]);have h8:=L.H.blk (b7,Bl 43 [.int .i64 0,.slice a8 n8 c8]) (qax _<|by simp);have h9:=L.H.blk (b8,Bl 43 [.int .i64 3,.slice a9 n9 c9]) (qax _<|by simp);clear L H;have H:=Ctx.start wz [];refine Af<|BC _ qf qf U U ((BQ (b:=b2) (t:=43) (l:=[.int .i64 0,.slice a3 n3 c3]) (H.ext.to h3<|by simp) 0 [.int .i64 0,.slice a3 n3 c3] U)) ?_;refine Cs ([5,0].map Cu) qf qf qf H ?_;rintro y3 w - H
 refine Aj qB (J7 a3 (some ⟨y3,0,none⟩) n3 _ c3 _ [5,0] _ (R3.ext0 H.ext) O3.num.symm (by have:=O3.num;simp at this;omega) (Rd.of_bl (xs:=([5,0]:List Int)) (enc:=I1) (r:=[]) (H.get at0) U<|by decide) U) U ?_;rintro v w ⟨rfl,hx39⟩;replace H:=H.call hx39;refine Bj U<|BC _ qf qf U U ((BQ (b:=b3) (t:=43) (l:=[.int .i64 0,.slice a4 n4 c4]) (H.ext.to h4<|by simp) 0 [.int .i64 0,.slice a4 n4 c4] U)) ?_;refine C5 ([1].map Cu) (.int .i64 1) qf qf qf U U U U H ?_;rintro y4 w - H;refine Aj qB (J7 a4 (some ⟨y4,0,none⟩) n4 _ c4 _ [1] _ (R4.ext0 H.ext) O4.num.symm (by have:=O4.num;simp at this;omega) (Rd.of_bl (xs:=([1]:List Int)) (enc:=I1) (r:=[]) (H.get at0) U<|by decide) U) U ?_;rintro v w ⟨rfl,hx43⟩;replace H:=H.call hx43;refine qG 2 ?_
 refine BC _ qf qf U U ((BQ (b:=b4) (t:=43) (l:=[.int .i64 0,.slice a5 n5 c5]) (H.ext.to h5<|by simp) 0 [.int .i64 0,.slice a5 n5 c5] U))<|Cs ([1,10,1].map Cu) qf qf qf H ?_;rintro y5 w - H;refine Aj qB (J7 a5 (some ⟨y5,0,none⟩) n5 _ c5 _ [1,10,1] _ (R5.ext0 H.ext) O5.num.symm (by have:=O5.num;simp at this;omega) (Rd.of_bl (xs:=([1,10,1]:List Int)) (enc:=I1) (r:=[]) (H.get at0) U<|by decide) U) U ?_;rintro v w ⟨rfl,hx48⟩;replace H:=H.call hx48;refine qG 2 ?_;refine BC _ qf qf U U ((BQ (b:=b5) (t:=43) (l:=[.int .i64 0,.slice a6 n6 c6]) (H.ext.to h6<|by simp) 0 [.int .i64 0,.slice a6 n6 c6] U))<|Cs ([5,0].map Cu) qf qf qf H ?_;rintro y6 w - H
 refine Aj qB (J7 a6 (some ⟨y6,0,none⟩) n6 _ c6 _ [5,0] _ (R6.ext0 H.ext) O6.num.symm (by have:=O6.num;simp at this;omega) (Rd.of_bl (xs:=([5,0]:List Int)) (enc:=I1) (r:=[]) (H.get at0) U<|by decide) U) U ?_;rintro v w ⟨rfl,hx53⟩;replace H:=H.call hx53;refine qG 2 ?_;refine BC _ qf qf U U ((BQ (b:=b6) (t:=43) (l:=[.int .i64 0,.slice a7 n7 c7]) (H.ext.to h7<|by simp) 0 [.int .i64 0,.slice a7 n7 c7] U))<|C5 ([-4].map Cu) (.int .i64 (-4)) qf qf qf U U U U H ?_;rintro y7 w - H;refine Aj qB (J7 a7 (some ⟨y7,0,none⟩) n7 _ c7 _ [-4] _ (R7.ext0 H.ext) O7.num.symm (by have:=O7.num;simp at this;omega) (Rd.of_bl (xs:=([-4]:List Int)) (enc:=I1) (r:=[]) (H.get at0) U<|by decide) U) U ?_;rintro v w ⟨rfl,hx58⟩;replace H:=H.call hx58;refine qG 2 ?_
 refine BC _ qf qf U U ((BQ (b:=b7) (t:=43) (l:=[.int .i64 0,.slice a8 n8 c8]) (H.ext.to h8<|by simp) 0 [.int .i64 0,.slice a8 n8 c8] U))<|C5 ([1].map Cu) (.int .i64 1) qf qf qf U U U U H ?_;rintro y8 w - H;refine Aj qB (J7 a8 (some ⟨y8,0,none⟩) n8 _ c8 _ [1] _ (R8.ext0 H.ext) O8.num.symm (by have:=O8.num;simp at this;omega) (Rd.of_bl (xs:=([1]:List Int)) (enc:=I1) (r:=[]) (H.get at0) U<|by decide) U) U ?_;rintro v w ⟨rfl,hx63⟩;replace H:=H.call hx63;refine qG 3 ?_;refine A9 qf U ((H.old (Ai h9 _)<|by simp)) ?_;refine qG 7 ?_;exact⟨rfl,hz.trans H.ext⟩
theorem Led.call{m:Lm}(L:Led bl w0 w B m s T)(hx:Ext [] w w'):Led bl w0 w' B m s T:=L.next<|(Ctx.start w []).call hx
theorem LC{m:Lm}(L:Led bl w0 w B m s T) :
  Ret prog 12 #[ptr bl] w fun v w'=>Ext [] w w'/\∃z,v=.agg (stC s z).toArray/\StAt w' s z/\StOff s z (fun x=>x<w.heap.size):=by
 obtain⟨H,I,e⟩:=L;subst e;exact Xm w I H.right
theorem SB(w:World)(h:s'=s)(hok:s.Ok)(Z:StAt w s z)(Y:StAt w s' y) :
  Ret prog 16 #[.agg (stC s z).toArray,.agg (stC s' y).toArray] w fun v w'=>v=.bool true/\Ext [] w w':=by
 subst h;have h16:=(BM.1 hok.ac).1;have h64:=(CB hok.du).1;have h4:=hok.kept.1;exact Abf w Z Y fun r hr=>Mw<|hok.may r hr
theorem Led.nextT{m:Lm}(L:Led bl w0 w B m s T)(H:Ctx w [] w' E):Led bl w0 w' (E++B) m s (fun x=>T x\/x∈E.map (fun x=>x.1)) :=
 ⟨by rw[qaz];exact Ctx.back (L1:=[]) (L2:=B++LL m s) L.H H,L.I.grow H.ext (by simp) ⟨fun x hx => .inl hx,fun x hx=>hx.imp_right fun h=>by
  obtain⟨y,hy,rfl⟩:=qak.1 h
  exact(H.own y hy).elim (fun h=>by cases h) id⟩ fun x hx=>hx.elim (fun h=>qbb (L.I.low x h) H.size) fun h=>by
  obtain⟨y,hy,rfl⟩:=qak.1 h
  exact AX<|H.blk y hy,L.e⟩
structure Duo(bl:Nat)(w0 w:World)(B:List (Nat × Obj))(m:Lm)(mr:Rm)(s sr:Ld)(T:Nat->Prop):Prop where
 H:Ctx w0 [] w (RLL mr sr++(B++LL m s))
 I:LdIn w m s T
 e:m.bl=bl
 OA:OS mr.a sr.acs.length mr.c 2 mr.full (sr.acs.flatMap Cg)
 OD:OS mr.ad sr.ds.length mr.cd 7 mr.fd (sr.ds.flatMap BK)
 OR:OSo mr.ar mr.o sr.rn.length mr.cr 8 mr.fr ((sr.rn.zip mr.qs).flatMap Er)
 n:mr.qs.length=sr.rn.length
 ok:sr.Ok
 K:∀x∈sr.rn.zip mr.qs,RAt w x.1 x.2/\ROff x.2 x.1 (fun y=>T y\/y∈B.map (·.1))
 own:∀x∈(RLL mr sr).map (·.1),T x
section
variable {bl:Nat}{w0 w w':World}{B E:List (Nat × Obj)}{m:Lm}{mr:Rm}{s sr s':Ld}{T:Nat->Prop}
theorem Duo.rl(h:Duo bl w0 w B m mr s sr T):Rl mr sr w0 [] w<|B++LL m s:=⟨h.H,h.OA,h.OD,h.OR,h.n⟩
theorem Duo.led(h:Duo bl w0 w B m mr s sr T):Led bl w0 w (B++RLL mr sr) m s T:=⟨by rw[qaz];exact h.H.perm<|L7 _ _ _,h.I,h.e⟩
theorem V3(H:Ctx w0 [] w<|(E++(B++RLL mr sr))++LL m s):Ctx w0 [] w (RLL mr sr++((E++B)++LL m s)) :=
 Ctx.perm (by rw[<-qaz,qaz]at H;exact H) (L7 _ _ _)
theorem Ajx(h:Duo bl w0 w B m mr s sr T)(hin:AkIn k) :
  Ret prog 11 #[ptr bl,.agg (BN k).toArray] w fun v w'=>∃a c full p s' m' T',v=.agg #[.int .i64 p.e,.slice a p.n.length c]/\OS a p.n.length c 1 full (p.n.map Cu)/\C9 s k s' p/\Duo bl w0 w' (ent a 2 full++B) m' mr s' sr T':=by
 refine Ret.mono (V2 h.led hin) ?_;rintro v w' ⟨a,n,c,full,p,s',m',T',rfl,O,hst,L3,g,hx,hn⟩;obtain rfl:n=p.n.length:=by have:=O.llen;rw[qaj]at this;omega
 refine⟨a,c,full,p,s',m',T',rfl,O,hst,⟨V3 L3.H,L3.I,L3.e,h.OA,h.OD,h.OR,h.n,h.ok,fun x hz=>?_,fun x hx=>g.1 x<|h.own x hx⟩⟩;obtain⟨k1,k2⟩:=h.K x hz;refine⟨k1.ext hx<|k2.mono fun y hy => .inl (h.I.own y hy),(k2.or k1.lt).mono fun y hy=>?_⟩
 rcases hy with hy|hy
 .exact(g.2 y hy).elim (fun h => .inl (.inl h)) .inr
 .rw[qau]at hy
  rcases qa2.1 hy with hy|hy
  .obtain⟨z,hz,rfl⟩:=qak.1 hy;exact .inr<|hn z hz
  .exact .inl (.inr hy)
theorem Duo.call(h:Duo bl w0 w B m mr s sr T)(hx:Ext [] w w'):Duo bl w0 w' B m mr s sr T :=
 ⟨h.H.call hx,h.I.grow hx (by simp) (Grows.refl _ _) fun x hy=>qbb (h.I.low x hy) hx.size,h.e,h.OA,h.OD,h.OR,h.n,h.ok,fun x hz=>⟨(h.K x hz).1.ext0 hx,(h.K x hz).2⟩,h.own⟩
theorem Duo.nextT(h:Duo bl w0 w B m mr s sr T)(H:Ctx w [] w' E):Duo bl w0 w' (E++B) m mr s sr fun x=>T x\/x∈E.map (fun x=>x.1):=by
 have L:=h.led.nextT H;refine⟨V3 L.H,L.I,h.e,h.OA,h.OD,h.OR,h.n,h.ok,fun x hz=>?_,fun x hx => .inl (h.own x hx)⟩;obtain⟨k1,k2⟩:=h.K x hz
 have hE:∀y,y∈E.map (·.1)->w.heap.size<=y:=fun y hy=>by
  obtain⟨z,hz,rfl⟩:=qak.1 hy;exact(H.own z hz).elim (fun h=>by cases h) id
 refine⟨k1.ext0 H.ext,(k2.or k1.lt).mono fun y hy=>?_⟩
 rcases hy with(hy|hy)|hy
 .exact .inl (.inl hy)
 .exact .inr (hE y hy)
 .rw[qau]at hy;exact(qa2.1 hy).elim (fun h => .inr (hE y h)) fun h => .inl (.inr h)
theorem Duo.blk(h:Duo bl w0 w B m mr s sr T){x:Nat × Obj}(hx:x∈B):w.heap[x.1]?=some x.2:=h.H.blk x<|qap _<|qax _ hx
theorem Duo.drop(h:Duo bl w0 w B m mr s sr T):Duo bl w0 w [] m mr s sr T :=
 ⟨(h.H.perm<|L7 _ _ _).right,h.I,h.e,h.OA,h.OD,h.OR,h.n,h.ok,fun x hz=>⟨(h.K x hz).1,(h.K x hz).2.mono fun y hy=>hy.elim .inl fun h=>by cases h⟩,h.own⟩
theorem Duo.set(h:Duo bl w0 w B m mr s sr T)(hb:(b,o)∈B)(hT:T b)(H2:Ctx w [b] w' [(b,o')]):∃B2,Duo bl w0 w' B2 m mr s sr T/\(b,o')∈B2/\(∀y∈B2.map (·.1),y∈B.map (·.1))/\∀z∈B,z.1≠b->z∈B2:=by
 obtain⟨l1,l2,rfl⟩:=List.append_of_mem hb
 have hp:(RLL mr sr++((l1++(b,o)::l2)++LL m s)).Perm<|[(b,o)]++(RLL mr sr++((l1++l2)++LL m s)):=by
  classical
  refine qb7.2 fun x=>?_;simp only[qce,qbz,List.count_nil];omega
 have hq:([(b,o')]++(RLL mr sr++((l1++l2)++LL m s))).Perm<|RLL mr sr++(((b,o')::(l1++l2))++LL m s):=by
  classical
  refine qb7.2 fun x=>?_;simp only[qce,qbz,List.count_nil];omega
 have hm:∀y,y∈((b,o')::(l1++l2)).map (·.1)->y∈(l1++(b,o)::l2).map (·.1):=fun y hy=>by
  simp only[qau,qas,qa2,qaf]at hy |-
  rcases hy with h|h|h
  .exact .inr (.inl h)
  .exact .inl h
  .exact .inr (.inr h)
 refine⟨(b,o')::(l1++l2),⟨(Ctx.back (L1:=[(b,o)]) (h.H.perm hp) H2).perm hq,h.I.grow H2.ext (fun x hx => .inl (by rw[qab.1 hx];exact hT)) (Grows.refl _ _) fun x hx=>qbb (h.I.low x hx) H2.ext.size,h.e,h.OA,h.OD,h.OR,h.n,h.ok,fun x hz=>?_,h.own⟩,qah ..,hm,fun z hz hne=>?_⟩
 .obtain⟨k1,k2⟩:=h.K x hz;exact⟨k1.ext H2.ext<|k2.mono fun y hy => .inl (by rw[qab.1 hy];exact hT),k2.mono fun y hy=>hy.imp_right<|hm y⟩
 .rcases qa2.1 hz with h1|h1
  .exact qae _ (qax _ h1)
  .rcases qaf.1 h1 with h2|h2
   .exact absurd (qaa (·.1) h2) hne
   .exact qae _ (qap _ h2)
theorem Abm(hx:Ext (S++R.map (·.1)) w w')(h1:∀z∈R,w.heap[z.1]?=some z.2)(h2:∀z∈R,w'.heap[z.1]?=some z.2):Ext S w w' :=
 ⟨hx.os,hx.tape,hx.output,hx.size,fun i hi hn=>by
  by_cases hm:i∈R.map (·.1)
  .obtain⟨z,hz,rfl⟩:=qak.1 hm;rw[h1 z hz,h2 z hz]
  .exact hx.block i hi fun h=>(qa2.1 h).elim hn hm⟩
theorem Duo.ids(h:Duo bl w0 w B m mr s sr T){y:Nat}(hy:y∈(RLL mr sr++(B++LL m s)).map (·.1)):T y\/y∈B.map (·.1):=by
 rw[qau,qau]at hy
 rcases qa2.1 hy with h1|h1
 .exact .inl (h.own y h1)
 .exact(qa2.1 h1).elim .inr fun h2 => .inl (h.I.own y h2)
theorem Q1(h:Duo bl w0 w B m mr s sr T)(hq:∀x∈s.rn.zip qs,RAt w x.1 x.2/\ROff x.2 x.1 (fun y=>T y\/y∈B.map (·.1)))(D:DoP mr w ((RLL mr sr++(B++LL m s)).map (·.1)) (B++LL m s) s p qs v w') :
  ∃v1 mr' T',v=.tuple #[v1,.bool true]/\RpR B w' v1 p/\Duo bl w0 w' B m mr' s s T'/\mr'.bl=mr.bl/\Grows T T' w/\Ext ((RLL mr sr).map (·.1)) w w':=by
 obtain⟨v1,rfl,⟨a,c,rfl,Rr,hnr⟩,mr',R',k,hsub,e1,rfl⟩:=D;have hk:=h.rl.homeR k;have hbl:∀z∈B++LL m s,w'.heap[z.1]?=some z.2:=fun z hz=>k.H.blk z<|qap _<|hsub z hz;have hx:Ext ((RLL mr sr).map (·.1)) w w':=Abm (R:=B++LL m s) (by rw[<-qau];exact k.H.ext) (fun z hz=>h.H.blk z<|qap _ hz) hbl;have hnd:=qby.1 k.H.nd;have hnd0:=qby.1 h.H.nd
 have hids:∀y∈(RLL mr' s).map (·.1),T y\/w.heap.size<=y:=fun y hy=>by
  obtain⟨z,hz,rfl⟩:=qak.1 hy
  rcases k.H.own z (qax _ hz)with h1|h1
  .rw[qau]at h1
   rcases qa2.1 h1 with h2|h2
   .exact .inl (h.own _ h2)
   .obtain⟨z2,hz2,he⟩:=qak.1 h2;exact absurd he.symm<|hnd.2.2 z hz z2<|hsub z2 hz2
  .exact .inr h1
 have g:Grows T (fun x=>T x\/x∈(RLL mr' s).map (·.1)) w:=⟨fun x hx => .inl hx,fun x hx=>hx.elim .inl<|hids x⟩;refine⟨_,mr',fun x=>T x\/x∈(RLL mr' s).map (·.1),rfl,⟨a,c,rfl,Rr,fun g z hz=>hnr g z<|qax _ hz⟩,⟨?_,h.I.grow hx (fun x hx => .inl (h.own x hx)) g fun x hx2=>hx2.elim (fun h1=>qbb (h.I.low x h1) hx.size) fun h1=>?_,h.e,k.OA,k.OD,k.OR,k.n,h.I.ok,fun x hz=>?_,fun x hx => .inr hx⟩,e1,g,hx⟩
 .exact Ctx.less hk.H (fun z hz=>(qa2.1 hz).elim (qax _) fun h1=>qap _<|hsub z h1) (qby.2 ⟨hnd.1,hnd0.2.1,fun x hx y hy=>hnd.2.2 x hx y<|hsub y hy⟩)
 .obtain⟨z,hz,rfl⟩:=qak.1 h1;exact AX<|k.H.blk z<|qax _ hz
 .obtain⟨k1,k2⟩:=hq x hz;refine⟨k1.ext hx<|k2.mono fun y hy => .inl (h.own y hy),(k2.or k1.lt).mono fun y hy=>?_⟩
  rcases hy with hy|hy
  .exact(g.2 y hy).elim (fun h => .inl (.inl h)) .inr
  .exact .inl (.inr hy)
theorem Abn(s:Ld)(a:Ak):(Dn s a).rn=s.rn:=by
 unfold Dn
 repeat (first|rfl|split)
def MadeP(w:World)(s':Ld)(T:Nat->Prop)(r:Rnd)(q:RSl):Prop:=s'.rn=[]\/(s'.rn.getLast? = some r/\RAt w r q/\ROff q r T)
theorem Aek(h:Duo bl w0 w B m mr s' s T)(hin:AkIn k)(hst:C9 s k s' p)(hm:MadeP w s' (fun y=>T y\/y∈B.map (·.1)) r q) :
  Ret prog 13 #[ptr mr.bl,.agg (BN k).toArray,.agg (AE r q).toArray] w fun v w'=>∃v1 mr' T',v=.tuple #[v1,.bool true]/\RpR B w' v1 p/\Duo bl w0 w' B m mr' s' s' T'/\mr'.bl=mr.bl/\Grows T T' w/\Ext ((RLL mr s).map (·.1)) w w':=by
 have hl:=h.rl.lendR;unfold C9 at hst
 by_cases hk:k.kd=10\/k.kd=11
 .rw[if_pos hk]at hst
  rcases hst with⟨h62,rfl,rfl⟩|⟨hno,r0,P,rfl,rfl⟩
  .exact Ret.mono (Ajv hk hl h62) fun v w' D=>Q1 h h.K D
  .have hne:(L4 s r0).rn≠[]:=fun e=>by
    have:=Pg s.rn { r0 with no:=s.no+1,day:=s.day };rw[show DY s.rn { r0 with no:=s.no+1,day:=s.day }=[]from e]at this;cases this
   rcases hm with hm|⟨hm,RA,hoff⟩
   .exact absurd hm hne
   .have he:r={ r0 with no:=s.no+1,day:=s.day }:=qal<|hm.symm.trans<|Pg s.rn _;subst he;refine Ret.mono (Aei (r:=r0) hk hl h.ok P hno (s.no+1) s.day ⟨RA.I,RA.E,RA.F,RA.P,RA.fc⟩ ⟨fun g=>fun hy=>hoff.I g<|h.ids hy,fun g=>fun hy=>hoff.E g<|h.ids hy,fun g=>fun hy=>hoff.F g<|h.ids hy,fun g=>fun hy=>hoff.P g<|h.ids hy⟩) fun v w' D=>Q1 h (fun x hx=>?_) D;have hx2:x∈(DY s.rn { r0 with no:=s.no+1,day:=s.day }).zip (Ma mr.qs q):=hx;rw[S8 h.n]at hx2
    rcases qa2.1 (qco hx2)with h1|h1
    .exact h.K x h1
    .rw[qab.1 h1];exact⟨RA,hoff⟩
 .rw[if_neg hk]at hst;obtain⟨rfl,rfl⟩:=hst;exact Ret.mono (Aeh hin hk hl h.ok fun x hx=>⟨(h.K x hx).1,(h.K x hx).2.mono fun y hy=>h.ids hy⟩) fun v w' D=>Q1 h (fun x hx=>h.K x (by rw[Abn]at hx;exact hx)) D
end
structure C19 where
 b1:Nat
 b2:Nat
 w1:World
 m1:Lm
 s:Ld
 s1:Ld
 z1:StZ
 p:Rp
 B0:List (Nat × Obj)
 k:Ak
 a:Option Addr
 n:Nat
 c:Nat
 i:Nat
abbrev rpC(C:C19)(a:Option Addr)(c:Nat):List Value:=[.int .i64 C.p.e,.slice a C.p.n.length c]
def W19(C:C19)(p7 p11 p12:Prop)(x7 x11:Value)(w:World):Prop:=∃B mr sr T,Duo C.b1 C.w1 w B C.m1 mr C.s1 sr T/\StAt w C.s1 C.z1/\StOff C.s1 C.z1 (fun y=>T y\/y∈B.map (·.1))/\(∀z∈C.B0,z∈B)/\mr.bl=C.b2/\(¬p7->sr=C.s) /\
 (p7->sr=C.s1/\∃a c,x7=.tuple #[.agg (rpC C a c).toArray,.bool true]/\Rd w a 1 I1 C.p.n/\(C.p.n≠[]->p11->∀b,x11=ptr b->b≠(adr a).block)) /\
 (p11->∃b o,x11=ptr b/\T b/\(b,Bl 43 o)∈B/\o.length=2/\(∀z∈C.B0,z.1≠b)/\(p12->∀a c,x7=.tuple #[.agg (rpC C a c).toArray,.bool true]->o=rpC C a c))
theorem StOff.news(Z:StAt w s z)(h:StOff s z T)(hT:∀y,T' y->T y\/w.heap.size<=y):StOff s z T':=(h.or Z.lt).mono hT
theorem W19.call{C:C19}(h:W19 C p7 p11 p12 x7 x11 w)(hx:Ext [] w w'):W19 C p7 p11 p12 x7 x11 w':=by
 obtain⟨B,mr,sr,T,D,Z,ZO,h1,h2,h3,h4,h5⟩:=h;refine⟨B,mr,sr,T,D.call hx,Z.ext0 hx,ZO,h1,h2,h3,fun g=>?_,h5⟩;obtain⟨g1,a,c,g2,g3,g4⟩:=h4 g;exact⟨g1,a,c,g2,g3.ext0 hx,g4⟩
theorem W19.new{C:C19}{o:List Value}(h:W19 C p7 p11 False x7 x11 w)(H:Ctx w [] w' [(b,Bl 43 o)])(ho:o.length=2):W19 C p7 True False x7 (ptr b) w':=by
 obtain⟨B,mr,sr,T,D,Z,ZO,h1,h2,h3,h4,h5⟩:=h;have hn:w.heap.size<=b:=(H.own _<|qah ..).elim (fun h=>by cases h) id;refine⟨_,mr,sr,_,D.nextT H,Z.ext0 H.ext,ZO.news Z fun y hy=>?_,fun z hz=>qae _<|h1 z hz,h2,h3,fun g=>?_,fun _=>⟨b,o,rfl,.inr<|qab.2 rfl,qah ..,ho,fun z hz e=>?_,False.elim⟩⟩
 .rcases hy with(hy|hy)|hy
  .exact .inl (.inl hy)
  .rw[qab.1 hy];exact .inr hn
  .rcases qaf.1 hy with h|h
   .rw[h];exact .inr hn
   .exact .inl (.inr h)
 .obtain⟨g1,a,c,g2,g3,g4⟩:=h4 g;refine⟨g1,a,c,g2,g3.ext0 H.ext,fun q _ b' e=>?_⟩;cases e;have:=g3.lt' (fun _ _=>rfl) (by decide) q;omega
 .have:=AX<|D.blk<|h1 z hz;omega
theorem W19.ref{C:C19}(h:W19 C False p11 False x7 x11 w)(hin:AkIn C.k)(hst:C9 C.s C.k C.s1 C.p)(hq:C.s1.rn=[]\/(C.s1.rn.getLast? = some r/\(r,q)∈C.s1.rn.zip C.z1.qs)) :
  Ret prog 13 #[ptr C.b2,.agg (BN C.k).toArray,.agg (AE r q).toArray] w fun v w'=>W19 C True p11 False v x11 w'/\∃v1,v=.tuple #[v1,.bool true]:=by
 obtain⟨B,mr,sr,T,D,Z,ZO,h1,h2,h3,-,h5⟩:=h;obtain rfl:sr=C.s:=h3 id;rw[<-h2];refine Ret.mono (Aek D hin hst<|hq.imp_right fun⟨g1,g2⟩=>⟨g1,Z.K _ g2,ZO.K _ g2⟩) ?_;rintro v w' ⟨v1,mr',T',rfl,⟨a,c,rfl,Rr,hnr⟩,D',e1,g,hx⟩;refine⟨⟨B,mr',C.s1,T',D',Z.ext hx<|ZO.mono fun y hy => .inl (D.own y hy),ZO.news Z fun y hy=>?_,h1,by rw[e1];exact h2,fun h=>absurd trivial h,fun _=>⟨rfl,a,c,rfl,Rr,fun q p11 b e=>?_⟩,fun p11=>?_⟩,_,rfl⟩
 .exact hy.elim (fun h=>(g.2 y h).elim (fun h => .inl (.inl h)) .inr) fun h => .inl (.inr h)
 .obtain⟨b',o,e2,-,h7,-⟩:=h5 p11;rw[e2]at e;cases e;exact hnr q _ h7
 .obtain⟨b,o,e2,h6,h7,h8,h9,-⟩:=h5 p11;exact⟨b,o,e2,g.1 b h6,h7,h8,h9,False.elim⟩
theorem W19.put{C:C19}{c:Nat}(h:W19 C True True False x7 (ptr b) w)(h7:x7=.tuple #[.agg (rpC C a c).toArray,.bool true])(H:Ctx w [b] w' [(b,Bl 43 (rpC C a c))]):W19 C True True True x7 (ptr b) w':=by
 obtain⟨B,mr,sr,T,D,Z,ZO,h1,h2,h3,h4,h5⟩:=h;obtain⟨b',o,e,h6,h8,h9,h10,-⟩:=h5 trivial;cases e;obtain⟨B2,D2,g1,gm,g2⟩:=D.set h8 h6 H;obtain⟨k1,a2,c2,k2,k3,k4⟩:=h4 trivial;rw[h7]at k2;cases k2;refine⟨B2,mr,sr,T,D2,Z.ext H.ext<|ZO.mono fun y hy => .inl (by rw[qab.1 hy];exact h6),ZO.mono fun y hy=>hy.imp_right<|gm y,fun z hz=>g2 z (h1 z hz)<|h10 z hz,h2,h3,fun _=>⟨k1,a,c,h7,k3.ext' H.ext fun q hm=>k4 q trivial b rfl (qab.1 hm).symm,k4⟩,fun _=>⟨b,_,rfl,h6,g1,rfl,h10,fun _ a3 c3 e=>?_⟩⟩;rw[h7]at e;cases e;rfl
def P19(C:C19):Nat->Env->Prop
 |0,e=>e.g 74=ptr C.b2
 |1,e=>e.g 75=.slice C.a C.n C.c
 |2,e=>e.g 76=.int .i64 (C.i:Int)
 |3,e=>e.g 77=.pointer (some ⟨(adr C.a).block,(adr C.a).off+(C.i:Int).toNat*7,none⟩)
 |4,e=>e.g 78=.agg (BN C.k).toArray
 |5,e=>e.g 79=.agg (stC C.s1 C.z1).toArray
 |6,e=>∃r q,e.g 80=.agg (AE r q).toArray/\(C.s1.rn=[]\/(C.s1.rn.getLast? = some r/\(r,q)∈C.s1.rn.zip C.z1.qs))
 |7,e=>∃x,e.g 81=.tuple #[x,.bool true]
 |8,e=>e.g 73=e.g 81
 |9,e=>∃x,e.g 81=.tuple #[x,.bool true]/\e.g 82=x
 |10,e=>e.g 83=.bool true
 |13,e=>e.g 17=.bool true
 |_,_=>True
def sl19:List (List Nat):=[[74],[75],[76],[77],[78],[79],[80],[81],[73,81],[82,81],[83],[16],[],[17]]
theorem P19.put{C:C19}:∀{j:Nat},d∉sl19.getD j []->P19 C j e->P19 C j (put e (some d) v)
 |0,h,g=>(Dg fun e=>h (by rw[<-e];decide)).trans g
 |1,h,g=>(Dg fun e=>h (by rw[<-e];decide)).trans g
 |2,h,g=>(Dg fun e=>h (by rw[<-e];decide)).trans g
 |3,h,g=>(Dg fun e=>h (by rw[<-e];decide)).trans g
 |4,h,g=>(Dg fun e=>h (by rw[<-e];decide)).trans g
 |5,h,g=>(Dg fun e=>h (by rw[<-e];decide)).trans g
 |6,h,⟨r,q,g1,g2⟩=>⟨r,q,(Dg fun e=>h (by rw[<-e];decide)).trans g1,g2⟩
 |7,h,⟨x,g⟩=>⟨x,(Dg fun e=>h (by rw[<-e];decide)).trans g⟩
 |8,h,g=>(Dg fun e=>h (by rw[<-e];decide)).trans<|Eq.trans g (Dg fun e=>h (by rw[<-e];decide)).symm
 |9,h,⟨x,g1,g2⟩=>⟨x,(Dg fun e=>h (by rw[<-e];decide)).trans g1,(Dg fun e=>h (by rw[<-e];decide)).trans g2⟩
 |10,h,g=>(Dg fun e=>h (by rw[<-e];decide)).trans g
 |11,_,_=>trivial
 |12,_,_=>trivial
 |13,h,g=>(Dg fun e=>h (by rw[<-e];decide)).trans g
 |j+14,_,_=>trivial
abbrev w19:List Nat:=[73,74,75,76,77,78,79,80,81,82,83,16,17]
structure S19(C:C19)(e0:Env)(l:Nat->Prop)(e:Env)(w:World):Prop where
 ds:e.ds=e0.ds
 old:∀t,t∉w19->e.g t=e0.g t
 P:∀j,j<14->l j->P19 C j e
 W:W19 C (l 7) (l 11) (l 12) (e.g 81) (e.g 16) w
theorem H6{l:Nat->Prop}(h:j≠i:=by decide):(j=i\/l j)=l j:=propext ⟨fun g=>g.resolve_left h,.inr⟩
theorem S19.step{C:C19}{e0:Env}{l:Nat->Prop}(A:S19 C e0 l e w)(hd:d∈w19)(hs:∀j,j<14->j≠i->l j->d∉sl19.getD j [])(hp:P19 C i<|put e (some d) v)(hw:W19 C (7=i\/l 7) (11=i\/l 11) (12=i\/l 12) ((put e (some d) v).g 81) ((put e (some d) v).g 16) w'):S19 C e0 (fun j=>j=i\/l j) (put e (some d) v) w':=by
 refine⟨A.ds,fun t ht=>(Dg fun h=>ht (by rw[h];exact hd)).trans<|A.old t ht,fun j hj hl=>?_,?_⟩
 .by_cases h:j=i
  .subst h;exact hp
  .exact P19.put (hs j hj h<|hl.resolve_left h) (A.P j hj<|hl.resolve_left h)
 .exact hw
theorem S19.pure{C:C19}{e0:Env}{l:Nat->Prop}(A:S19 C e0 l e w)(hd:d∈w19)(hs:∀j,j<14->j≠i->l j->d∉sl19.getD j [])(hi:i≠7/\i≠11/\i≠12)(hd2:d≠81/\d≠16)(hp:P19 C i<|put e (some d) v):S19 C e0 (fun j=>j=i\/l j) (put e (some d) v) w:=by
 refine A.step hd hs hp ?_;rw[Dg<|Ne.symm hd2.1,Dg<|Ne.symm hd2.2,H6 (h:=Ne.symm hi.1),H6 (h:=Ne.symm hi.2.1),H6 (h:=Ne.symm hi.2.2)];exact A.W
theorem Gj{e:Int}(he:0<=e/\e<=255)(hl:l.length<=29):(0<=(rp l e).e/\(rp l e).e<=255)/\(rp l e).n.length<=29:=by
 unfold rp
 split
 .exact⟨by dsimp only;omega,hl⟩
 .exact⟨he,by dsimp only;rw[List.length_nil];omega⟩
def Kf(p:Rp):Prop:=(0<=p.e/\p.e<=255)/\p.n.length<=29
theorem CW[Decidable c]{q:Rp}(h1:Kf p)(h2:Kf q):Kf<|if c then p else q:=by
 split
 .exact h1
 .exact h2
theorem Hm(h:l.length<=29):Kf ⟨0,l⟩:=⟨⟨qa4 0,(by decide:(0:Int)<=255)⟩,h⟩
theorem FW{e:Int}(h:0<=e/\e<=255:=by decide):Kf ⟨e,[]⟩:=⟨h,(by decide:0<=29)⟩
def Lc(e:Int):Prop:=0<=e/\e<=255
theorem EY[Decidable c]{p q:Int}(h1:Lc p)(h2:Lc q):Lc<|if c then p else q:=by
 split
 .exact h1
 .exact h2
theorem DO{e:Int}(h:0<=e/\e<=255:=by decide):Lc e:=h
theorem SD(ds:List Du)(k:Int)(b:Bool):Lc<|F3 ds k b:=by
 unfold F3
 cases Cn ds k with
 |none=>exact(DO:Lc 11)
 |some d=>exact EY DO DO
theorem Abo(ds:List Du)(k:Int):Lc<|I8 ds k:=by
 unfold I8
 cases Cn ds k with
 |none=>exact(DO:Lc 11)
 |some d=>exact(DO:Lc 0)
theorem Ur(h:C9 s k s' p):(0<=p.e/\p.e<=255)/\p.n.length<=29:=by
 by_cases hk:k.kd=10\/k.kd=11
 .unfold C9 at h;rw[if_pos hk]at h
  rcases h with⟨-,-,rfl⟩|⟨-,r,-,-,rfl⟩
  .exact FW
  .exact Hm (by decide:3<=29)
 .obtain⟨-,rfl⟩:=FH h (hk:=hk);show Kf (Dq s k);unfold Dq;refine CW (Gj (EY DO DO) (by decide:1<=29)) ?_;refine CW (Gj (by unfold DW;exact EY DO<|EY DO<|EY DO DO) (by decide:2<=29)) ?_;refine CW (Gj (by unfold DG;exact EY DO<|EY DO<|EY DO DO) (by decide:2<=29)) ?_;refine CW (Gj (by unfold GW;exact EY DO<|EY DO DO) (by decide:2<=29)) ?_;refine CW (CW (FW)<|CW (FW)<|Gj (by unfold FQ;exact EY DO<|EY DO<|EY DO DO) (by decide:1<=29)) ?_;refine CW (Gj (SD _ _ _) (by decide:0<=29))<|CW (Gj (SD _ _ _) (by decide:0<=29)) ?_;refine CW (Gj (Abo _ _) (by decide:0<=29))<|CW (CW (FW)<|Hm (by decide:1<=29)) ?_;refine CW (CW (Hm (by decide:2<=29))<|FW)<|CW (CW (Hm (by decide:1<=29))<|FW) ?_;refine CW ?_<|CW ?_<|FW
  .cases Cn s.ds k.id with
   |none=>exact FW
   |some d=>exact Hm (by decide:6<=29)
  .cases JA s k.id with
   |none=>exact FW
   |some r =>
    show Kf (ER r k.b);unfold ER;exact CW (FW)<|CW (Hm (by decide:5<=29))<|CW (Hm (by decide:1<=29))<|Hm (by decide:6<=29)
end Go.Proofs.YtfnfnmgilmejmaaGreat
