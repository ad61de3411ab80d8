/- Part 5 of the proof. -/
import Derived.Test.YtfnfnmgilmejmaaGreatPart4
set_option maxRecDepth 20000
set_option maxHeartbeats 8000000
namespace Go.Proofs.YtfnfnmgilmejmaaGreat
open Go.GV Go.Proofs.Tryz
attribute [local irreducible] A4 W Wq Wt
variable{α:Type}{fn:Func}{g:Gr}{D N:Int}{s:Lb}{A:List Ar}{es:List Ed}{fl pot:List Int}{La S l src:List Nat}{full outs:List Value}{L xs:List α}{b1 b2 b3 bf bh c cu d fc hn i j k m n nn o ob od oh oo q u:Nat}{by' cap x:Nat->Int}{all done' oth:Nat->Prop}{a au fr:Option Addr}{P:Program}{t:TypeId}{v:Value}{R:Value->World->Prop}{w w' w0:World}
def J8(x:Int):Bool:=decide (-1099511627776<=x) && decide (x<=1099511627776)
def EN(N:Int)(pot:List Int):Bool:=pot.all J8 && decide ((pot.length:Int)=N)
def Rh(N:Int)(es:List Ed)(pot:List Int)(k:Int):Int:=(Fy N es k).2.2+pot.getD (Fy N es k).1.toNat 0 - pot.getD (Fy N es k).2.1.toNat 0
def Fo(N:Int)(es:List Ed)(fl pot:List Int)(k:Nat):Bool := !(decide (Rh N es pot (k:Int)<0) && decide (0<JG N es fl (k:Int)))
def Gl(N:Int)(es:List Ed)(fl pot:List Int):Bool:=(List.range (2*es.length)).all (Fo N es fl pot)
def Ev(N:Int)(es:List Ed)(fl pot:List Int):Bool:=Cd N es && (Ei N es fl && (EN N pot && Gl N es fl pot))
theorem Ack(N:Int)(a p:Option Addr)(n c m d:Nat)(pot:List Int)(w:World)(R:Rd w p 1 I1 pot)(hm:pot.length=m)(hm2:m<=9223372036854775000) :
  Ret prog 189 #[CM N a n c,.slice p m d] w fun v w'=>v=.bool (EN N pot)/\Ext [] w w':=by
 subst hm;obtain⟨w0,rfl,H⟩:=qE w;refine iG func189 U<|Af<|Be [.int .i64 N,.slice a n c] (.agg _) U U H ?_;rintro b2 w - H;refine qG 11 ?_;refine AY 1048144 (α:=Nat) (fun i=>[(9,.int .i64 (i:Int))]) (fun i w'=>i<=pot.length/\Ctx w0 [] w' [(b2,Bl 53 [.int .i64 N,.slice a n c])]/\∀(k:Nat) (x:Int),k<i->pot[k]?=some x->J8 x=true) (fun i=>pot.length - i) 0 U ?_ ?_ ?_
 .exact⟨rfl,trivial⟩
 .exact⟨qai _,H,fun k x h=>absurd h<|qay _⟩
 .rintro i j w ⟨hi,H,hb⟩;refine qGp 5 ?_ ?_
  .intro h2;obtain⟨x,h7x⟩:=Au (l:=pot) (i:=i);refine qG 5 ?_;refine A2 R qf qf U U (by rfl)<|A9 qf U (((R.ext0 H.ext).fld h7x U (j:=0) U)) ?_;refine qG 4 ?_;refine Bo (α:=Unit) 516096 (fun _=>[(18,.bool<|!J8 x)]) (fun _ w'=>Ctx w0 [] w' [(b2,Bl 53 [.int .i64 N,.slice a n c])]) U ?_ ?_
   .refine qG 3 ?_;refine iC 15 U ?_ ?_
    .intro h1;refine qG 4 ?_;exact⟨rfl,(),rfl,⟨qaa Value.bool (by unfold J8;rw[qac];simp_all;try omega),trivial⟩,H⟩
    .intro h2;refine qG 4 ?_;exact⟨rfl,(),rfl,⟨qaa Value.bool (by unfold J8;rw[qac];simp_all;try omega),trivial⟩,H⟩
   rintro - j18 w H;refine iB U ?_ ?_
   .intro h3;refine qG 11 ?_;exact⟨qaa Value.bool (by unfold EN;rw[C2 h7x<|by simpa using h3];rfl),H.ext⟩
   .intro h3;refine A1<|Av<|Aa<|Aw<|Ap U U ?_;refine Ad U<|qA ?_;refine⟨i+1,rfl,⟨rfl,trivial⟩,⟨by omega,H,fun k y hk hy=>?_⟩,by omega⟩
    rcases qao k i with h7|h7
    .exact hb k y h7 hy
    .obtain rfl:k=i:=by omega
     rw[h7x]at hy;cases hy
     simpa using h3
  .intro h2;refine Bi<|Am<|Am<|A8<|Aa<|Af<|AH U<|Cp qf U<|Ae qf U<|Bh qf U H at0 U<|Ct U U<|A5 U<|qA<|Bf<|B6 (v:=(.bool _)) U U U ?_;exact⟨qaa Value.bool (by unfold EN;rw[CN fun k x hk hx=>hb k x (by omega) hx,qbs]),H.ext⟩
theorem Mm(hr:Cd N es=true)(hk:k<2*es.length):∃e,es[k / 2]?=some e/\Fy N es (k:Int)=Fh e k/\0<=(Fh e k).1/\(Fh e k).1<N/\0<=(Fh e k).2.1/\(Fh e k).2.1<N /\ -1000<=(Fh e k).2.2/\(Fh e k).2.2<=1000:=by
 obtain⟨e,he⟩:=Au (l:=es) (i:=k / 2);have hco:=Dw<|(Cr hr).2.2.2.1 e<|qad he;refine⟨e,he,?_,?_⟩
 .unfold Fy;rw[if_pos (by rw[hr,qcx];unfold HQ;simp;omega),qa7,Bp he]
 .unfold Fh
  split <;> (dsimp only;omega)
theorem Je(hp:EN N pot=true):(pot.length:Int)=N/\∀(i:Nat) (x:Int),pot[i]?=some x -> -1099511627776<=x/\x<=1099511627776:=by
 unfold EN J8 at hp;simp only[qag,qav,qaw]at hp;exact⟨hp.2,fun i x hx=>hp.1 x<|qad hx⟩
theorem Mn(hw:BO N es fl=true)(hk:k<2*es.length):∃e x,es[k / 2]?=some e/\fl[k / 2]?=some x/\JG N es fl (k:Int)=Jd e x k/\0<=x/\x<=e.cap/\e.cap<=4503599627370496:=by
 obtain⟨hl,hri,hin⟩:=Cj hw;obtain⟨e,he⟩:=Au (l:=es) (i:=k / 2);obtain⟨x,hx⟩:=Au (l:=fl) (i:=k / 2);have hco:=Dw<|(Cr hri).2.2.2.1 e<|qad he;have:=hin _ e x he hx;refine⟨e,x,he,hx,?_,this.1,this.2,by omega⟩;unfold JG;rw[if_pos (by rw[hw,qcx];unfold HQ;simp;omega),qa7,Bp he,Bp hx]
abbrev Na(b p:Option Addr)(m d q r:Nat):Value := .agg #[.slice b m d,.slice p q r]
theorem YA(N:Int)(a b p:Option Addr)(n c m d q r:Nat)(es:List Ed)(fl pot:List Int)(w:World)(R:Rd w a 4 Co es)(hn:es.length=n)(hN:I64 N)(Rf:Rd w b 1 I1 fl)(hm:fl.length=m)(Rp:Rd w p 1 I1 pot)(hq:pot.length=q)(hr:Cd N es=true)(hw:BO N es fl=true)(hp:EN N pot=true) :
  Ret prog 191 #[CM N a n c,Na b p m d q r] w fun v w'=>v=.bool (Gl N es fl pot)/\Ext [] w w':=by
 subst hn hm hq;obtain⟨w0,rfl,H⟩:=qE w;obtain⟨hN1,hN40,hn200,-⟩:=Cr hr;obtain⟨hpl,hpb⟩:=Je hp;have hfl:=(Cj hw).1;refine iG func191 U<|Af<|Be [.int .i64 N,.slice a es.length c] (.agg _) U U H ?_;rintro b2 w - H;refine Be [.slice b fl.length d,.slice p pot.length r] (.agg _) U U H ?_;rintro b3 w - H;refine qG 13 ?_;refine AY 70368744169968 (α:=Nat) (fun i=>[(13,.int .i64 (i:Int))]) (fun i w'=>i<=2*es.length/\Ctx w0 [] w' [(b3,Bl 55 [.slice b fl.length d,.slice p pot.length r]),(b2,Bl 53 [.int .i64 N,.slice a es.length c])]/\∀k,k<i->Fo N es fl pot k=true) (fun i=>2*es.length - i) 0 U ?_ ?_ ?_
 .exact⟨rfl,trivial⟩
 .exact⟨qai _,H,fun k h=>absurd h<|qay _⟩
 .rintro i j w ⟨hi,H,hb⟩;refine qGp 5 ?_ ?_
  .intro h2;have hi2:i<2*es.length:=by omega
   obtain⟨e,he,hE,q1,q2,q3,q4,q5,q6⟩:=Mm hr hi2;obtain⟨e',x,he',hx,hro,r1,r2,r3⟩:=Mn hw hi2;obtain⟨un,hun⟩:∃un:Nat,(Fh e i).1=un:=⟨(Fh e i).1.toNat,by omega⟩;obtain⟨vn,hvn⟩:∃vn:Nat,(Fh e i).2.1=vn:=⟨(Fh e i).2.1.toNat,by omega⟩;obtain⟨pu,hpu⟩:=Au (l:=pot) (i:=un);obtain⟨pv,hpv⟩:=Au (l:=pot) (i:=vn);have hbu:=hpb _ _ hpu;have hbv:=hpb _ _ hpv
   have hli:Rh N es pot (i:Int)=(Fh e i).2.2+pu - pv:=by
    unfold Rh;rw[hE,hun,hvn,qa7,qa7,Bp hpu,Bp hpv]
   have hgo:Fo N es fl pot i=true->∀k,k<i+1->Fo N es fl pot k=true:=fun h3 k hk=>by
    rcases qao k i with h7|h7
    .exact hb k h7
    .obtain rfl:k=i:=by omega
     exact h3
   refine qG 12 ?_;refine Aj qB (PU N a es.length c es _ (R.ext0 H.ext) U hN (i:Int)) U ?_;rintro v w ⟨rfl,hx19⟩;replace H:=H.call hx19;rw[hE,hun,hvn];refine qG 9 ?_;refine De 19 AW U U (AS U<|Aq qf U<|B7 qf U (by rintro _ rfl;exact H.drew) at0 U<|AS U<|Br Rp qf qf U U (by rfl)<|BD qf U (by rintro _ rfl;exact(((Rp.ext0<|H.ext.trans<|Ext.drew [] _).fld hpu rfl (j:=0) rfl)))<|Fw U U<|Aq qf U<|B7 qf U (by rintro _ rfl;exact H.drew) at0 U<|AS U<|Br Rp qf qf U U (by rfl)<|BD qf U (by rintro _ rfl;exact(((Rp.ext0<|H.ext.trans<|Ext.drew [] _).fld hpv rfl (j:=0) rfl))) ?_);refine qG 3 ?_;refine iD 37 U ?_ ?_
   .intro h3;refine MF U qf qf U (by rintro _ rfl;exact H.drew) at1 U ?_;refine Aq qf U<|B7 qf U (by rintro _ rfl;exact H.drew) at0 U ?_;refine AS U<|Cc ?_;replace H:=H.drew;refine Aj qB (PV N a b es.length c fl.length d es fl _ (R.ext0 H.ext) U hN (Rf.ext0 H.ext) U (i:Int)) U ?_;rintro v w ⟨rfl,hx42⟩;replace H:=H.call hx42;refine qGp 4 ?_ ?_
    .intro h4;refine qG 11 ?_;exact⟨qaa Value.bool (by unfold Gl;rw[C2 (qef hi2) (by unfold Fo;rw[hli,qam h3,qam h4];rfl)]),H.ext⟩
    .intro h4;refine A1<|Av<|Aa<|Aw<|Ap U U ?_;refine Ad U<|qA ?_;exact⟨i+1,rfl,⟨rfl,trivial⟩,⟨by omega,H,hgo (by unfold Fo;rw[hli,qa1 h4,qcv];rfl)⟩,by omega⟩
   .intro h3;refine qG 5 ?_;replace H:=H.drew;refine Al U<|Al U<|B9 U (.bool _) U<|qA<|FT U<|A1<|Av<|Aa<|Aw<|Ap U U ?_;refine Ad U<|qA ?_;exact⟨i+1,rfl,⟨rfl,trivial⟩,⟨by omega,H,hgo (by unfold Fo;rw[hli,qa1 h3,qd2];rfl)⟩,by omega⟩
  .intro h2;refine Bi<|Am<|Am<|A8<|Aa<|Af<|A5 U<|qA<|Bf<|B6 (v:=(.bool _)) U U U ?_;exact⟨qaa Value.bool (by unfold Gl;rw[qaw.2 fun k hk=>hb k (by have:=qa5.1 hk;omega)]),H.ext⟩
theorem HS{b:Nat}{l:List Value}(h:w.heap[b]?=some (Bl t l)):∀j v,l[j]?=some v->w.cell? ⟨b,0+j,none⟩=some v:=fun j v hv=>by
 rw[Ai h,qa0];exact hv
structure ChkK(b2 b3:Nat)(N:Int)(a b p:Option Addr)(c d r:Nat)(es:List Ed)(fl pot:List Int)(w:World):Prop where
 h2:w.heap[b2]?=some (Bl 53 [.int .i64 N,.slice a es.length c])
 h3:w.heap[b3]?=some (Bl 55 [.slice b fl.length d,.slice p pot.length r])
 R:Rd w a 4 Co es
 Rf:Rd w b 1 I1 fl
 Rp:Rd w p 1 I1 pot
section
variable {b2 b3:Nat}{N:Int}{a b p:Option Addr}{c d r:Nat}{es:List Ed}{fl pot:List Int}{w:World}
theorem Acl(K:ChkK b2 b3 N a b p c d r es fl pot w)(hN:I64 N):Ret prog 184 #[ptr b2] w fun v w'=>v=.bool (Cd N es)/\Ext [] w w':=by
 obtain⟨w0,rfl,H⟩:=qE w;refine iG func184 U ?_;refine Af<|A5 U<|qA<|Af<|BC _ qf qf U U (HS K.h2) ?_;refine Aj qB (K9 N a es.length c es _ K.R U hN) U ?_;rintro v w ⟨rfl,hx3⟩;replace H:=H.call hx3;refine qG 5 ?_;exact⟨rfl,H.ext⟩
theorem Acm(K:ChkK b2 b3 N a b p c d r es fl pot w)(hN:I64 N)(hf:fl.length<=9223372036854775000):Ret prog 186 #[ptr b2,ptr b3] w fun v w'=>v=.bool (Ei N es fl)/\Ext [] w w':=by
 obtain⟨w0,rfl,H⟩:=qE w;refine iG func186 U ?_;refine Af<|A5 U<|qA<|Af<|BC _ qf qf U U (HS K.h2) ?_;refine Ae qf U<|A9 qf U ((by rw[Ai K.h3];rfl)) ?_;refine Aj qB (Y9 N a b es.length c fl.length d es fl _ K.R U hN K.Rf U hf) U ?_;rintro v w ⟨rfl,hx3⟩;replace H:=H.call hx3;refine qG 5 ?_;exact⟨rfl,H.ext⟩
theorem Acn(K:ChkK b2 b3 N a b p c d r es fl pot w)(hq:pot.length<=9223372036854775000):Ret prog 188 #[ptr b2,ptr b3] w fun v w'=>v=.bool (EN N pot)/\Ext [] w w':=by
 obtain⟨w0,rfl,H⟩:=qE w;refine iG func188 U ?_;refine Af<|A5 U<|qA<|Af<|BC _ qf qf U U (HS K.h2) ?_;refine Ae qf U<|A9 qf U ((by rw[Ai K.h3];rfl)) ?_;refine Aj qB (Ack N a p es.length c pot.length r pot _ K.Rp U hq) U ?_;rintro v w ⟨rfl,hx3⟩;replace H:=H.call hx3;refine qG 5 ?_;exact⟨rfl,H.ext⟩
theorem Aco(K:ChkK b2 b3 N a b p c d r es fl pot w)(hN:I64 N)(hr:Cd N es=true)(hw:BO N es fl=true)(hp:EN N pot=true):Ret prog 190 #[ptr b2,ptr b3] w fun v w'=>v=.bool (Gl N es fl pot)/\Ext [] w w':=by
 obtain⟨w0,rfl,H⟩:=qE w;refine iG func190 U ?_;refine Af<|A5 U<|qA<|Af<|BC _ qf qf U U (HS K.h2) ?_;refine BC _ qf qf U U (HS K.h3)<|Aj qB (YA N a b p es.length c fl.length d pot.length r es fl pot _ K.R U hN K.Rf U K.Rp U hr hw hp) U ?_;rintro v w ⟨rfl,hx3⟩;replace H:=H.call hx3;refine qG 5 ?_;exact⟨rfl,H.ext⟩
end
def askN(N:Int)(es:List Ed)(fl pot:List Int):Nat->Bool
 |0=>Cd N es
 |1=>Ei N es fl
 |2=>EN N pot
 |_=>Gl N es fl pot
theorem Acp(h:∀k,k<4->askN N es fl pot k=true):Ev N es fl pot=true:=by
 have h0:=h 0 (by omega);have h1:=h 1 (by omega);have h2:=h 2 (by omega);have h3:=h 3 (by omega);unfold Ev;rw[show Cd N es=true from h0,show Ei N es fl=true from h1,show EN N pot=true from h2,show Gl N es fl pot=true from h3];rfl
theorem Acq(h:askN N es fl pot k=false)(hk:k<4:=by omega):Ev N es fl pot=false:=by
 have:k=0\/k=1\/k=2\/k=3:=by omega
 unfold Ev
 rcases this with rfl|rfl|rfl|rfl
 .rw[show Cd N es=false from h];simp
 .rw[show Ei N es fl=false from h];simp
 .rw[show EN N pot=false from h];simp
 .rw[show Gl N es fl pot=false from h];simp
theorem Ri(N:Int)(a b p:Option Addr)(n c m d q r:Nat)(es:List Ed)(fl pot:List Int)(w:World)(R:Rd w a 4 Co es)(hn:es.length=n)(hN:I64 N)(Rf:Rd w b 1 I1 fl)(hm:fl.length=m)(hm2:m<=9223372036854775000)(Rp:Rd w p 1 I1 pot)(hq:pot.length=q)(hq2:q<=9223372036854775000) :
  Ret prog 140 #[CM N a n c,Na b p m d q r] w fun v w'=>v=.bool (Ev N es fl pot)/\Ext [] w w':=by
 subst hn hm hq;obtain⟨w0,rfl,H⟩:=qE w;refine iG func140 U<|Af<|Be [.int .i64 N,.slice a es.length c] (.agg _) U U H ?_;rintro b2 w - H;refine Be [.slice b fl.length d,.slice p pot.length r] (.agg _) U U H ?_;rintro b3 w - H;refine qG 5 ?_;refine Ci [.pointer _] U<|Ci [.pointer _,.pointer _] U<|Ci [.pointer _,.pointer _] U<|Ci [.pointer _,.pointer _] U<|Cs [.func (.func 184) #[] #[ptr b2],.func (.func 186) #[] #[ptr b2,ptr b3],.func (.func 188) #[] #[ptr b2,ptr b3],.func (.func 190) #[] #[ptr b2,ptr b3]] qf qf qf H ?_;rintro b11 w - H;refine qG 5 ?_
 refine AY 2089040 (α:=Nat) (fun i=>[(13,.int .i64 (i:Int))]) (fun i w'=>i<=4/\Ctx w0 [] w' [(b11,Bl 31 [.func (.func 184) #[] #[ptr b2],.func (.func 186) #[] #[ptr b2,ptr b3],.func (.func 188) #[] #[ptr b2,ptr b3],.func (.func 190) #[] #[ptr b2,ptr b3]]),(b3,Bl 55 [.slice b fl.length d,.slice p pot.length r]),(b2,Bl 53 [.int .i64 N,.slice a es.length c])]/\∀k,k<i->askN N es fl pot k=true) (fun i=>4 - i) 0 U ?_ ?_ ?_
 .exact⟨rfl,trivial⟩
 .exact⟨qai _,H,fun k h=>absurd h<|qay _⟩
 .rintro i j w ⟨hi,H,hb⟩;refine qGp 5 ?_ ?_
  .intro h2;have KK:ChkK b2 b3 N a b p c d r es fl pot w:=⟨H.get at2,H.get at1,R.ext0 H.ext,Rf.ext0 H.ext,Rp.ext0 H.ext⟩
   obtain⟨f,ca,hfi,hcf,hret⟩:∃f ca,[Value.func (.func 184) #[] #[ptr b2],.func (.func 186) #[] #[ptr b2,ptr b3],.func (.func 188) #[] #[ptr b2,ptr b3],.func (.func 190) #[] #[ptr b2,ptr b3]][i]?=some (.func (.func f) #[] ca)/\An prog f=true/\Ret prog f ca w (fun v w'=>v=.bool (askN N es fl pot i)/\Ext [] w w'):=by
    have:i=0\/i=1\/i=2\/i=3:=by omega
    rcases this with rfl|rfl|rfl|rfl
    .exact⟨_,_,rfl,qB,Acl KK hN⟩
    .exact⟨_,_,rfl,qB,Acm KK hN hm2⟩
    .exact⟨_,_,rfl,qB,Acn KK hq2⟩
    .exact⟨_,_,rfl,qB,Aco KK hN (hb 0 (by omega)) (E4<|hb 1 (by omega)).1<|hb 2 (by omega)⟩
   refine qG 6 ?_;refine A9 qf U ((by rw[Ai<|H.get at0];simpa using hfi)) ?_;refine qG 5 ?_;refine FA (l:=ca.toList) U hcf (by simpa using hret) (by simp) ?_;rintro v w ⟨rfl,hx18⟩;replace H:=H.call hx18;refine qGp 3 ?_ ?_
   .intro h3;refine qG 11 ?_;exact⟨qaa Value.bool<|by rw[Acq (k:=i)<|by simpa using h3],H.ext⟩
   .intro h3;refine A1<|Av<|Aa<|Aw<|Ap U U ?_;refine Ad U<|qA ?_;refine⟨i+1,rfl,⟨rfl,trivial⟩,⟨by omega,H,fun k hk=>?_⟩,by omega⟩
    rcases qao k i with h7|h7
    .exact hb k h7
    .obtain rfl:k=i:=by omega
     simpa using h3
  .intro h2;refine Bi<|Am<|Am<|A8<|Aa<|Af<|A5 U<|qA<|Bf<|B6 (v:=(.bool _)) U U U ?_;exact⟨qaa Value.bool<|by rw[Acp fun k hk=>hb k<|by omega],H.ext⟩
abbrev Tg:=Int × Nat
def lt7(x y:Tg):Prop:=x.1<y.1\/(x.1=y.1/\x.2<y.2)
instance (x y:Tg):Decidable (lt7 x y):=by unfold lt7;infer_instance
def le7(x y:Tg):Prop:=x.1<y.1\/(x.1=y.1/\x.2<=y.2)
theorem le7.trans{x y z:Tg}(h:le7 x y)(k:le7 y z):le7 x z:=by unfold le7 at *;omega
theorem lt7.le{x y:Tg}(h:lt7 x y):le7 x y:=by unfold lt7 at h;unfold le7;omega
theorem TD{x y:Tg}(h:¬lt7 y x):le7 x y:=by unfold lt7 at h;unfold le7;omega
def HeapL(L:List Tg):Prop:=∀i x y,0<i->L[i]?=some x->L[(i - 1) / 2]?=some y->le7 y x
def UpI(L:List Tg)(k:Nat):Prop :=
 (∀i x y,0<i->i≠k->L[i]?=some x->L[(i - 1) / 2]?=some y->le7 y x)/\∀c x y,0<k->0<c->(c - 1) / 2=k->L[c]?=some x->L[(k - 1) / 2]?=some y->le7 y x
def DownI(L:List Tg)(k:Nat):Prop :=
 (∀i x y,0<i->(i - 1) / 2≠k->L[i]?=some x->L[(i - 1) / 2]?=some y->le7 y x)/\∀c x y,0<k->0<c->(c - 1) / 2=k->L[c]?=some x->L[(k - 1) / 2]?=some y->le7 y x
theorem Gd{L:List Tg}{x y:Tg}(hx:L[k]?=some x)(hy:L[o]?=some y)(i:Nat):((L.set k y).set o x)[i]?=if i=o then some x else if i=k then some y else L[i]? := by
 have h1:k<L.length:=(qbh.1 hx).1;have h2:o<L.length:=(qbh.1 hy).1
 by_cases e:i=o
 .subst e;rw[if_pos rfl,qc2 (by rw[qb8];exact h2)]
 .rw[if_neg e,qbx<|Ne.symm e]
  by_cases e2:i=k
  .subst e2;rw[if_pos rfl,qc2 h1]
  .rw[if_neg e2,qbx<|Ne.symm e2]
theorem UpI.done{L:List Tg}(h:UpI L k)(h0:∀x y,0<k->L[k]?=some x->L[(k - 1) / 2]?=some y->le7 y x):HeapL L:=fun i x y hi hx hy=>by
 by_cases e:i=k
 .subst e;exact h0 x y hi hx hy
 .exact h.1 i x y hi e hx hy
theorem UpI.step{L:List Tg}(h:UpI L k){x y:Tg}(hk:0<k)(hx:L[k]?=some x)(hy:L[(k - 1) / 2]?=some y)(hlt:lt7 x y):UpI ((L.set k y).set ((k - 1) / 2) x)<|(k - 1) / 2:=by
 obtain⟨o,ho⟩:=qD<|(k - 1) / 2;rw[<-ho]at hy |-;have hko:k≠o:=by omega
 refine⟨fun i a b hi hio ha hb=>?_,fun c a b h0 hc hco ha hb=>?_⟩
 .rw[Gd hx hy,if_neg hio]at ha;rw[Gd hx hy]at hb
  by_cases e:i=k
  .subst e;rw[if_pos rfl]at ha;rw[if_pos ho.symm]at hb;cases ha;cases hb;exact hlt.le
  .rw[if_neg e]at ha
   by_cases p1:(i - 1) / 2=o
   .rw[if_pos p1]at hb;cases hb;exact hlt.le.trans<|h.1 i a y hi e ha (by rw[p1];exact hy)
   .rw[if_neg p1]at hb
    by_cases p2:(i - 1) / 2=k
    .rw[if_pos p2]at hb;cases hb;exact h.2 i a _ hk hi p2 ha (by rw[<-ho];exact hy)
    .rw[if_neg p2]at hb;exact h.1 i a b hi e ha hb
 .rw[Gd hx hy,if_neg (by omega:c≠o)]at ha;rw[Gd hx hy,if_neg (by omega:(o - 1) / 2≠o),if_neg (by omega:(o - 1) / 2≠k)]at hb;have hz:=h.1 o y b h0 (Ne.symm hko) hy hb
  by_cases e:c=k
  .rw[if_pos e]at ha;cases ha;exact hz
  .rw[if_neg e]at ha;exact hz.trans<|h.1 c a y hc e ha (by rw[hco];exact hy)
theorem DownI.none{L:List Tg}(h:DownI L k)(hn:L.length<=2*k+1):HeapL L:=fun i x y hi hx hy=>by
 have hil:i<L.length:=(qbh.1 hx).1;exact h.1 i x y hi (by omega) hx hy
def TE(L:List Tg)(k o:Nat)(y:Tg):Prop:=(o=2*k+1\/o=2*k+2)/\L[o]?=some y/\∀i z,(i - 1) / 2=k->0<i->L[i]?=some z->le7 y z
theorem DownI.done{L:List Tg}{x y:Tg}(h:DownI L k)(hx:L[k]?=some x)(hl:TE L k o y)(hn:¬lt7 y x):HeapL L:=fun i a b hi ha hb=>by
 by_cases e:(i - 1) / 2=k
 .rw[e,hx]at hb;cases hb;exact(TD hn).trans (hl.2.2 i a e hi ha)
 .exact h.1 i a b hi e ha hb
theorem DownI.step{L:List Tg}{x y:Tg}(h:DownI L k)(hx:L[k]?=some x)(hl:TE L k o y)(hlt:lt7 y x):DownI ((L.set k y).set o x) o:=by
 obtain⟨ho,hy,hmin⟩:=hl;have hko:k≠o:=by omega
 have hpo:(o - 1) / 2=k:=by omega
 refine⟨fun i a b hi hio ha hb=>?_,fun c a b h0 hc hco ha hb=>?_⟩
 .rw[Gd hx hy,if_neg hio]at hb;rw[Gd hx hy]at ha
  by_cases p:(i - 1) / 2=k
  .rw[if_pos p]at hb;cases hb
   by_cases e:i=o
   .rw[if_pos e]at ha;cases ha;exact hlt.le
   .rw[if_neg e,if_neg (by omega:i≠k)]at ha;exact hmin i a p hi ha
  .rw[if_neg p]at hb;rw[if_neg (by omega:i≠o)]at ha
   by_cases e:i=k
   .rw[if_pos e]at ha;cases ha;subst e;exact h.2 o _ b hi (by omega) hpo hy hb
   .rw[if_neg e]at ha;exact h.1 i a b hi p ha hb
 .rw[Gd hx hy,if_neg (by omega:c≠o),if_neg (by omega:c≠k)]at ha;rw[Gd hx hy,hpo,if_neg hko,if_pos rfl]at hb;cases hb;exact h.1 c a _ hc (by omega) ha (by rw[hco];exact hy)
theorem HeapL.root{L:List Tg}(h:HeapL L){r:Tg}(hr:L[0]?=some r):∀(i:Nat) (x:Tg),L[i]?=some x->le7 r x:=fun i=>by
 induction i using Nat.strongRecOn with
 |_ i ih =>
  intro x hx
  by_cases e:i=0
  .subst e;rw[hr]at hx;cases hx;exact .inr ⟨rfl,qaq _⟩
  .have hil:i<L.length:=(qbh.1 hx).1;obtain⟨y,hy⟩:∃y,L[(i - 1) / 2]?=some y:=⟨_,qb4<|by omega⟩;exact(ih _ (by omega) y hy).trans (h i x y (by omega) hx hy)
theorem HeapL.snoc{L:List Tg}(h:HeapL L)(z:Tg):UpI (L++[z]) L.length:=by
 have hg:∀(i:Nat) (x:Tg),i≠L.length->(L++[z])[i]?=some x->L[i]?=some x:=fun i x hi hx=>by
  have hil:i<(L++[z]).length:=(qbh.1 hx).1;rw[qat,qb6]at hil
  rwa [qcw<|by omega]at hx
 refine⟨fun i x y hi hn hx hy=>?_,fun c x y h0 hc hco hx hy=>?_⟩
 .have h1:=hg i x hn hx;have hil:i<L.length:=(qbh.1 h1).1;exact h i x y hi h1<|hg _ y (by omega) hy
 .have hil:c<(L++[z]).length:=(qbh.1 hx).1;rw[qat,qb6]at hil;omega
theorem HeapL.cut{x z:Tg}{L:List Tg}(h:HeapL (x::L)):DownI (((x::L).set 0 z).take L.length) 0:=by
 have hg:∀(i:Nat) (a:Tg),0<i->(((x::L).set 0 z).take L.length)[i]?=some a->(x::L)[i]?=some a:=fun i a hi ha=>by
  rw[qbt]at ha
  split at ha
  .rwa [qbx<|by omega]at ha
  .cases ha
 exact⟨fun i a b hi hn ha hb=>h i a b hi (hg i a hi ha)<|hg _ b (by omega) hb,fun c a b h0=>absurd h0<|Nat.lt_irrefl 0⟩
theorem E5{α:Type}{enc:α->List Value}{s:Nat}:∀{L:List α},(∀x∈L,(enc x).length=s)->(L.flatMap enc).length=L.length*s
 | [],_=>by simp
 |x::L,h=>by
  rw[qbw,qat,h x<|qah ..,E5 fun y hy=>h y<|qae _ hy,qbd,qb2,Nat.one_mul,qdi]
theorem Ov{x:α}(hx:L[i]?=some x)(y:α):L=L.take i++x::L.drop (i+1)/\L.set i y=L.take i++y::L.drop (i+1):=by
 have hi:=BH hx;have hg:L[i]=x:=by rw[qb4 hi]at hx;exact qal hx
 refine⟨?_,?_⟩
 .rw[<-hg,<-qdz hi,qbp]
 .rw[List.set_eq_take_append_cons_drop,if_pos hi]
theorem YB{enc:α->List Value}{s:Nat}(hs:∀x∈L,(enc x).length=s){x y:α}(hx:L[i]?=some x)(hy:(enc y).length=s)(r:List Value):over (L.flatMap enc++r) (i*s) (enc y)=(L.set i y).flatMap enc++r:=by
 obtain⟨h1,h2⟩:=Ov hx y;have hi:=BH hx;have hl:((L.take i).flatMap enc).length=i*s:=by rw[E5 fun z hz=>hs z<|qdl hz,qa8,qch<|by omega]
 rw[h2]
 conv=>lhs;rw[h1]
 rw[qbn,qbn,qbw,qbw,qaz,qaz,<-hl,X8 _ _ _ _<|by rw[hs x<|qad hx,hy]];simp only[qaz]
theorem Acr{enc:α->List Value}{s:Nat}(hs:∀x∈L,(enc x).length=s){x y:α}(hx:L[i]?=some x)(hj:j<s)(hy:enc y=(enc x).set j v)(r:List Value):(L.flatMap enc++r).set (i*s+j) v=(L.set i y).flatMap enc++r:=by
 obtain⟨h1,h2⟩:=Ov hx y;have hi:=BH hx;have hl:((L.take i).flatMap enc).length=i*s:=by rw[E5 fun z hz=>hs z<|qdl hz,qa8,qch<|by omega]
 have hxl:=hs x<|qad hx;rw[h2]
 conv=>lhs;rw[h1]
 rw[qbn,qbn,qbw,qbw,qaz,qaz,<-hl,List.set_append_right _ _<|by omega,Nat.add_sub_cancel_left,qaz,qaz,List.set_append_left _ _<|by omega,hy]
theorem OS.over{s:Nat}{enc:α->List Value}(O:OS a n c s full<|L.flatMap enc)(hs:∀x,(enc x).length=s){x:α}(hx:L[i]?=some x)(y:α):OS a n c s (over full (i*s)<|enc y)<|(L.set i y).flatMap enc:=by
 refine⟨O.zero,O.none',by rw[D6];exact O.len,O.le,?_⟩;rw[O.split,YB (fun z _=>hs z) hx<|hs y];have h1:=O.llen;rw[E5 fun z _=>hs z]at h1;exact qc1<|by rw[E5 fun z _=>hs z,qb8,h1]
theorem Ls{x y:α}(hx:L[i]?=some x)(hy:L[j]?=some y):((L.set i y).set j x).Perm L:=by
 obtain⟨hi,rfl⟩:=qbh.1 hx;obtain⟨hj,rfl⟩:=qbh.1 hy;exact List.set_set_perm hi hj
def E6(x:Int × Nat):List Value:=[.int .i64 x.1,.int .i64 (x.2:Int)]
theorem HU(x:Int × Nat):∀v∈E6 x,AF v=true:=fun v hv=>by
 simp only[E6,qaf,qan,or_false]at hv
 rcases hv with rfl|rfl <;> rfl
theorem Nb(x y:Int × Nat)(w:World):Ret prog 281 #[.agg (E6 x).toArray,.agg (E6 y).toArray] w fun v w'=>v=.bool (decide (lt7 x y))/\Ext [] w w':=by
 obtain⟨w0,rfl,H⟩:=qE w;refine iG func281 U<|Af<|Be (E6 x) (.agg _) U U H ?_;rintro b2 w - H;refine Be (E6 y) (.agg _) U U H ?_;rintro b3 w - H;refine qG 10 ?_;refine iC 10 U ?_ ?_
 .intro h1;refine qG 18 ?_;exact⟨qaa Value.bool (by unfold lt7;rw[qac];simp_all;try omega),H.ext⟩
 .intro h2;refine qG 6 ?_;refine iC 16 U ?_ ?_
  .intro h3;refine qG 12 ?_;exact⟨qaa Value.bool (by unfold lt7;rw[qac];simp_all;try omega),H.ext⟩
  .intro h4;refine qG 12 ?_;exact⟨qaa Value.bool (by unfold lt7;rw[qac];simp_all;try omega),H.ext⟩
theorem adr0(q:Nat):(adr<|some ⟨q,0,none⟩).off=0:=rfl
abbrev HB(bh:Nat)(a:Option Addr)(n c:Nat)(full:List Value):List (Nat × Obj):=(bh,Bl 334 [.slice a n c])::ent a 337 full
theorem up_ok{L:List (Int × Nat)}(H0:Ctx w [bh,q] w<|HB bh (some ⟨q,0,none⟩) n c full)(O:OS (some ⟨q,0,none⟩) n c 2 full (L.flatMap E6))(k:Nat)(hk:k<n)(hn:n<=1000000000)(hU:UpI L k) :
  Ret prog 280 #[ptr bh,.int .i64 (k:Int)] w fun v w'=>v=.tuple #[]/\∃(L':List<|Int × Nat) (full':List Value),L'.Perm L/\HeapL L'/\OS (some ⟨q,0,none⟩) n c 2 full' (L'.flatMap E6)/\Ctx w [bh,q] w' (HB bh (some ⟨q,0,none⟩) n c full'):=by
 obtain⟨w0,rfl⟩:=qD w;have H:=H0;refine iG func280 U ?_;refine Pz<|AB<|Py<|Aa<|AK<|AY 9007199254740978 (α:=Nat × List (Int × Nat) × List Value) (fun s=>[(1,.int .i64 (s.1:Int))]) (fun s w'=>s.1<n/\s.2.1.Perm L/\UpI s.2.1 s.1/\OS (some ⟨q,0,none⟩) n c 2 s.2.2 (s.2.1.flatMap E6)/\Ctx w0 [bh,q] w' (HB bh (some ⟨q,0,none⟩) n c s.2.2)) (fun s=>s.1) (k,L,full) U ?_ ?_ ?_
 .exact⟨rfl,trivial⟩
 .exact⟨hk,.refl _,hU,O,H⟩
 .rintro⟨k,L',f'⟩ j w ⟨hk,hp,hU,O,H⟩;dsimp only at hk hp hU O H;dsimp only;have hnum:n=L'.length:=O.numN (fun _ _=>rfl) (by decide);refine qGp 6 ?_ ?_
  .intro h1;obtain⟨o,ho⟩:=qD<|(k - 1) / 2;obtain⟨x,hxk⟩:=Au (l:=L') (i:=k);obtain⟨y,hyo⟩:=Au (l:=L') (i:=o);have Rk:=O.rd (w:=w.drew) (t:=337) (fun y hy=>H.drew.blk y<|qae _ hy) (fun _ _=>rfl) (by decide);refine qG 6 ?_;refine Hn U U (show _<=(9223372036854775807:Int)by omega) ?_;rw[show((k:Int) - 1) / 2=(o:Int)by omega];refine qG 4 ?_;refine De 14 AW U U (BE U<|Bc U<|Aq qf U<|B7 qf U (by rintro _ rfl;exact H.drew) at0 U<|AS U<|Br Rk qf qf U U (by omega)<|FI _ qf qf U U (by rintro _ rfl;exact(Rk.row hxk rfl))<|BE U<|Bc U<|Aq qf U<|B7 qf U (by rintro _ rfl;exact H.drew) at0 U<|AS U<|Br Rk qf qf U U (by omega)<|FI _ qf qf U U (by rintro _ rfl;exact(Rk.row hyo rfl))<|Cc ?_)
   replace H:=H.drew;refine Aj qB (Nb x y _) U ?_;rintro v w ⟨rfl,hx24⟩;replace H:=H.call hx24;refine qGp 3 ?_ ?_
   .intro h2;refine qG 7 ?_;have hnl:¬lt7 x y:=by simpa using h2
    exact⟨rfl,L',f',hp,hU.done fun a b _ ha hb=>by
     rw[hxk]at ha;rw[<-ho,hyo]at hb;cases ha;cases hb
     exact TD hnl,O,H⟩
   .intro h2;obtain⟨w7,rfl⟩:=qD w;have R7:=O.rd (w:=w7.drew) (t:=337) (fun y hy=>H.drew.blk y<|qae _ hy) (fun _ _=>rfl) (by decide);have hol:=O.len;have hole:=O.le;refine A1<|Aa<|BG [([0,1,2,3,4,5,6,7,8,9,10,11,12,13,14,15,16,17,18,19,20,21,22,23,24],25),([26],27)] (fun z=>z=World.drew w7) [25,27] AW (rfl) ?_;refine A0 U U<|Bm U<|A7 U<|Ah qf U<|JD qf U (by rintro _ rfl;exact H.drew) at0 U ?_;refine AG U<|Bm U<|A7 U<|Ah qf U<|JD qf U (by rintro _ rfl;exact H.drew) at0 U ?_;refine AG U<|Bm U<|A7 U<|Ah qf U<|JD qf U (by rintro _ rfl;exact H.drew) at0 U ?_;refine AG U<|B4 R7 qf qf U U (by omega) ?_;refine EZ _ qf qf U U (fun _ hx=>(by subst hx;exact R7.row hyo rfl)) ?_
    refine Bm U<|A7 U<|Ah qf U<|JD qf U (by rintro _ rfl;exact H.drew) at0 U ?_;refine AG U<|B4 R7 qf qf U U (by omega) ?_;refine EZ _ qf qf U U (fun _ hx=>(by subst hx;exact R7.row hxk rfl)) ?_;refine B4 R7 qf qf U U (by omega)<|A6 ?_;replace H:=H.drew;refine FU (vs:=E6 y) U qf U U U (HU y) H at1 (by show 0+(k:Int).toNat*2+2<=_;omega) ?_;rintro w H;refine Ab<|Bw U<|A0 U U ?_;refine B4 R7 qf qf U U (by omega)<|A6<|FU (vs:=E6 x) U qf U U U (HU x) H at1 (by rw[D6];show 0+(o:Int).toNat*2+2<=_;omega) ?_;rintro w H;refine Ab<|Bw U<|Bu<|Aw<|Ad U<|Ag U<|Ab<|Av<|Aa ?_;have hne:k≠o:=by omega
    refine⟨(o,(L'.set k y).set o x,over (over f' (k*2)<|E6 y) (o*2)<|E6 x),rfl,⟨rfl,trivial⟩,⟨by dsimp only;omega,(Ls hxk hyo).trans hp,by dsimp only;rw[ho];exact hU.step (by omega) hxk (by rw[<-ho];exact hyo)<|by simpa using h2,OS.over (OS.over O (fun _=>rfl) hxk y) (fun _=>rfl) (by rw[qbx hne];exact hyo) x,?_⟩,by dsimp only;omega⟩;simp only[adr0,qa7,qa0]at H;exact H
  .intro h1;refine qG 6 ?_;exact⟨rfl,L',f',hp,hU.done fun a b h0=>absurd h0<|by omega,O,H⟩
theorem Acs{L:List (Int × Nat)}(H0:Ctx w [bh,q] w<|HB bh (some ⟨q,0,none⟩) n c full)(O:OS (some ⟨q,0,none⟩) n c 2 full (L.flatMap E6))(hD:DownI L 0)(hn:n<=1000000000:=by omega):
  Ret prog 277 #[ptr bh,.int .i64 0] w fun v w'=>v=.tuple #[]/\∃(L':List<|Int × Nat) (full':List Value),L'.Perm L/\HeapL L'/\OS (some ⟨q,0,none⟩) n c 2 full' (L'.flatMap E6)/\Ctx w [bh,q] w' (HB bh (some ⟨q,0,none⟩) n c full'):=by
 obtain⟨w0,rfl⟩:=qD w;have H:=H0;refine iG func277 U ?_;refine Pz<|AB<|Py<|Aa<|AK<|AY 77371252455336267181195250 (α:=Nat × List (Int × Nat) × List Value) (fun s=>[(1,.int .i64 (s.1:Int))]) (fun s w'=>s.1<=n/\s.2.1.Perm L/\DownI s.2.1 s.1/\OS (some ⟨q,0,none⟩) n c 2 s.2.2 (s.2.1.flatMap E6)/\Ctx w0 [bh,q] w' (HB bh (some ⟨q,0,none⟩) n c s.2.2)) (fun s=>n - s.1) (0,L,full) U ?_ ?_ ?_
 .exact⟨rfl,trivial⟩
 .exact⟨qai _,.refl _,hD,O,H⟩
 .rintro⟨k,L',f'⟩ j w ⟨hk,hp,hD,O,H⟩;dsimp only at hk hp hD O H;dsimp only;have hnum:n=L'.length:=O.numN (fun _ _=>rfl) (by decide);have hol:=O.len;have hole:=O.le;obtain⟨m,hm⟩:=qD<|2*k+1;refine qG 5 ?_;rw[show(2*(k:Int)+1)=(m:Int)by omega];refine qGp 14 ?_ ?_
  .intro h1;refine qG 7 ?_;exact⟨rfl,L',f',hp,hD.none<|by omega,O,H⟩
  .intro h1;obtain⟨x,hxm⟩:=Au (l:=L') (i:=m);refine A1<|Aa<|AB<|Dk 2199023222784 (α:=Bool) (fun z=>[(40,.bool z)]) (fun z w'=>(z=true->∃y,L'[m+1]?=some y/\lt7 y x)/\(z=false->∀y,L'[m+1]?=some y->¬lt7 y x)/\Ctx w0 [bh,q] w' (HB bh (some ⟨q,0,none⟩) n c f')) U ?_ ?_
   .skip
    have Rk:=O.rd (w:=w.drew) (t:=337) (fun y hy=>H.drew.blk y<|qae _ hy) (fun _ _=>rfl)<|by decide
    obtain⟨y,hy7⟩:∃y,m+1<n->L'[m+1]?=some y:=by
     by_cases h:m+1<n
     .obtain⟨y,hy⟩:=Au (l:=L') (i:=m+1);exact⟨y,fun _=>hy⟩
     .exact⟨x,fun h'=>absurd h' h⟩
    refine DL 24 AW U U ?_;refine qG 5 ?_;refine B7 qf U (by rintro _ rfl;exact H.drew) at0 U<|Aer U qf U<|JC U U<|EU U<|iD 23 U ?_ ?_
    .intro h2;refine qG 3 ?_;refine B7 qf U (by rintro _ rfl;exact H.drew) at0 U<|AS U<|Fw U U<|Br Rk qf qf U U (by omega)<|FI _ qf qf U U (by rintro _ rfl;exact(Rk.row (hy7<|by omega) rfl))<|BE U<|Bc U<|Aq qf U<|B7 qf U (by rintro _ rfl;exact H.drew) at0 U<|AS U<|Br Rk qf qf U U (by omega)<|FI _ qf qf U U (by rintro _ rfl;exact(Rk.row hxm rfl))<|Cc ?_;replace H:=H.drew;refine Aj qB (Nb y x _) U ?_;rintro v w ⟨rfl,hx39⟩;replace H:=H.call hx39;refine qG 3 ?_
     exact⟨decide (lt7 y x),rfl,⟨rfl,trivial⟩,fun h=>⟨y,hy7<|by omega,qbe h⟩,fun h z hz=>by
      rw[hy7<|by omega]at hz;cases hz
      exact qbq h,H⟩
    .intro h2;refine qG 16 ?_;replace H:=H.drew;refine qG 4 ?_;exact⟨false,rfl,⟨rfl,trivial⟩,(fun h=>by cases h),(fun _ z hz=>by have:=BH hz;omega),H⟩
   .rintro z j2 w ⟨hzt,hzf,H⟩;refine EH 6597069766672 (α:=Nat) (fun z=>[(4,.int .i64 (z:Int))]) (fun z w'=>(∃y,TE L' k z y)/\Ctx w0 [bh,q] w' (HB bh (some ⟨q,0,none⟩) n c f')) U ?_ ?_
    .skip
     refine A3 _ U ?_ ?_
     .intro h2;obtain⟨y,hy,hlt⟩:=hzt h2;have hz':=BH hy;refine qG 6 ?_;refine⟨m+1,rfl,⟨rfl,trivial⟩,⟨y,.inr<|by omega,hy,fun i a hi h0 ha=>?_⟩,H⟩
      have:i=m\/i=m+1:=by omega
      rcases this with rfl|rfl
      .rw[hxm]at ha;cases ha;exact hlt.le
      .rw[hy]at ha;cases ha;exact .inr ⟨rfl,qaq _⟩
     .intro h2;refine A1<|Aa ?_;refine⟨m,rfl,⟨rfl,trivial⟩,⟨x,.inl<|by omega,hxm,fun i a hi h0 ha=>?_⟩,H⟩
      have:i=m\/i=m+1:=by omega
      rcases this with rfl|rfl
      .rw[hxm]at ha;cases ha;exact .inr ⟨rfl,qaq _⟩
      .exact TD (hzf h2 a ha)
    .rintro o j3 w ⟨⟨y,hl2⟩,H⟩;obtain⟨x,hxk⟩:=Au (l:=L') (i:=k);have hyo:=hl2.2.1;have hon:=BH hyo;have hko:k<o:=by have:=hl2.1;omega
     have Rk:=O.rd (w:=w.drew) (t:=337) (fun y hy=>H.drew.blk y<|qae _ hy) (fun _ _=>rfl) (by decide);refine AB<|De 14 AW U U ?_;refine BE U<|Bc U<|Aq qf U<|B7 qf U (by rintro _ rfl;exact H.drew) at0 U ?_;refine AS U<|Br Rk qf qf U U (by omega) ?_;refine FI _ qf qf U U (by rintro _ rfl;exact(Rk.row hyo rfl)) ?_;refine BE U<|Bc U<|Aq qf U<|B7 qf U (by rintro _ rfl;exact H.drew) at0 U ?_;refine AS U<|Br Rk qf qf U U (by omega) ?_;refine FI _ qf qf U U (by rintro _ rfl;exact(Rk.row hxk rfl)) ?_;refine Cc ?_;replace H:=H.drew;refine Aj qB (Nb y x _) U ?_;rintro v w ⟨rfl,hx57⟩;replace H:=H.call hx57;refine qGp 3 ?_ ?_
     .intro h2;refine qG 7 ?_;exact⟨rfl,L',f',hp,hD.done hxk hl2<|by simpa using h2,O,H⟩
     .intro h2;obtain⟨w7,rfl⟩:=qD w;have R7:=O.rd (w:=w7.drew) (t:=337) (fun y hy=>H.drew.blk y<|qae _ hy) (fun _ _=>rfl) (by decide);refine A1<|Aa<|BG [([0,1,2,3,4,5,6,7,8,9,10,11,12,13,14,15,16,17,18,19,20,21,22,23,24],25),([26],27)] (fun z=>z=World.drew w7) [25,27] AW (rfl) ?_;refine A0 U U<|Bm U<|A7 U<|Ah qf U<|JD qf U (by rintro _ rfl;exact H.drew) at0 U ?_;refine AG U<|Bm U<|A7 U<|Ah qf U<|JD qf U (by rintro _ rfl;exact H.drew) at0 U ?_;refine AG U<|Bm U<|A7 U<|Ah qf U<|JD qf U (by rintro _ rfl;exact H.drew) at0 U ?_;refine AG U<|B4 R7 qf qf U U (by omega) ?_;refine EZ _ qf qf U U (fun _ hx=>(by subst hx;exact R7.row hyo rfl)) ?_;refine Bm U (A7 U<|Ah qf U<|JD qf U (by rintro _ rfl;exact H.drew) at0 U ?_)
      refine AG U<|B4 R7 qf qf U U (by omega) ?_;refine EZ _ qf qf U U (fun _ hx=>(by subst hx;exact R7.row hxk rfl)) ?_;refine B4 R7 qf qf U U (by omega)<|A6 ?_;replace H:=H.drew;refine FU (vs:=E6 y) U qf U U U (HU y) H at1 (by show 0+(k:Int).toNat*2+2<=_;omega) ?_;rintro w H;refine Ab<|Bw U<|A0 U U ?_;refine B4 R7 qf qf U U (by omega)<|A6<|FU (vs:=E6 x) U qf U U U (HU x) H at1 (by rw[D6];show 0+(o:Int).toNat*2+2<=_;omega) ?_;rintro w H;refine Ab<|Bw U<|Bu<|Aw<|Ad U<|Ag U<|Ab<|Av<|Aa ?_;have hne:k≠o:=by omega
      refine⟨(o,(L'.set k y).set o x,over (over f' (k*2)<|E6 y) (o*2)<|E6 x),rfl,⟨rfl,trivial⟩,⟨by dsimp only;omega,(Ls hxk hyo).trans hp,hD.step hxk hl2<|by simpa using h2,OS.over (OS.over O (fun _=>rfl) hxk y) (fun _=>rfl) (by rw[qbx hne];exact hyo) x,?_⟩,by dsimp only;omega⟩;simp only[adr0,qa7,qa0]at H;exact H
theorem Acu(w:World):Ret prog 258 #[] w fun v w'=>∃b,v=ptr b/\w.heap.size<=b/\w'.heap[b]?=some (Bl 334 [.slice none 0 0])/\Ext [] w w':=by
 obtain⟨w0,rfl,H⟩:=qE w;refine iG func258 U<|Af<|Bx U<|qA<|Af<|Bd [.slice none 0 0] qf qf ?_;refine Be [.slice none 0 0] (.agg _) U U H ?_;rintro b2 w - H;refine qG 5 ?_;exact⟨b2,rfl,(H.own _<|qah ..).elim (fun h=>by cases h) id,H.get at0,H.ext⟩
theorem Acv(hb:w.heap[bh]?=some (Bl 334 [.slice a n c])):Ret prog 260 #[ptr bh] w fun v w'=>v=.int .i64 (n:Int)/\w=w':=by
 obtain⟨w0,rfl⟩:=qD w;refine iG func260 U ?_;refine qGc 10 ?_ ?_
 .intro h1;cases h1
 .intro h1;refine qG 6 ?_;refine A9 qf U ((by rw[Ai hb];rfl)) ?_;refine qG 6 ?_;exact⟨rfl,rfl⟩
theorem Acw{x:Int × Nat}{L:List (Int × Nat)}(hb:w.heap[bh]?=some (Bl 334 [.slice a n c]))(R:Rd w a 2 E6 (x::L))(hn:n=L.length+1):Ret prog 276 #[ptr bh] w fun v w'=>v=.tuple #[.int .i64 x.1,.int .i64 (x.2:Int),.int .i64 0]/\Ext [] w w':=by
 obtain⟨w0,rfl,H⟩:=qE w;have hbd:w0.drew.heap[bh]?=some (Bl 334 [.slice a n c]):=hb;have Rd':=R.ext0<|Ext.drew [] w0;refine iG func276 U ?_;refine qGc 14 ?_ ?_
 .intro h1;cases h1
 .intro h1;refine qG 4 ?_;refine A9 qf U ((by rw[Ai hb];rfl)) ?_;refine qGp 5 ?_ ?_
  .intro h2;omega
  .intro h2;refine A1<|Av<|Aa<|CG (fun x=>x=_) AW U<|BE U<|Bc U<|Aq qf U<|BD qf U (by rintro _ rfl;exact((by rw[Ai hbd];rfl)))<|Br Rd' qf qf U U (by omega)<|Aq qf U<|BD qf U (by rintro _ rfl;exact((Rd'.fld (i:=0) rfl rfl (j:=0) rfl)))<|BE U<|Bc U<|Aq qf U<|BD qf U (by rintro _ rfl;exact((by rw[Ai hbd];rfl)))<|Br Rd' qf qf U U (by omega)<|Aq qf U<|BD qf U (by rintro _ rfl;exact((Rd'.fld (i:=0) rfl rfl (j:=1) rfl))) ?_;refine qG 4 ?_;rintro _ rfl;replace H:=H.drew;refine qG 2 ?_;exact⟨rfl,H.ext⟩
theorem UM{L:List (Int × Nat)}(H0:Ctx w ((HB bh a n c full).map (·.1)) w<|HB bh a n c full)(O:OS a n c 2 full (L.flatMap E6))(hH:HeapL L)(key:Int)(item:Nat)(hn:n<=100000000:=by omega):
  Ret prog 275 #[ptr bh,.int .i64 key,.int .i64 (item:Int)] w fun v w'=>v=.int .i64 0/\∃(a':Option Addr) (c':Nat) (full':List Value) (L':List<|Int × Nat),L'.Perm ((key,item)::L)/\HeapL L'/\OS a' (n+1) c' 2 full' (L'.flatMap E6)/\Ctx w ((HB bh a n c full).map (·.1)) w' (HB bh a' (n+1) c' full'):=by
 obtain⟨w0,rfl⟩:=qD w;have H:=H0;refine iG func275 U ?_;refine qGc 10 ?_ ?_
 .intro h1;cases h1
 .intro h1;refine qG 10 ?_;refine Bd (E6 (key,item)) qf qf<|C5 (E6 (key,item)) (.agg _) qf qf qf U U U U H ?_;rintro b17 w - H;refine BL (L:=[(bh,_)]) qf qf qf qf qf U U U H O U (HU _) ?_;rintro a18 c18 f18 w H O18;have O8:OS a18 (n+1) c18 2 f18 ((L++[(key,item)]).flatMap E6):=by rw[qbn];simpa using O18
  refine qG 3 ?_;rintro w H;refine qG 10 ?_;rw[show(((n+1:Nat):Int) - 1)=(n:Int)by omega];obtain⟨q,rfl⟩:=O8.form (by omega);refine Aj qB (up_ok (Ctx.lend (L2:=[]) H.app_nil) O8 n (by omega) (by omega) (by have hnum:n=L.length:=O.numN (fun _ _=>rfl) (by decide);rw[hnum];exact hH.snoc _)) U ?_;rintro v w ⟨rfl,L',f',hp,hH',O',H'⟩;replace H:=(Ctx.back (L2:=[]) H.app_nil H').nil_app;refine qG 8 ?_;exact⟨rfl,some ⟨q,0,none⟩,c18,f',L',hp.trans<|qes _ _,hH',O',H⟩
theorem OS.short{s:Nat}{enc:α->List Value}(O:OS a n c s full<|L.flatMap enc)(hs:∀x,(enc x).length=s)(hm:m<=n):OS a m c s full<|(L.take m).flatMap enc:=by
 refine⟨O.zero,O.none',O.len,qa3 hm O.le,?_⟩;have h1:=O.pre;have h2:full.take (m*s)=(full.take<|n*s).take (m*s):=by rw[List.take_take,qch<|qcs _ hm]
 have hl:=O.llen;rw[E5 fun z _=>hs z]at hl;rw[h2,h1]
 conv=>lhs;rw[<-qbp m L,qbn]
 by_cases h0:s=0
 .subst h0;have hz:∀M:List α,M.flatMap enc=[]:=fun M=>qck (by rw[E5 fun z _=>hs z];rfl);rw[hz,hz];simp
 .have hL:n=L.length:=Nat.eq_of_mul_eq_mul_right (by omega) hl.symm;exact qc1<|by rw[E5 fun z _=>hs z,qa8,qch<|by omega]
theorem YC{x z:α}(hz:(x::L)[L.length]?=some z):(((x::L).set 0 z).take L.length).Perm L:=by
 rcases List.eq_nil_or_concat L with rfl|⟨M,y,rfl⟩
 .simp
 .have:z=y:=by
   rw[List.concat_eq_append,qat,qb6,List.getElem?_cons_succ,qcp<|qaq _,Nat.sub_self]at hz
   simpa using hz.symm
  subst this;rw[List.concat_eq_append,List.set_cons_zero,qat,qb6,List.take_succ_cons,qc1 rfl];exact(qes _ _).symm
theorem Aix{x:Int × Nat}{L:List (Int × Nat)}(H0:Ctx w [bh,q] w<|HB bh (some ⟨q,0,none⟩) n c full)(O:OS (some ⟨q,0,none⟩) n c 2 full ((x::L).flatMap E6))(hH:HeapL (x::L))(hn:n<=100000000:=by omega):
  Ret prog 261 #[ptr bh] w fun v w'=>v=.tuple #[.int .i64 x.1,.int .i64 (x.2:Int),.int .i64 0]/\∃(full':List Value) (L':List<|Int × Nat),L'.Perm L/\HeapL L'/\OS (some ⟨q,0,none⟩) L.length c 2 full' (L'.flatMap E6)/\Ctx w [bh,q] w' (HB bh (some ⟨q,0,none⟩) L.length c full'):=by
 obtain⟨w0,rfl⟩:=qD w;have H:=H0;have hnum:n=L.length+1:=O.numN (fun _ _=>rfl) (by decide);subst hnum;have hol:=O.len;have hole:=O.le;refine iG func261 U ?_;refine qG 8 ?_;refine Aj qB (Acw (H.get at0) (O.rd (t:=337) (fun y hy=>H.blk y<|qae _ hy) (fun _ _=>rfl)<|by decide) U) U ?_;rintro v w ⟨rfl,hx8⟩;replace H:=H.call hx8;refine qGp 15 ?_ ?_
 .intro h1;obtain⟨z,hz⟩:=Au (l:=x::L) (i:=L.length) (h:=by simp);refine qG 7 ?_;rw[show(((L.length+1:Nat):Int) - 1)=(L.length:Int)by omega];refine qG 3 ?_;obtain⟨w7,rfl⟩:=qD w;have R7:=O.rd (w:=w7.drew) (t:=337) (fun y hy=>H.drew.blk y<|qae _ hy) (fun _ _=>rfl) (by decide);have O9:=OS.short (OS.over O (fun _=>rfl) (i:=0) (x:=x) rfl z) (fun _=>rfl) (m:=L.length) (by omega);refine BG [([0,1,2,3,4,5,6,7,8,9,10,11],12)] (fun z=>z=World.drew w7) [12] AW (rfl)<|A0 U U ?_;refine Bm U<|A7 U<|Ah qf U<|JD qf U (by rintro _ rfl;exact H.drew) at0 U ?_;refine Bm U<|A7 U<|Ah qf U<|JD qf U (by rintro _ rfl;exact H.drew) at0 U ?_;refine AG U<|B4 R7 qf qf U U (by rfl) ?_;refine EZ _ qf qf U U (fun _ hx=>(by subst hx;exact R7.row hz rfl)) ?_
  refine B4 R7 qf qf U U (by rfl)<|A6 ?_;replace H:=H.drew;refine FU (vs:=E6 z) U qf U U U (HU z) H at1 (by show 0+(0:Int).toNat*2+2<=_;rw[hol];omega) ?_;rintro w H;rw[adr0,show(0:Nat)+(0:Int).toNat*2=0*2 from rfl]at H;refine Ab<|Bw U<|Bu<|Af<|AV U<|AV U<|AR U<|Ae qf U<|Bh qf U H at0 U<|Ad U<|IY U qf qf U U ?_;refine AR U<|Ae qf U<|Ch (.slice _ _ _) qf U U U H at0 (by(simp;done)) ?_;rintro w H;refine qG 4 ?_;refine Aj qB (Acs (Ctx.lend (L2:=[]) H.app_nil) O9 hH.cut) U ?_;rintro v w ⟨rfl,L',f',hp,hH',O',H'⟩;replace H:=(Ctx.back (L2:=[]) H.app_nil H').nil_app;refine qG 13 ?_;exact⟨rfl,f',L',hp.trans<|YC hz,hH',O',H⟩
 .intro h1;exact absurd U h1
theorem QW{e:Env}{a:Tmp}{p:Addr}(hr:fn.results=#[.cell a t])(ha:e.g a=.pointer (some p))(h:Marks e.ds w fun w'=>∃v,(loadVar t p).run P w'=.ok v w'/\R v w'):QK P fn R .ret e w :=
 Marks.mono (fun w ⟨v,hv,h⟩ tmps ht=>by
  have h1:=(ht a).trans ha;rw[qbm]at h1
  exact⟨v,by simp[results,hr,h1,asAddr,hv],h⟩) h
def Ge(g:Gr)(p:Nat->Int)(k:Nat):List Value:=[.int .i64 (k:Int),.int .i64 (g.u k:Int),.int .i64 (g.v k:Int),.int .i64 (g.len p k)]
theorem Nc(g:Gr)(p:Nat->Int)(k:Nat):∀v∈Ge g p k,AF v=true:=fun v hv=>by
 simp only[Ge,qaf,qan,or_false]at hv
 rcases hv with rfl|rfl|rfl|rfl <;> rfl
def Ej(cap x:Nat->Int)(k:Nat):List Nat:=(List.range (2*k)).filter fun a=>decide (0<C3 cap x a)
def JI(g:Gr)(p:Nat->Int)(l:List Nat):List (List Value):=l.map fun a=>[.agg (Ge g p a).toArray]
theorem Ow(cap x:Nat->Int)(k:Nat):Ej cap x (k+1)=Ej cap x k++((if 0<C3 cap x (2*k)then[2*k]else[])++if 0<C3 cap x (2*k+1)then[2*k+1]else[]):=by
 unfold Ej;rw[show 2*(k+1)=2*k+1+1 by omega,qd3,qd3,qaz,qcj]
 congr 1
 rw[qcj]
 congr 1
 .by_cases h:0<C3 cap x (2*k)
  .rw[if_pos h,qbo,qam h];rfl
  .rw[if_neg h,qbo,qa1 h];rfl
 .by_cases h:0<C3 cap x (2*k+1)
  .rw[if_pos h,qbo,qam h];rfl
  .rw[if_neg h,qbo,qa1 h];rfl
theorem Rj(cap x:Nat->Int):∀{m k:Nat},k<=m->∃r,Ej cap x m=Ej cap x k++r
 |0,k,h=>⟨[],by rw[show k=0 by omega,qar]⟩
 |m+1,k,h=>by
  rcases qao k (m+1)with h1|h1
  .obtain⟨r,hr⟩:=Rj (m:=m) (k:=k) cap x (by omega);exact⟨_,by rw[Ow,hr,qaz]⟩
  .exact⟨[],by rw[show k=m+1 by omega,qar]⟩
theorem UN{p:Nat->Int}{r:List Nat}{a:Nat}(h:Ej cap x (k+1)=l++a::r)(hk:k<m:=by omega):(JI g p<|Ej cap x m)[l.length]?=some [.agg (Ge g p a).toArray]:=by
 obtain⟨s,hs⟩:=Rj cap x (m:=m) (k:=k+1) (by omega);unfold JI;rw[hs,h,qa9,qaz,qcp<|qaq _,Nat.sub_self];rfl
def E7(pot:List Int)(i:Nat):Int:=pot.getD i 0
structure EAt(N:Int)(es:List Ed)(fl pot:List Int)(i:Nat)(e:Ed)(xx pu pv:Int)(un vn:Nat):Prop where
 he:es[i]?=some e
 hx:fl[i]?=some xx
 hpu:pot[un]?=some pu
 hpv:pot[vn]?=some pv
 f:e.f=(un:Int)
 t:e.t=(vn:Int)
 un':un<N.toNat
 vn':vn<N.toNat
 gf:(grE N es).f i=un
 gt:(grE N es).t i=vn
 co:(grE N es).co i=e.cost
 cap:Ck es i=e.cap
 fx:flE fl i=xx
 xb:0<=xx/\xx<=e.cap/\e.cap<=4503599627370496
 cb : -1000<=e.cost/\e.cost<=1000
 ub : -1099511627776<=pu/\pu<=1099511627776
 vb : -1099511627776<=pv/\pv<=1099511627776
 pu':E7 pot un=pu
 pv':E7 pot vn=pv
theorem eat(hw:BO N es fl=true)(hp:EN N pot=true)(hi:i<es.length:=by omega):∃e xx pu pv un vn,EAt N es fl pot i e xx pu pv un vn:=by
 obtain⟨hl,hr,hin⟩:=Cj hw;obtain⟨hpl,hpb⟩:=Je hp;obtain⟨e,he⟩:=Au (l:=es) (i:=i) (h:=hi);obtain⟨xx,hx⟩:=Au (l:=fl) (i:=i);have hco:=Dw<|(Cr hr).2.2.2.1 e<|qad he;have hxx:=hin i e xx he hx;obtain⟨un,hun⟩:∃un:Nat,e.f=un:=⟨e.f.toNat,by omega⟩;obtain⟨vn,hvn⟩:∃vn:Nat,e.t=vn:=⟨e.t.toNat,by omega⟩;obtain⟨pu,hpu⟩:=Au (l:=pot) (i:=un);obtain⟨pv,hpv⟩:=Au (l:=pot) (i:=vn);refine⟨e,xx,pu,pv,un,vn,he,hx,hpu,hpv,hun,hvn,by omega,by omega,?_,?_,?_,?_,Bp hx,by omega,by omega,hpb _ _ hpu,hpb _ _ hpv,Bp hpu,Bp hpv⟩
 .show(es.getD i e0).f.toNat=un;rw[Bp he,hun];rfl
 .show(es.getD i e0).t.toNat=vn;rw[Bp he,hvn];rfl
 .show(es.getD i e0).cost=e.cost;rw[Bp he]
 .show(es.getD i e0).cap=e.cap;rw[Bp he]
theorem Rd.rowE{enc:α->List Value}{s:Nat}(R:Rd w a s enc xs){x:α}(hx:xs[i]?=some x){l:List Value}(he:enc x=l)(hs:l.length=s):∀j v,l[j]?=some v->w.cell? ⟨(adr a).block,(adr a).off+i*s+j,none⟩=some v:=by
 subst he;exact R.row hx hs
section
variable {N:Int}{es:List Ed}{fl pot:List Int}{i:Nat}{e:Ed}{xx pu pv:Int}{un vn:Nat}
theorem EAt.enc(h:EAt N es fl pot i e xx pu pv un vn):Co e=[.int .i64 (un:Int),.int .i64 (vn:Int),.int .i64 e.cap,.int .i64 e.cost]:=by
 unfold Co;rw[h.f,h.t]
theorem EAt.fwd(h:EAt N es fl pot i e xx pu pv un vn):Ge (grE N es) (E7 pot) (2*i)=[.int .i64 ((2*i:Nat):Int),.int .i64 (un:Int),.int .i64 (vn:Int),.int .i64<|e.cost+pu - pv]:=by
 unfold Ge Gr.len Gr.u Gr.v Gr.c;rw[show 2*i % 2=0 by omega,show 2*i / 2=i by omega];simp only[if_true];rw[h.gf,h.gt,h.co,h.pu',h.pv']
theorem EAt.bwd(h:EAt N es fl pot i e xx pu pv un vn):Ge (grE N es) (E7 pot) (2*i+1)=[.int .i64 ((2*i+1:Nat):Int),.int .i64 (vn:Int),.int .i64 (un:Int),.int .i64 (-(e.cost+pu - pv))]:=by
 unfold Ge Gr.len Gr.u Gr.v Gr.c;rw[show(2*i+1) % 2=1 by omega,show(2*i+1) / 2=i by omega];simp only[if_false,Nat.one_ne_zero];rw[h.gf,h.gt,h.co,h.pu',h.pv',show -e.cost+pv - pu = -(e.cost+pu - pv)by omega]
theorem EAt.room0(h:EAt N es fl pot i e xx pu pv un vn):C3 (Ck es) (flE fl) (2*i)=e.cap - xx:=by
 unfold C3;rw[show 2*i % 2=0 by omega,show 2*i / 2=i by omega,if_pos rfl,h.cap,h.fx]
theorem EAt.room1(h:EAt N es fl pot i e xx pu pv un vn):C3 (Ck es) (flE fl) (2*i+1)=xx:=by
 unfold C3;rw[show(2*i+1) % 2=1 by omega,show(2*i+1) / 2=i by omega,if_neg<|by omega,h.fx]
end
theorem UO(N:Int)(a b p:Option Addr)(n c m d q r:Nat)(w:World):Ret prog 257 #[CM N a n c,.slice b m d,.slice p q r] w fun v w'=>∃b1 b2 b3,v=.func (.func 274) #[] #[ptr b1,ptr b2,ptr b3]/\w'.heap[b1]?=some (Bl 53 [.int .i64 N,.slice a n c])/\w'.heap[b2]?=some (Bl 41 [.slice p q r])/\w'.heap[b3]?=some (Bl 41 [.slice b m d])/\w.heap.size<=b1/\w.heap.size<=b2/\w.heap.size<=b3/\Ext [] w w':=by
 obtain⟨w0,rfl,H⟩:=qE w;refine iG func257 U<|Af<|Be [.int .i64 N,.slice a n c] (.agg _) U U H ?_;rintro b3 w - H;refine qG 1 ?_;rintro b4 w - H;refine qG 1 ?_;rintro b5 w - H;refine Dr U .nilFunc U<|qA<|Af<|Ci [.pointer _,.pointer _,.pointer _] U ?_;refine qG 5 ?_;have ho:∀x∈[(b5,Bl 41 [.slice p q r]),(b4,Bl 41 [.slice b m d]),(b3,Bl 53 [.int .i64 N,.slice a n c])],w0.heap.size<=x.1:=fun x hx=>(H.own x hx).elim (fun h=>by cases h) id;exact⟨b3,b5,b4,rfl,H.get at2,H.get at0,H.get at1,ho (b3,_)<|qad (i:=2) U,ho (b5,_)<|qad (i:=0) U,ho (b4,_)<|qad (i:=1) U,H.ext⟩
structure ArcK(b1 b2 b3:Nat)(N:Int)(a b p:Option Addr)(c d r:Nat)(es:List Ed)(fl pot:List Int)(M:Mt)(w:World):Prop where
 h1:w.heap[b1]?=some (Bl 53 [.int .i64 N,.slice a es.length c])
 h2:w.heap[b2]?=some (Bl 41 [.slice p pot.length r])
 h3:w.heap[b3]?=some (Bl 41 [.slice b fl.length d])
 R:Rd w a 4 Co es
 Rf:Rd w b 1 I1 fl
 Rp:Rd w p 1 I1 pot
theorem Rn{b p:Option Addr}{r:Nat}(hw:BO N es fl=true)(hp:EN N pot=true) :
  P8 prog 274 #[ptr b1,ptr b2,ptr b3] [] (ArcK b1 b2 b3 N a b p c d r es fl pot) (JI (grE N es) (E7 pot)<|Ej (Ck es) (flE fl) es.length):=by
 intro l w J E hJ0 hJs hEs hK hY;obtain⟨M0,hJ0⟩:=hJ0;obtain⟨hl,hri,-⟩:=Cj hw;obtain⟨hN1,hN40,hn200,-⟩:=Cr hri;obtain⟨hpl,-⟩:=Je hp;obtain⟨w0,rfl⟩:=qD w;refine iG func274 U ?_;have K0:=(hK _ _ _ hJ0).2;refine Af<|Ae qf U<|A9 qf U ((by rw[Ai K0.h1];rfl)) ?_;refine qG 5 ?_;refine AY 2361183241434822605024 (α:=Nat) (fun i=>[(11,.int .i64 (i:Int))]) (fun i w'=>i<=es.length/\∃M,J (Ej (Ck es) (flE fl) i).length M w') (fun i=>es.length - i) 0 U ?_ ?_ ?_
 .exact⟨rfl,trivial⟩
 .exact⟨qai _,M0,hJ0⟩
 .rintro i j w ⟨hi,M,hJ⟩;refine qGp 5 ?_ ?_
  .intro h1;obtain⟨e,xx,pu,pv,un,vn,A⟩:=eat (i:=i) hw hp;obtain⟨he,hfx,hpu,hpv,hf,ht,hun,hvn,-,-,-,-,-,hxb,hcb,hub,hvb,-,-⟩:=id A;have hrs:=Ow (Ck es) (flE fl) i;rw[A.room0,A.room1]at hrs;obtain⟨w1,rfl⟩:=qD w;have KR:∀{z},Ext [] w1 z->ArcK b1 b2 b3 N a b p c d r es fl pot M z:=fun hz=>(hK _ _ _<|hJs _ _ _ _ hJ hz).2;have R:=(KR<|.refl _ _).R;have Rf:=(KR<|.refl _ _).Rf;have Rp:=(KR<|.refl _ _).Rp;have H:=Ctx.start w1 [];refine qG 6 ?_;refine A2 R qf qf U U (by rfl)<|BC _ qf qf U U (Rd.rowE (KR H.ext).R he A.enc U)<|AN qf H ?_;rintro b6 w - H;refine qG 2 ?_;rintro w H
   refine qA<|CG (fun x=>x=_) AW U<|Aq qf U<|B7 qf U (by rintro _ rfl;exact H.drew) at0 U<|BD qf U (by rintro _ rfl;exact((by rw[Ai (KR H.drew.ext).h2];rfl)))<|Aq qf U<|B7 qf U (by rintro _ rfl;exact H.drew) at0 U<|Br Rp qf qf U U (by rfl)<|BD qf U (by rintro _ rfl;exact(((KR H.drew.ext).Rp.fld hpu rfl (j:=0) rfl)))<|Fw U U<|BD qf U (by rintro _ rfl;exact((by rw[Ai (KR H.drew.ext).h2];rfl)))<|Aq qf U<|B7 qf U (by rintro _ rfl;exact H.drew) at0 U<|Br Rp qf qf U U (by rfl)<|BD qf U (by rintro _ rfl;exact(((KR H.drew.ext).Rp.fld hpv rfl (j:=0) rfl))) ?_;refine qG 3 ?_;rintro _ rfl;replace H:=H.drew;refine AB ?_;obtain⟨len,hlen⟩:=qD<|e.cost+pu - pv;rw[<-hlen];have hf7:=A.fwd;have hb7:=A.bwd;rw[<-hlen]at hf7 hb7
   have hb6:=(H.own _<|qah ..).elim (fun h=>by cases h) id;have hM:=(hK _ _ _ hJ).1;have hn6:¬M b6:=fun h=>by have:=hM _ h;omega
   have hk6:=H.drew.get at0;have hJ6:=hJs _ _ _ _ hJ H.drew.ext;refine Dk 1125898833100800 (α:=Bool) (fun z=>[(49,.bool z)]) (fun z w'=>(z=true->E w')/\(z=false->w'.heap[b6]?=some (Bl 195 [.int .i64 (un:Int),.int .i64 (vn:Int),.int .i64 e.cap,.int .i64 e.cost])/\∃M',¬M' b6/\J (Ej (Ck es) (flE fl) i++(if 0<e.cap - xx then[2*i]else[])).length M' w')) U ?_ ?_
   .skip
    refine DL 17 AW U U ?_;refine BD qf U (by rintro _ rfl;exact((by rw[Ai (KR H.drew.ext).h3];rfl))) ?_;refine AS U<|Br Rf qf qf U U (by rfl) ?_;refine BD qf U (by rintro _ rfl;exact(((KR H.drew.ext).Rf.fld hfx rfl (j:=0) rfl))) ?_;refine Aq qf U<|B7 qf U (by rintro _ rfl;exact H.drew) at0 U ?_;refine JC U U<|EU U<|iD 37 U ?_ ?_
    .intro h2;refine Lh U (.func _ _ _) U<|AS U<|NW U U U ?_;refine Aq qf U<|B7 qf U (by rintro _ rfl;exact H.drew) at0 U ?_;refine Aq qf U<|B7 qf U (by rintro _ rfl;exact H.drew) at0 U ?_;refine AS U<|XD (Ge (grE N es) (E7 pot)<|2*i) U qf qf (by rw[hf7];kernel_rfl) ?_;refine Cc ?_;replace H:=H.drew;refine Gb (vs:=[.agg (Ge (grE N es) (E7 pot)<|2*i).toArray]) U (hY _ _ M _ (UN (l:=Ej (Ck es) (flE fl) i) (k:=i) (by rw[hrs,if_pos<|by omega];rfl)) hJ6) U ?_;rintro u w hu
     obtain⟨bb,rfl,hu1,hu0⟩:∃bb,u=.bool bb/\(bb=true->w.heap[b6]?=some (Bl 195 [.int .i64 (un:Int),.int .i64 (vn:Int),.int .i64 e.cap,.int .i64 e.cost])/\∃M',¬M' b6/\J ((Ej (Ck es) (flE fl) i).length+1) M' w)/\(bb=false->E w):=hu.elim (fun h=>⟨true,h.1,fun _=>let ⟨M',h1,g⟩:=h.2;⟨g.to hk6 hn6,M',g.not (AX hk6) hn6,h1⟩,fun h=>by cases h⟩) fun h=>⟨false,h.1,(fun h=>by cases h),fun _=>h.2⟩;refine qG 4 ?_;exact⟨!bb,rfl,⟨rfl,trivial⟩,fun h=>hu0<|by simpa using h,fun h=>by rw[if_pos<|by omega,qat];exact hu1<|by simpa using h⟩
    .intro h2;refine qG 10 ?_;replace H:=H.drew;refine qG 5 ?_;exact⟨false,rfl,⟨rfl,trivial⟩,(fun h=>by cases h),fun _=>⟨hk6,M,hn6,by rw[if_neg<|by omega,qar];exact hJ6⟩⟩
   .rintro z j2 w ⟨hz1,hz0⟩;refine A3 _ U ?_ ?_
    .intro h2;refine qG 7 ?_;exact .inr<|hz1 h2
    .intro h2;obtain⟨hk7,M7,hn7,hJ7⟩:=hz0 h2;obtain⟨w7,rfl⟩:=qD w;have K7:=(hK _ _ _ hJ7).2;have H:=Ctx.start w7 [];refine A1<|Aa<|Af<|A9 qf U ((by rw[Ai K7.h3];rfl)) ?_;refine Ad U<|A2 Rf qf qf U U (by rfl) ?_;refine A9 qf U ((K7.Rf.fld hfx U (j:=0) U)) ?_;refine Es U U<|Bj U<|iC 55 U ?_ ?_
     .intro h3;have hat:=UN (g:=grE N es) (p:=E7 pot) (cap:=Ck es) (x:=flE fl) (m:=es.length) (l:=Ej (Ck es) (flE fl) i++(if 0<e.cap - xx then[2*i]else[])) (k:=i) (a:=2*i+1) (r:=[]) (by rw[hrs,if_pos h3,qaz]);refine qG 5 ?_;refine A9 qf U ((by rw[Ai hk7];rfl))<|Ae qf U<|A9 qf U ((by rw[Ai hk7];rfl))<|Ad U<|JP U U<|Bd (Ge (grE N es) (E7 pot)<|2*i+1) qf qf (hl:=by rw[hb7];kernel_rfl)<|Gb (vs:=[.agg (Ge (grE N es) (E7 pot)<|2*i+1).toArray]) U (hY _ _ M7 _ hat hJ7) U ?_;rintro u w hu;obtain⟨bb,rfl,hu1,hu0⟩:∃bb,u=.bool bb/\(bb=true->∃M',J ((Ej (Ck es) (flE fl) i++(if 0<e.cap - xx then[2*i]else[])).length+1) M' w)/\(bb=false->E w):=hu.elim (fun h=>⟨true,h.1,fun _=>let ⟨M',h1,_⟩:=h.2;⟨M',h1⟩,fun h=>by cases h⟩) fun h=>⟨false,h.1,(fun h=>by cases h),fun _=>h.2⟩;refine qGp 4 ?_ ?_
      .intro h4;refine qG 6 ?_;exact .inr<|hu0<|by simpa using h4
      .intro h4;refine A1<|Av<|Aa<|Aw<|Ap U U ?_;refine Ad U<|qA ?_;refine⟨i+1,rfl,⟨rfl,trivial⟩,⟨by omega,?_⟩,by omega⟩;rw[hrs,if_pos h3,<-qaz,qat];exact hu1<|by simpa using h4
     .intro h3;refine Al U<|Al U<|Al U<|Al U<|Al U<|Al U<|Al U<|Al U<|Al U<|Al U ?_;refine Al U<|Al U<|Al U<|B9 U (.bool _) U<|qA<|FT U<|A1<|Av<|Aa<|Aw<|Ap U U ?_;refine Ad U<|qA ?_;refine⟨i+1,rfl,⟨rfl,trivial⟩,⟨by omega,M7,?_⟩,by omega⟩;rw[hrs,if_neg h3,qar];exact hJ7
  .intro h1;refine qG 5 ?_;obtain rfl:i=es.length:=by omega
   exact .inl ⟨M,by unfold JI;rw[qaj];exact hJ⟩
def arcB(g:Gr)(p:Nat->Int)(a:Nat):Bool:=decide (0<=g.len p a)
def Hg(N:Int)(es:List Ed)(fl pot:List Int):Bool:=BO N es fl && (EN N pot && (Ej (Ck es) (flE fl) es.length).all (arcB (grE N es) (E7 pot)))
theorem Acx(N:Int)(a b p:Option Addr)(n c m d q r:Nat)(es:List Ed)(fl pot:List Int)(w:World)(R:Rd w a 4 Co es)(hn:es.length=n)(hN:I64 N)(Rf:Rd w b 1 I1 fl)(hm:fl.length=m)(hm2:m<=9223372036854775000)(Rp:Rd w p 1 I1 pot)(hq:pot.length=q)(hq2:q<=9223372036854775000) :
  Ret prog 256 #[CM N a n c,.slice b m d,.slice p q r] w fun v w'=>v=.bool (Hg N es fl pot)/\Ext [] w w':=by
 subst hn hm hq;obtain⟨w0,rfl,H⟩:=qE w;refine Gx (fn:=f256) func256 U [CM N a es.length c,.slice b fl.length d,.slice p pot.length r] U<|Af<|Be [.int .i64 N,.slice a es.length c] (.agg _) U U H ?_;rintro b3 w - H;refine AN qf H ?_;rintro b6 w - H;refine qG 6 ?_;refine Aj qB (Jy N a b es.length c fl.length d es fl _ (R.ext0 H.ext) U hN (Rf.ext0 H.ext) U hm2) U ?_;rintro v w ⟨rfl,hx12⟩;replace H:=H.call hx12;refine qG 2 ?_;refine iC 14 U ?_ ?_
 .intro h1;refine qG 11 ?_;rintro w H;refine qG 5 ?_;have h1':BO N es fl=false:=by simpa using h1
  exact⟨_,Fu qf (by rw[Ai<|H.get at0];rfl),qaa Value.bool (by unfold Hg;rw[h1'];rfl),H.ext⟩
 .intro h1;have h1':BO N es fl=true:=by simpa using h1
  refine qGp 8 ?_ ?_
  .intro h2;refine qG 2 ?_;rintro w H;refine qG 5 ?_;have h2':EN N pot=false:=by unfold EN;rw[qa1 h2,qcv]
   exact⟨_,Fu qf (by rw[Ai<|H.get at0];rfl),qaa Value.bool (by unfold Hg;rw[h2',qd2,qcv]),H.ext⟩
  .intro h2;have hpl:(pot.length:Int)=N:=by simpa using h2
   refine qG 10 ?_;refine AY 17171480832 (α:=Nat) (fun i=>[(23,.int .i64 (i:Int))]) (fun i w'=>i<=pot.length/\Ctx w0 [] w' [(b6,Bl 4 [.bool false]),(b3,Bl 53 [.int .i64 N,.slice a es.length c])]/\∀(k:Nat) (x:Int),k<i->pot[k]?=some x->J8 x=true) (fun i=>pot.length - i) 0 U ?_ ?_ ?_
   .exact⟨rfl,trivial⟩
   .exact⟨qai _,H,fun k x h=>absurd h<|qay _⟩
   .rintro i j w ⟨hi,H,hb⟩;refine qGp 5 ?_ ?_
    .intro h3;obtain⟨x,h7x⟩:=Au (l:=pot) (i:=i);refine qG 5 ?_;refine A2 Rp qf qf U U (by rfl)<|A9 qf U (((Rp.ext0 H.ext).fld h7x U (j:=0) U)) ?_;refine qG 4 ?_;refine Bo (α:=Unit) 8455716864 (fun _=>[(32,.bool<|!J8 x)]) (fun _ w'=>Ctx w0 [] w' [(b6,Bl 4 [.bool false]),(b3,Bl 53 [.int .i64 N,.slice a es.length c])]) U ?_ ?_
     .refine qG 3 ?_;refine iC 29 U ?_ ?_
      .intro h1;refine qG 4 ?_;exact⟨rfl,(),rfl,⟨qaa Value.bool (by unfold J8;rw[qac];simp_all;try omega),trivial⟩,H⟩
      .intro h2;refine qG 4 ?_;exact⟨rfl,(),rfl,⟨qaa Value.bool (by unfold J8;rw[qac];simp_all;try omega),trivial⟩,H⟩
     rintro - j32 w H;refine iB U ?_ ?_
     .intro h4;refine qG 2 ?_;rintro w H;refine qG 9 ?_;have h2':EN N pot=false:=by unfold EN;rw[C2 h7x<|by simpa using h4,qd2]
      exact⟨_,Fu qf (by rw[Ai<|H.get at0];rfl),qaa Value.bool (by unfold Hg;rw[h2',qd2,qcv]),H.ext⟩
     .intro h4;refine A1<|Av<|Aa<|Aw<|Ap U U ?_;refine Ad U<|qA ?_;refine⟨i+1,rfl,⟨rfl,trivial⟩,⟨by omega,H,fun k y hk hy=>?_⟩,by omega⟩
      rcases qao k i with h7|h7
      .exact hb k y h7 hy
      .obtain rfl:k=i:=by omega
       rw[h7x]at hy;cases hy
       simpa using h4
    .intro h3
     have hp:EN N pot=true:=by
      unfold EN;rw[CN fun k x hk hx=>hb k x (by omega) hx,qam hpl];rfl
     obtain⟨hl,hri,-⟩:=Cj h1';obtain⟨hN1,hN40,hn200,-⟩:=Cr hri;have hfN:Hg N es fl pot=(Ej (Ck es) (flE fl) es.length).all (arcB (grE N es)<|E7 pot):=by unfold Hg;rw[h1',hp];rfl
     refine Bi<|Am<|Am<|A8<|Aa<|AB<|Af<|Dh qf qf U H at1 U<|AH U<|AH U ?_;have hlt:=H.lt (k:=0) rfl;have hlt1:=H.lt (k:=1) rfl;refine Aj qB (UO N a b p es.length c fl.length d pot.length r _) U ?_;rintro v w ⟨x1,x2,x3,rfl,hb1,hb2,hb3,hs1,hs2,hs3,hx37⟩;have hbb:=(H.call hx37);have hx7:=H.ext.trans hx37;have hs07:=H.size;refine qA<|AK ?_;obtain⟨ws,rfl⟩:=qD w;have hk6:=hbb.lt (k:=0) rfl;have hk1:=AX hb1;have hk2:=AX hb2;have hk3:=AX hb3;have hk66:=hbb.get at0;have hs0:=hbb.size;have h60:w0.heap.size<=b6:=(hbb.own _<|qah ..).elim (fun h=>by cases h) id
     refine Mk (gf:=274) U qB (Rn (b1:=x1) (b2:=x2) (b3:=x3) (a:=a) (b:=b) (p:=p) (c:=c) (d:=d) (r:=r) h1' hp) (by kernel_rfl) (by kernel_rfl) (fun v hv=>by obtain⟨p,-,rfl⟩:=qak.1 hv;rfl)
      (fun i M w'=>(M=fun _=>False)/\Ext [] w0 w'/\w'.heap[b6]?=some (Bl 4 [.bool false])/\w'.heap[x1]?=some (Bl 53 [.int .i64 N,.slice a es.length c])/\w'.heap[x2]?=some (Bl 41 [.slice p pot.length r])/\w'.heap[x3]?=some (Bl 41 [.slice b fl.length d])/\∀(k:Nat) (y:Nat),k<i->(Ej (Ck es) (flE fl) es.length)[k]?=some y->arcB (grE N es) (E7 pot) y=true)
      (fun w'=>Ext [] w0 w'/\w'.heap[b6]?=some (Bl 4 [.bool false])/\(Ej (Ck es) (flE fl) es.length).all (arcB (grE N es)<|E7 pot)=false) (by simp)
      (fun w2 hx2 _=>⟨_,rfl,hx7.trans hx2,hx2.to hk66<|by simp,hx2.to hb1<|by simp,hx2.to hb2<|by simp,hx2.to hb3<|by simp,fun k y h=>absurd h<|qay _⟩)
      (fun i M w' w'' hJ hx=>⟨hJ.1,hJ.2.1.then hx fun z hz => .inr (by simp only[qaf,qan,or_false]at hz;omega),hx.to hJ.2.2.1 (by simp;omega),hx.to hJ.2.2.2.1 (by simp;omega),hx.to hJ.2.2.2.2.1 (by simp;omega),hx.to hJ.2.2.2.2.2.1 (by simp;omega),hJ.2.2.2.2.2.2⟩)
      (fun w' w'' hE hx=>⟨hE.1.then hx fun z hz => .inr (by simp only[qaf,qan,or_false]at hz;omega),hx.to hE.2.1 (by simp;omega),hE.2.2⟩)
      (fun i M w' hJ=>⟨fun y hy=>by rw[hJ.1]at hy;exact hy.elim,hJ.2.2.2.1,hJ.2.2.2.2.1,hJ.2.2.2.2.2.1,R.ext0 hJ.2.1,Rf.ext0 hJ.2.1,Rp.ext0 hJ.2.1⟩) ?_ ?_ ?_
     .rintro i v _ w hxv ⟨rfl,hx0,g6,g1,g2,g3,hall⟩ hsz;unfold JI at hxv;rw[qa9]at hxv;obtain⟨y,hy,rfl⟩:=qdc.1 hxv;obtain⟨w1,rfl,H⟩:=qE w;refine qG 2 ?_;rintro b9 w - H;refine AM qf U U U (by exact Nc _ _ _) H at0 U ?_;rintro w H;refine Ab ?_;refine⟨H.ext,fun wB hxB=>?_⟩;have hb9:=(H.own _<|qah ..).elim (fun h=>by cases h) id;have k9:=hxB.to (H.get at0) (by rw[qab];omega);have k6:=hxB.to (H.ext.to g6<|by simp) (by rw[qab];omega);have k1:=hxB.to (H.ext.to g1<|by simp) (by rw[qab];omega);have k2:=hxB.to (H.ext.to g2<|by simp) (by rw[qab];omega);have k3:=hxB.to (H.ext.to g3<|by simp) (by rw[qab];omega);have hx0B:=(hx0.trans H.ext).then hxB fun z hz => .inr (by rw[qab.1 hz];omega)
      obtain⟨w2,rfl⟩:=qD wB;replace H:=Ctx.start1 k6;have hn9:b9∉[b6]:=by rw[qab];omega
      refine AK<|Af<|Ae qf U<|A9 qf U ((H.old (Ai k9 _) hn9)) ?_;refine qGp 3 ?_ ?_
      .intro h5;refine qG 2 ?_;rintro w H;refine qG 4 ?_;exact⟨⟨hx0B.then H.ext fun z hz => .inr (by rw[qab.1 hz];exact h60),H.get at0,C2 hy<|qa1<|by omega⟩,_,H.ext,by rw[qab];omega,by rw[qab];omega⟩
      .intro h5;refine A1<|Av ?_;refine⟨_,⟨rfl,hx0B,k6,k1,k2,k3,fun k z hk hz=>?_⟩,fun _ h=>h.elim,[],.refl _ _,fun _ h=>by cases h⟩
       rcases qao k i with h7|h7
       .exact hall k z h7 hz
       .obtain rfl:k=i:=by omega
        rw[hy]at hz;cases hz;exact qam<|by omega
     .rintro M w ⟨-,hx0,g6,-,-,-,hall⟩ hD;have hlen:(JI (grE N es) (E7 pot)<|Ej (Ck es) (flE fl) es.length).length=(Ej (Ck es) (flE fl) es.length).length:=by unfold JI;rw[qaj]
      rw[hlen]at hall;replace H:=Ctx.start1 g6;refine Av<|Aa<|Af<|Ch (.bool _) qf U U U H at0 (by decide) ?_;rintro w H;refine qG 4 ?_;refine Gy (by rw[H.ext.block _ (AX hD) (by rw[qab];omega)];exact hD) U fun wF hxF=>?_;exact⟨_,Fu qf (by rw[Ai<|hxF.to (H.get at0) (by rw[qab];omega)];rfl),qaa Value.bool<|by rw[hfN,CN fun k x hk hx=>hall k x hk hx],(hx0.then H.ext fun z hz => .inr (by rw[qab.1 hz];exact h60)).then hxF fun z hz => .inr (by rw[qab.1 hz];omega)⟩
     .rintro w ⟨hx0,g6,hall⟩ hD;refine Bn<|AD<|QW U U<|Gy hD U fun wF hxF=>?_;exact⟨_,Fu qf (by rw[Ai<|hxF.to g6 (by rw[qab];omega)];rfl),qaa Value.bool<|by rw[hfN,hall],hx0.then hxF fun z hz => .inr (by rw[qab.1 hz];omega)⟩
def HV(A:List Ar)(v:Nat):Int:=((A.filter fun a=>decide (a.1=v)).length:Nat)
def gv(n:Nat)(D:Int)(s:Lb)(hp:List Tg)(v:Nat):Int:=if s.d v ≠ -1/\s.d v<=D then(hp.count (s.d v,v):Nat)+(s.h v:Nat)else(n:Nat)+1
def psi(n:Nat)(A:List Ar)(D:Int)(s:Lb)(hp:List Tg):Int:=(hp.length:Nat)+BU (fun v=>HV A v*gv n D s hp v) n
structure PI(n:Nat)(D:Int)(s:Lb)(hp:List Tg):Prop where
 keys:∀t∈hp,D<=t.1
 item:∀t∈hp,s.d t.2 ≠ -1/\s.d t.2<=t.1
 lab:∀v,s.d v ≠ -1->hp.count (s.d v,v)+s.h v<=n
theorem YD(A:List Ar)(v:Nat):0<=HV A v:=by unfold HV;omega
theorem Acy{hp hq:List Tg}(h:hp.Perm hq)(v:Nat):gv n D s hp v=gv n D s hq v:=by unfold gv;rw[h.count_eq]
theorem Nd{hp hq:List Tg}(h:hp.Perm hq):psi n A D s hp=psi n A D s hq:=by
 unfold psi;rw[h.length_eq,CT fun i _=>by rw[Acy h]]
theorem PI.perm{hp hq:List Tg}(P:PI n D s hp)(h:hp.Perm hq):PI n D s hq :=
 ⟨fun t ht=>P.keys t<|h.mem_iff.2 ht,fun t ht=>P.item t<|h.mem_iff.2 ht,fun v hv=>by rw[<-h.count_eq];exact P.lab v hv⟩
theorem gv0{hp:List Tg}(v:Nat):0<=gv n D s hp v:=by unfold gv;split <;> omega
theorem PW{hp:List Tg}:(hp.length:Int)<=psi n A D s hp:=by
 have:=GA (f:=fun v=>HV A v*gv n D s hp v) (k:=n) fun i _=>qda (YD A i)<|gv0 i;unfold psi;omega
theorem PI.pop{t:Tg}{hp:List Tg}(P:PI n D s (t::hp))(hmin:∀x∈hp,t.1<=x.1)(ht:t.2<n) :
  PI n t.1 s hp/\psi n A t.1 s hp+1<=psi n A D s (t::hp)/\(t.1=s.d t.2->psi n A t.1 s hp+1+HV A t.2<=psi n A D s (t::hp)):=by
 have hD:=P.keys t<|qah ..
 have hc:∀v,((t::hp).count (s.d v,v):Int)=(hp.count (s.d v,v):Int)+one (t=(s.d v,v)):=fun v=>by
  rw[qbz]
  by_cases e:t=(s.d v,v)
  .rw[if_pos (by rw[e];exact beq_self_eq_true _),one,if_pos e];omega
  .rw[if_neg<|by simpa using e,one,if_neg e];omega
 have hone:∀v,0<=one (t=(s.d v,v)):=fun v=>by unfold one;split <;> omega
 have hg:∀v,gv n t.1 s hp v<=gv n D s (t::hp) v/\(t=(s.d v,v)->gv n t.1 s hp v+1<=gv n D s (t::hp) v):=fun v=>by
  have h1:=hc v;have h2:=hone v;have h4:t=(s.d v,v)->one (t=(s.d v,v))=1:=fun e=>if_pos e
  have h5:t=(s.d v,v)->t.1=s.d v/\s.d v ≠ -1:=fun e=>⟨by rw[e],by
   have:=(P.item t<|qah ..).1;rw[show t.2=v by rw[e]]at this
   exact this⟩
  unfold gv
  by_cases a1:s.d v ≠ -1/\s.d v<=t.1
  .have h3:=P.lab v a1.1;rw[if_pos a1]
   by_cases a2:s.d v ≠ -1/\s.d v<=D
   .rw[if_pos a2];refine⟨by omega,fun e=>?_⟩;have:=h4 e;omega
   .rw[if_neg a2];refine⟨by omega,fun e=>?_⟩;have:=h4 e;omega
  .rw[if_neg a1,if_neg fun h=>a1 ⟨h.1,by omega⟩];refine⟨qa4 _,fun e=>?_⟩;have:=h5 e;exact absurd ⟨this.2,by omega⟩ a1
 refine⟨⟨hmin,fun x hx=>P.item x<|qae _ hx,fun v hv=>?_⟩,?_,fun e=>?_⟩
 .have h1:=hc v;have h2:=hone v;have h3:=P.lab v hv;omega
 .have h1:=Ja (f:=fun v=>HV A v*gv n t.1 s hp v) (g:=fun v=>HV A v*gv n D s (t::hp) v) (k:=n) fun i _=>qdp (hg i).1<|YD A i;unfold psi;rw[qbd];omega
 .have h1:=Ja (f:=fun v=>HV A v*gv n t.1 s hp v) (g:=fun v=>HV A v*gv n D s (t::hp) v - one (t.2=v)*HV A v) (k:=n) fun i _=>by
   by_cases e1:t.2=i
   .subst e1;have h2:=qdp ((hg t.2).2<|Prod.ext e rfl)<|YD A t.2;rw[Int.mul_add]at h2;rw[one,if_pos rfl];omega
   .have h2:=qdp (hg i).1<|YD A i;rw[one,if_neg e1];omega
  rw[Jw,Io (fun v=>HV A v) ht]at h1;unfold psi;rw[qbd];omega
theorem PI.relax{hp:List Tg}{a:Ar}(P:PI n D s hp)(hs:s.d a.1=D)(hD0:0<=D)(hl:0<=a.2.2)(hlow:∀v,s.d v = -1\/0<=s.d v)(hhop:(Gc s a).d a.2.1 ≠ -1->(Gc s a).h a.2.1+1<=n) :
  PI n D (Gc s a) (Hr s a hp)/\psi n A D (Gc s a) (Hr s a hp)<=psi n A D s hp+1:=by
 by_cases hb:DH s a.2.1 (s.d a.1+a.2.2)<|s.h a.1+1
 .have hS:Gc s a=GC s a.2.1 (s.d a.1+a.2.2) (s.h a.1+1):=by unfold Gc;rw[if_pos hb]
  have hH:Hr s a hp=(s.d a.1+a.2.2,a.2.1)::hp:=by unfold Hr;rw[if_pos hb]
  rw[hS]at hhop;rw[hS,hH];obtain⟨d',hd'⟩:∃d',d'=s.d a.1+a.2.2:=⟨_,rfl⟩;obtain⟨h',hh'⟩:∃h',h'=s.h a.1+1:=⟨_,rfl⟩;obtain⟨v,hv⟩:=qD a.2.1;rw[<-hd',<-hh',<-hv]at hb hhop |-;have hdD:D<=d':=by omega
  have p1:(GC s v d' h').d v=d':=if_pos rfl;have p2:(GC s v d' h').h v=h':=if_pos rfl;have p3:∀x,x≠v->(GC s v d' h').d x=s.d x:=fun x hx=>if_neg hx;have p4:∀x,x≠v->(GC s v d' h').h x=s.h x:=fun x hx=>if_neg hx;have hsD:=hlow a.1;unfold DH at hb
  have hc1:∀x,x≠v->((d',v)::hp).count (s.d x,x)=hp.count (s.d x,x):=fun x hx=>by
   rw[qbz,if_neg (by simp;intro _ h;exact hx h.symm)];rfl
  have hc2:((d',v)::hp).count (d',v)=hp.count (d',v)+1:=by rw[List.count_cons_self]
  have hc3:s.d v = -1\/d'<s.d v->hp.count (d',v)=0:=fun h=>List.count_eq_zero.2 fun hm=>by
   have:=P.item _ hm;dsimp only at this;omega
  have h0:d' ≠ -1:=by omega
  have hh1:=hhop (by rw[p1];exact h0);rw[p2]at hh1
  have hlabv:((d',v)::hp).count (d',v)+h'<=n:=by
   rw[hc2]
   rcases hb with h|h|⟨h,hlt⟩
   .rw[hc3<|.inl h];omega
   .rw[hc3<|.inr h];omega
   .have:=P.lab v (by rw[<-h];exact h0);rw[<-h]at this;omega
  have hgx:∀x,gv n D (GC s v d' h') ((d',v)::hp) x<=gv n D s hp x:=fun x=>by
   unfold gv
   by_cases e:x=v
   .subst e;rw[p1,p2]
    by_cases a1:d' ≠ -1/\d'<=D
    .rw[if_pos a1]
     by_cases a2:s.d x ≠ -1/\s.d x<=D
     .rw[if_pos a2];have e3:d'=s.d x/\h'<s.h x:=by omega
      rw[hc2,<-e3.1];omega
     .rw[if_neg a2];omega
    .rw[if_neg a1];rw[if_neg fun h=>a1 ⟨h0,by omega⟩];exact qa4 _
   .rw[p3 x e,p4 x e,hc1 x e];exact qa4 _
  refine⟨⟨fun t ht=>?_,fun t ht=>?_,fun x hx=>?_⟩,?_⟩
  .rcases qaf.1 ht with rfl|ht
   .exact hdD
   .exact P.keys t ht
  .rcases qaf.1 ht with rfl|ht
   .rw[p1];exact⟨h0,qa4 _⟩
   .obtain⟨i1,i2⟩:=P.item t ht
    by_cases e:t.2=v
    .rw[e,p1];rw[e]at i1 i2;exact⟨h0,by omega⟩
    .rw[p3 _ e];exact⟨i1,i2⟩
  .by_cases e:x=v
   .subst e;rw[p1,p2];exact hlabv
   .rw[p3 x e,p4 x e,hc1 x e];rw[p3 x e]at hx;exact P.lab x hx
  .have h1:=Ja (f:=fun x=>HV A x*gv n D (GC s v d' h') ((d',v)::hp) x) (g:=fun x=>HV A x*gv n D s hp x) (k:=n) fun i _=>qdp (hgx i)<|YD A i;unfold psi;rw[qbd];omega
 .have hS:Gc s a=s:=by unfold Gc;rw[if_neg hb]
  have hH:Hr s a hp=hp:=by unfold Hr;rw[if_neg hb]
  rw[hS,hH];exact⟨P,by omega⟩
abbrev FB(oo od oh ob n:Nat):List Value:=[.slice (some ⟨oo,0,none⟩) n n,.slice (some ⟨od,0,none⟩) n n,.slice (some ⟨oh,0,none⟩) n n,.slice (some ⟨ob,0,none⟩) n n]
def NJ(s:Lb)(v:Nat):Int:=(s.h v:Nat)
def Iq(g:Gr)(p:Nat->Int)(a:Nat):Ar:=(g.u a,g.v a,g.len p a)
theorem VV(hf:w.heap[bf]?=some (Bl 310 (FB oo od oh ob n)))(hd:w.heap[od]?=some (Bl 2 (BF s.d n)))(hh:w.heap[oh]?=some (Bl 3 (BF (NJ s) n)))(v:Nat)(hv:v<n)(_:n<=1000000)(d:Int)(h:Nat) :
  Ret prog 278 #[ptr bf,.int .i64 (v:Int),.int .i64 d,.int .i64 (h:Int)] w fun r w'=>r=.bool (decide (DH s v d h))/\w=w':=by
 obtain⟨w0,rfl⟩:=qD w;have Rdd:=Cv hd;have Rhh:=Cv hh;have hhv:NJ s v=(s.h v:Nat):=rfl;obtain⟨x,hx⟩:=qD<|s.d v;obtain⟨y,hy⟩:=qD<|s.h v;have hgd:(tab s.d n)[v]?=some x:=by rw[BP hv,hx]
 have hgh:(tab (NJ s) n)[v]?=some (y:Int):=by rw[BP hv,hhv,hy]
 have hiff:DH s v d h↔(x = -1\/d<x\/(d=x/\h<y)):=by rw[hx,hy];exact Iff.rfl
 rw[show decide (DH s v d h)=decide (x = -1\/d<x\/(d=x/\h<y))from decide_eq_decide.2 hiff];clear hiff;refine iG func278 U ?_;refine qG 8 ?_;refine A9 qf U ((by rw[Ai hf];rfl))<|Ad U<|BA qf qf U U<|A9 qf U ((Rdd.fld hgd U (j:=0) U))<|Ct U U<|Bj U<|iC 17 U ?_ ?_
 .intro h1;refine qG 37 ?_;exact⟨qaa Value.bool (by clear hgd hgh hx hy;rw[qac];simp_all;try omega),rfl⟩
 .intro h2;refine qG 4 ?_;refine A9 qf U ((by rw[Ai hf];rfl))<|Ad U<|BA qf qf U U<|A9 qf U ((Rdd.fld hgd U (j:=0) U)) ?_;refine qG 3 ?_;refine iC 28 U ?_ ?_
  .intro h3;refine qG 26 ?_;exact⟨qaa Value.bool (by clear hgd hgh hx hy;rw[qac];simp_all;try omega),rfl⟩
  .intro h4;refine qG 4 ?_;refine A9 qf U ((by rw[Ai hf];rfl))<|Ad U<|BA qf qf U U<|A9 qf U ((Rdd.fld hgd U (j:=0) U))<|Ct U U<|Bj U<|iC 38 U ?_ ?_
   .intro h5;refine qG 4 ?_;refine A9 qf U ((by rw[Ai hf];rfl))<|Ad U<|BA qf qf U U<|A9 qf U ((Rhh.fld hgh U (j:=0) U)) ?_;refine qG 8 ?_;exact⟨qaa Value.bool (by clear hgd hgh hx hy;rw[qac];simp_all;try omega),rfl⟩
   .intro h6;refine qG 16 ?_;exact⟨qaa Value.bool (by clear hgd hgh hx hy;rw[qac];simp_all;try omega),rfl⟩
def Ir(x:Lb × List Tg)(a:Ar):Lb × List Tg:=(Gc x.1 a,Hr x.1 a x.2)
def goP(g:Gr)(p:Nat->Int)(s:Lb)(hp:List Tg)(l:List Nat):Lb × List Tg:=(l.map (Iq g p)).foldl Ir (s,hp)
theorem YE(g:Gr)(p:Nat->Int)(s:Lb)(hp:List Tg){a:Nat}(h:l[i]?=some a):goP g p s hp (l.take<|i+1)=Ir (goP g p s hp<|l.take i) (Iq g p a):=by
 unfold goP;rw[EA h,qau,qdr];rfl
abbrev GB(od oh n:Nat)(s:Lb)(bh:Nat)(a:Option Addr)(hn c:Nat)(full:List Value):List (Nat × Obj):=(od,Bl 2 (BF s.d n))::(oh,Bl 3 (BF (NJ s) n))::HB bh a hn c full
structure GSt where
 i:Nat
 a:Option Addr
 hn:Nat
 c:Nat
 full:List Value
 L:List Tg
theorem Acz{p:Nat->Int}{L:List Tg}(H0:Ctx w ((GB od oh n s bh a hn c full).map (·.1)) w<|GB od oh n s bh a hn c full)(O:OS a hn c 2 full (L.flatMap E6))(hH:HeapL L)(hf:w.heap[bf]?=some (Bl 310 (FB oo od oh ob n)))(hfn:bf∉(GB od oh n s bh a hn c full).map (·.1))(ho:w.heap[oo]?=some (Bl 316 outs))(_:oo∉(GB od oh n s bh a hn c full).map (·.1))(hou:outs[u]?=some (.slice au La.length cu))(hun:u<n)(R:Rd w au 4 (Ge g p) La)(hRn:La≠[]->(adr au).block∉(GB od oh n s bh a hn c full).map (·.1))(hLa:∀x∈La,g.u x=u/\g.v x<n /\ -1152921504606846976<=g.len p x/\g.len p x<=1152921504606846976)(hhn:hn+La.length<=100000000)(hbd:∀k x,k<=La.length -> -1<=(goP g p s L<|La.take k).1.d x/\(goP g p s L<|La.take k).1.d x<=1152921504606846976/\(goP g p s L<|La.take k).1.h x<=1000000)(hn6:n<=1000000:=by omega):
  Ret prog 262 #[ptr bf,ptr bh,.int .i64 (u:Int)] w fun v w'=>v=.tuple #[]/\∃(a':Option Addr) (hn' c':Nat) (full':List Value) (L':List Tg),L'.Perm (goP g p s L La).2/\HeapL L'/\OS a' hn' c' 2 full' (L'.flatMap E6)/\Ctx w ((GB od oh n s bh a hn c full).map (·.1)) w' (GB od oh n (goP g p s L La).1 bh a' hn' c' full'):=by
 obtain⟨w0,rfl⟩:=qD w;obtain⟨ids,hids⟩:=qD<|(GB od oh n s bh a hn c full).map (·.1);rw[<-hids]at H0 hfn hRn |-;have H:=H0;refine iG func262 U ?_;refine qG 4 ?_;refine A9 qf U ((by rw[Ai hf];rfl))<|Ad U<|BA qf qf U U<|A9 qf U ((by rw[Ai ho];simpa using hou)) ?_;refine qG 5 ?_;refine AY 9444732965739290296704 (α:=GSt) (fun t=>[(17,.int .i64 (t.i:Int))]) (fun t w'=>t.i<=La.length/\t.L.Perm (goP g p s L<|La.take t.i).2/\HeapL t.L/\t.hn<=hn+t.i/\OS t.a t.hn t.c 2 t.full (t.L.flatMap E6)/\Ctx w0 ids w' (GB od oh n (goP g p s L<|La.take t.i).1 bh t.a t.hn t.c t.full)) (fun t=>La.length - t.i) ⟨0,a,hn,c,full,L⟩ U ?_ ?_ ?_
 .exact⟨rfl,trivial⟩
 .exact⟨qai _,.refl _,hH,qaq _,O,H⟩
 .rintro⟨i,a,hk,c,full,L'⟩ j w ⟨hi,hp,hH,hkn,O,H⟩;dsimp only at hi hp hH hkn O H;dsimp only;obtain⟨si,hsi⟩:=qD<|(goP g p s L<|La.take i).1;obtain⟨hi2,hhi2⟩:=qD<|(goP g p s L<|La.take i).2;have hgi:goP g p s L (La.take i)=(si,hi2):=by rw[hsi,hhi2]
  rw[<-hsi]at H;rw[<-hhi2]at hp;refine qGp 5 ?_ ?_
  .intro h1;obtain⟨x,hxa⟩:=Au (l:=La) (i:=i);obtain⟨hxu,hxv,hl1,hl2⟩:=hLa x<|qad hxa;have hsn:=YE g p s L hxa;rw[hgi]at hsn;have hbu:=hbd i u hi;have hbv:=hbd i (g.v x) hi;rw[hgi]at hbu hbv;dsimp only at hbu hbv;obtain⟨v,hv⟩:=qD<|g.v x;obtain⟨ln,hln⟩:=qD<|g.len p x;have hrow:Ge g p x=[.int .i64 (x:Int),.int .i64 (u:Int),.int .i64 (v:Int),.int .i64 ln]:=by unfold Ge;rw[hxu,hv,hln]
   rw[<-hv]at hxv hbv;rw[<-hln]at hl1 hl2;have hne:La≠[]:=fun h=>by rw[h]at hxa;cases hxa
   refine qG 5 ?_;refine A2 R qf qf U U (by rfl)<|BC _ qf qf U U (Rd.rowE (R.ext H.ext<|hRn hne) hxa hrow U)<|AN qf H ?_;rintro b7 w - H;refine qG 1 ?_;rintro w H;refine qA ?_;have K0:∀{z},Ext ids w0 z->z.heap[bf]?=some (Bl 310 (FB oo od oh ob n)):=fun hz=>hz.to hf hfn;obtain⟨du,hdu⟩:=qD<|si.d u;obtain⟨hu,hhu⟩:=qD<|si.h u;have hgd:(tab si.d n)[u]?=some du:=by rw[BP hun,hdu]
   have hgh:(tab (NJ si) n)[u]?=some (hu:Int):=by rw[BP hun,hhu];rfl
   have har:Iq g p x=(u,v,ln):=by unfold Iq;rw[hxu,<-hv,<-hln]
   rw[<-hdu,<-hhu]at hbu;have RD:=Cv<|H.drew.get at1;refine CG (fun x=>x=_) AW U<|BE U<|Bc U<|Aq qf U<|BD qf U (by rintro _ rfl;exact((by rw[Ai<|K0 H.drew.ext];rfl)))<|AS U<|Bt qf qf U U<|BD qf U (by rintro _ rfl;exact((RD.fld hgd rfl (j:=0) rfl)))<|Aq qf U<|B7 qf U (by rintro _ rfl;exact H.drew) at0 U ?_;refine qG 3 ?_;rintro _ rfl;replace H:=H.drew;have RH:=Cv<|H.drew.get at2;refine De 12 AW U U (BE U<|Aq qf U<|B7 qf U (by rintro _ rfl;exact H.drew) at0 U ?_);refine qG 4 ?_;refine BD qf U (by rintro _ rfl;exact((by rw[Ai<|K0 H.drew.ext];rfl)))<|AS U<|Bt qf qf U U<|BD qf U (by rintro _ rfl;exact((RH.fld hgh rfl (j:=0) rfl)))<|Fw U U ?_;rw[show(hu:Int)+1=((hu+1:Nat):Int)by omega];refine Cc ?_;replace H:=H.drew
   refine Aj qB (VV (K0 H.ext) (H.get at1) (H.get at2) v hxv hn6 (du+ln)<|hu+1) U ?_;rintro rv w ⟨rfl,rfl⟩;refine qGc 2 ?_ ?_
   .intro h2;have h2':DH si v (du+ln)<|hu+1:=by simpa using h2
    have hS:Gc si (Iq g p x)=GC si v (du+ln) (hu+1):=by rw[har];unfold Gc;dsimp only;rw[<-hdu,<-hhu,if_pos h2']
    have hHH:Hr si (Iq g p x) hi2=(du+ln,v)::hi2:=by rw[har];unfold Hr;dsimp only;rw[<-hdu,<-hhu,if_pos h2']
    refine BG [([0,1,2,3,4,5,6,7,8,9,10,11,12,13,14,15,16,17,18,19,20,21],22),([23],24)] (fun z=>z.heap[bf]?=some (Bl 310 (FB oo od oh ob n))/\z.heap[b7]?=some (Bl 315 [.int .i64 (x:Int),.int .i64 (u:Int),.int .i64 (v:Int),.int .i64 ln])/\z.heap[oh]?=some (Bl 3 (BF (NJ si) n))) [24] AW (⟨K0 H.drew.ext,H.drew.get at0,H.drew.get at2⟩) ?_;refine A0 U U<|Bm U<|A7 U<|Ah qf U<|AU qf U (fun _ hx=>(by rw[Ai hx.1];rfl)) ?_;refine Ah qf U<|AU qf U (fun _ hx=>(by rw[Ai hx.2.1];rfl)) ?_;refine Bm U<|A7 U<|Ah qf U<|AU qf U (fun _ hx=>(by rw[Ai hx.1];rfl)) ?_;refine Ah qf U<|AU qf U (fun _ hx=>(by rw[Ai hx.2.1];rfl)) ?_;refine AG U<|Bm U<|A7 U<|Ah qf U<|AU qf U (fun _ hx=>(by rw[Ai hx.1];rfl)) ?_;refine AG U<|AA qf qf U U ?_
    refine AU qf U (fun _ hx=>((Cv hx.2.2).fld hgh rfl (j:=0) rfl))<|Dt U U ?_;rw[show(hu:Int)+1=((hu+1:Nat):Int)by omega];refine AA qf qf U U<|A6 ?_;replace H:=H.drew;refine BZ v (fun q => .int .i64 ((GC si v (du+ln)<|hu+1).d q)) (.int _ _) qf U U U H at1 (by simp) (by show Value.int _ (if v=v then _ else _)=_;rw[if_pos rfl]) (fun q _ hq=>by show Value.int _ (if q=v then _ else _)=_;rw[if_neg hq]) ?_;rintro w H;refine Ab<|Bv (⟨K0 H.ext,H.get at0,H.get at2⟩)<|A0 U U ?_;refine AA qf qf U U ?_
    refine A6<|BZ v (fun q => .int .i64 (NJ (GC si v (du+ln)<|hu+1) q)) (.int _ _) qf U U U H at2 (by simp) (by show Value.int _ (((if v=v then _ else _:Nat)):Int)=_;rw[if_pos rfl]) (fun q _ hq=>by show Value.int _ (((if q=v then _ else _:Nat)):Int)=_;rw[if_neg hq];rfl) ?_;rintro w H;refine Ab<|Bw U<|Bu<|Aw<|AV U<|Ad U<|Ae qf U<|Bh qf U H at0 U ?_;have Hc:=Ctx.comm (L:=[_,_,_]) (L':=HB bh a hk c full) H;refine Aj qB (UM (Ctx.lend (L1:=HB bh a hk c full) (L2:=[_,_,_]) Hc) O hH (du+ln) v) U ?_;rintro rv w ⟨rfl,a',c',f',L2,hp2,hH2,O2,H2⟩;replace H:=Ctx.comm (L:=HB bh a' (hk+1) c' f') (L':=[_,_,_])<|Ctx.back (L1:=HB bh a hk c full) (L2:=[_,_,_]) Hc H2;refine Ab<|Av<|Aa<|Aw<|Ap U U ?_;refine Ad U<|qA ?_
    refine⟨⟨i+1,a',hk+1,c',f',L2⟩,rfl,⟨rfl,trivial⟩,⟨by dsimp only;omega,?_,hH2,by dsimp only;omega,O2,?_⟩,by dsimp only;omega⟩
    .dsimp only;rw[hsn];show L2.Perm (Hr si (Iq g p x) hi2);rw[hHH];exact hp2.trans<|hp.cons _
    .dsimp only;rw[hsn];show Ctx w0 ids w (GB od oh n (Gc si<|Iq g p x) bh a' (hk+1) c' f');rw[hS];exact H.tail
   .intro h2;have h2':¬DH si v (du+ln) (hu+1):=by simpa using h2
    have hS:Gc si (Iq g p x)=si:=by rw[har];unfold Gc;dsimp only;rw[<-hdu,<-hhu,if_neg h2']
    have hHH:Hr si (Iq g p x) hi2=hi2:=by rw[har];unfold Hr;dsimp only;rw[<-hdu,<-hhu,if_neg h2']
    refine A1<|Av<|Aa<|Aw<|Ap U U ?_;refine Ad U<|qA ?_;refine⟨⟨i+1,a,hk,c,full,L'⟩,rfl,⟨rfl,trivial⟩,⟨by dsimp only;omega,?_,hH,by dsimp only;omega,O,?_⟩,by dsimp only;omega⟩
    .dsimp only;rw[hsn];show L'.Perm (Hr si (Iq g p x) hi2);rw[hHH];exact hp
    .dsimp only;rw[hsn];show Ctx w0 ids _ (GB od oh n (Gc si<|Iq g p x) bh a hk c full);rw[hS];exact H.tail
  .intro h1;refine qG 5 ?_;obtain rfl:i=La.length:=by omega
   rw[qba]at hsi hhi2;rw[hsi]at H;rw[hhi2]at hp;exact⟨rfl,a,hk,c,full,L',hp,hH,O,H⟩
abbrev NBl(od n:Nat)(s:Lb)(bh:Nat)(a:Option Addr)(hn c:Nat)(full:List Value):List (Nat × Obj):=(od,Bl 2 (BF s.d n))::HB bh a hn c full
def It(src:List Nat):List Tg:=src.map fun v=>(0,v)
theorem Ro{v:Nat}(h:src[i]?=some v)(x:Nat):(lb0<|src.take<|i+1).d x=if x=v then 0 else(lb0<|src.take i).d x:=by
 unfold lb0;dsimp only;rw[EA h]
 by_cases e:x=v
 .subst e;simp
 .simp[e]
theorem YF(H0:Ctx w ((NBl od n (lb0 []) bh none 0 c []).map (·.1)) w<|NBl od n (lb0 []) bh none 0 c [])(O:OS none 0 c 2 [] (([]:List Tg).flatMap E6))(hf:w.heap[bf]?=some (Bl 310 (FB oo od oh ob n)))(hfn:bf∉(NBl od n (lb0 []) bh none 0 c []).map (·.1))(R:Rd w fr 1 I1 (src.map fun v:Nat=>(v:Int)))(hRn:src≠[]->(adr fr).block∉(NBl od n (lb0 []) bh none 0 c []).map (·.1))(hsrc:∀v∈src,v<n)(hnd:src.Nodup)(_:n<=1000000:=by omega)(hsl:src.length<=1000000:=by omega):
  Ret prog 259 #[ptr bf,ptr bh,.slice fr src.length fc] w fun v w'=>v=.bool (decide (0<src.length))/\∃(a':Option Addr) (c':Nat) (full':List Value) (L':List Tg),L'.Perm (It src)/\HeapL L'/\OS a' src.length c' 2 full' (L'.flatMap E6)/\Ctx w ((NBl od n (lb0 []) bh none 0 c []).map (·.1)) w' (NBl od n (lb0 src) bh a' src.length c' full'):=by
 obtain⟨w0,rfl⟩:=qD w;obtain⟨ids,hids⟩:=qD<|(NBl od n (lb0 []) bh none 0 c []).map (·.1);rw[<-hids]at H0 hfn hRn |-;have H:=H0;refine iG func259 U ?_;refine qG 12 ?_;refine AY 17592186042688 (α:=Option Addr × Nat × List Value × List Tg × Nat) (fun t=>[(11,.int .i64 (t.2.2.2.2:Int))]) (fun t w'=>t.2.2.2.2<=src.length/\t.2.2.2.1.Perm (It<|src.take t.2.2.2.2)/\HeapL t.2.2.2.1/\OS t.1 t.2.2.2.2 t.2.1 2 t.2.2.1 (t.2.2.2.1.flatMap E6)/\Ctx w0 ids w' (NBl od n (lb0<|src.take t.2.2.2.2) bh t.1 t.2.2.2.2 t.2.1 t.2.2.1)) (fun t=>src.length - t.2.2.2.2) (none,c,[],[],0) U ?_ ?_ ?_
 .exact⟨rfl,trivial⟩
 .exact⟨qai _,.refl _,fun i x y _ h=>(by cases h),O,H⟩
 .rintro⟨a,c,full,L,i⟩ j w ⟨hi,hp,hH,O,H⟩;dsimp only at hi hp hH O H;dsimp only;refine qGp 5 ?_ ?_
  .intro h1;obtain⟨v,hv⟩:=Au (l:=src) (i:=i);have hvn:=hsrc v<|qad hv;have hvm:(src.map fun v:Nat=>(v:Int))[i]?=some (v:Int):=by rw[qa9,hv];rfl
   have hne:src≠[]:=fun h=>by rw[h]at hv;cases hv
   have hnot:v∉src.take i:=fun hm=>by
    obtain⟨k,hk⟩:=qc7 hm;rw[qbt]at hk
    split at hk
    .have hkl:=BH hk;obtain⟨h1,h2⟩:=qbh.1 hk;obtain⟨h3,h4⟩:=qbh.1 hv;have:=(List.getElem_inj hnd).1<|h2.trans h4.symm;omega
    .cases hk
   have hdv:(lb0<|src.take i).d v = -1:=if_neg hnot;have hlm:(src.map fun v:Nat=>(v:Int)).length=src.length:=by rw[qaj]
   have hgd:(tab (lb0<|src.take i).d n)[v]?=some (-1):=by rw[BP hvn,hdv]
   refine qG 5 ?_;refine A2 R qf qf U U (by omega)<|A9 qf U (((R.ext H.ext<|hRn hne).fld hvm U (j:=0) U)) ?_;refine qG 8 ?_;refine iC 17 U ?_ ?_
   .intro h2;omega
   .intro h2;refine qG 4 ?_;refine A9 qf U ((by rw[Ai<|H.ext.to hf hfn];rfl)) ?_;refine qGp 5 ?_ ?_
    .intro h3;omega
    .intro h3;refine qG 6 ?_;refine A9 qf U ((by rw[Ai<|H.ext.to hf hfn];rfl))<|Ad U<|BA qf qf U U<|A9 qf U (((Cv<|H.get at0).fld hgd U (j:=0) U)) ?_;refine qGp 3 ?_ ?_
     .intro h4;refine qG 4 ?_;refine A9 qf U ((by rw[Ai<|H.ext.to hf hfn];rfl))<|Ad U<|BA qf qf U U<|BZ v (fun q => .int .i64 ((lb0<|src.take<|i+1).d q)) (.int _ _) qf U U U H at0 (by simp) (by rw[Ro hv,if_pos rfl]) (fun q _ hq=>by rw[Ro hv,if_neg hq]) ?_;rintro w H;refine qG 5 ?_;have Hc:=Ctx.comm (L:=[_]) (L':=HB bh a i c full) H;refine Aj qB (UM (Ctx.lend (L1:=HB bh a i c full) (L2:=[_]) Hc) O hH 0 v) U ?_;rintro rv w ⟨rfl,a',c',f',L2,hp2,hH2,O2,H2⟩;replace H:=Ctx.comm (L:=HB bh a' (i+1) c' f') (L':=[_])<|Ctx.back (L1:=HB bh a i c full) (L2:=[_]) Hc H2;refine Ab<|Av<|Aa<|Aw<|Ap U U ?_;refine Ad U<|qA ?_;refine⟨(a',c',f',L2,i+1),rfl,⟨rfl,trivial⟩,⟨by dsimp only;omega,?_,hH2,O2,H⟩,by dsimp only;omega⟩;dsimp only;unfold It at hp |-;rw[EA hv,qau]
      exact hp2.trans<|(hp.cons _).trans (qes _ _).symm
     .intro h4;omega
  .intro h1;refine Bi<|Am<|Am<|A8<|Aa<|Af<|AH U<|Cp qf U<|Es U U<|A5 U<|qA<|Bf<|B6 (v:=(.bool _)) U U U ?_;obtain rfl:i=src.length:=by omega
   rw[qba]at hp H;exact⟨qaa Value.bool (by rw[qac];simp),a,c,full,L,hp,hH,O,H⟩
def HW(g:Gr)(p:Nat->Int)(s:Lb)(a:Nat):Prop:=s.d (g.u a) ≠ -1/\s.h (g.v a)≠0/\s.d (g.u a)+g.len p a=s.d (g.v a)/\s.h (g.u a)+1=s.h (g.v a)
structure BI(g:Gr)(p:Nat->Int)(s:Lb)(all done:Nat->Prop)(by':Nat->Int):Prop where
 val:∀v,by' v = -1\/∃a:Nat,by' v=(a:Int)/\all a/\HW g p s a/\g.v a=v
 in':∀a,done a->HW g p s a->by' (g.v a) ≠ -1
 fst:∀v (a:Nat),by' v=(a:Int)->∀x,done x->HW g p s x->g.v x=v->a<=x
theorem BI.skip{p:Nat->Int}{done:Nat->Prop}(B:BI g p s all done by'){a:Nat}(h:¬HW g p s a\/(by' (g.v a) ≠ -1/\by' (g.v a)<=(a:Int))):BI g p s all (fun x=>x=a\/done x) by' :=
 ⟨B.val,fun x hx hg=>by
  rcases hx with rfl|hx
  .exact(h.resolve_left fun h=>h hg).1
  .exact B.in' x hx hg,fun v b hb x hx hg hv=>by
  rcases hx with rfl|hx
  .have h1:=(h.resolve_left fun h=>h hg).2;rw[hv,hb]at h1;omega
  .exact B.fst v b hb x hx hg hv⟩
theorem BI.put{p:Nat->Int}{done:Nat->Prop}(B:BI g p s all done by'){a:Nat}(ha:all a)(hg:HW g p s a)(hlt:by' (g.v a) = -1\/(a:Int)<by' (g.v a)):BI g p s all (fun x=>x=a\/done x) (upd by' (g.v a) (a:Int)):=by
 refine⟨fun v=>?_,fun x hx hgx=>?_,fun v b hb x hx hgx hv=>?_⟩
 .by_cases e:v=g.v a
  .subst e;exact .inr ⟨a,CI _ _ _,ha,hg,rfl⟩
  .rw[Dy e];exact B.val v
 .by_cases e:g.v x=g.v a
  .rw[e,CI];omega
  .rw[Dy e]
   rcases hx with rfl|hx
   .exact absurd U e
   .exact B.in' x hx hgx
 .by_cases e:v=g.v a
  .rw[e,CI]at hb
   rcases hx with rfl|hx
   .omega
   .have h1:=B.in' x hx hgx;rw[hv,e]at h1
    rcases B.val (g.v a)with h2|⟨c,h2,-⟩
    .exact absurd h2 h1
    .have h3:=B.fst (g.v a) c h2 x hx hgx<|hv.trans e;rw[h2]at hlt;omega
  .rw[Dy e]at hb
   rcases hx with rfl|hx
   .exact absurd hv.symm e
   .exact B.fst v b hb x hx hgx hv
theorem BI.congr{p:Nat->Int}{done:Nat->Prop}(B:BI g p s all done by')(h:∀x,done' x->done x):BI g p s all done' by':=⟨B.val,fun a ha=>B.in' a<|h a ha,fun v b hb x hx=>B.fst v b hb x<|h x hx⟩
theorem YG{p:Nat->Int}{outL:Nat->List Nat}(hb:w.heap[ob]?=some (Bl 3 (BF (fun _ => -1) n)))(hf:w.heap[bf]?=some (Bl 310 (FB oo od oh ob n)))(hd:w.heap[od]?=some (Bl 2 (BF s.d n)))(hh:w.heap[oh]?=some (Bl 3 (BF (NJ s) n)))(ho:w.heap[oo]?=some (Bl 316 outs))(nf:bf≠ob)(nd:od≠ob)(nh:oh≠ob)(no:oo≠ob)(hsd:∀v,-1<=s.d v/\s.d v<=1152921504606846976/\s.h v<=1000000)(hout:∀u,u<n->∃au cu,outs[u]?=some (.slice au (outL u).length cu)/\Rd w au 4 (Ge g p) (outL u)/\(outL u≠[]->(adr au).block≠ob)/\(outL u).length<=1000000/\∀x∈outL u,g.u x=u/\g.v x<n /\ -1152921504606846976<=g.len p x/\g.len p x<=1152921504606846976/\x<=1000000)(hn6:n<=1000000:=by omega):
  Ret prog 263 #[ptr bf] w fun v w'=>v=.tuple #[]/\∃by':Nat->Int,BI g p s (fun a=>a∈outL (g.u a)) (fun a=>g.u a<n/\a∈outL (g.u a)) by'/\Ctx w [ob] w' [(ob,Bl 3 (BF by' n))]:=by
 obtain⟨w0,rfl⟩:=qD w;have H:=Ctx.start1 hb;have nf':bf∉[ob]:=by rw[qab];exact nf
 have nd':od∉[ob]:=by rw[qab];exact nd
 have nh':oh∉[ob]:=by rw[qab];exact nh
 have no':oo∉[ob]:=by rw[qab];exact no
 refine iG func263 U ?_;refine qG 4 ?_;refine A9 qf U ((by rw[Ai hf];rfl)) ?_;refine qG 5 ?_;refine AY 649037107316853453566312041148524 (α:=Nat × (Nat->Int)) (fun t=>[(12,.int .i64 (t.1:Int))]) (fun t w'=>t.1<=n/\BI g p s (fun a=>a∈outL (g.u a)) (fun a=>g.u a<t.1/\a∈outL (g.u a)) t.2/\Ctx w0 [ob] w' [(ob,Bl 3 (BF t.2 n))]) (fun t=>n - t.1) (0,fun _ => -1) U ?_ ?_ ?_
 .exact⟨rfl,trivial⟩
 .exact⟨qai _,⟨fun v => .inl rfl,fun a h=>absurd h.1<|qay _,fun v a h=>absurd (show(-1:Int)=(a:Int)from h)<|by omega⟩,H⟩
 .rintro⟨u,by'⟩ j w ⟨hi,B,H⟩;dsimp only at hi B H;dsimp only;refine qGp 5 ?_ ?_
  .intro h1;obtain⟨au,cu,hou,R,hRn,hul,hx7⟩:=hout u (by omega);refine qG 7 ?_;refine A9 qf U ((by rw[Ai<|H.ext.to ho no'];simpa using hou)) ?_;refine qG 11 ?_;obtain⟨La,hLa⟩:=qD<|outL u;rw[<-hLa]at R hRn hul hx7 |-;refine AY 324518553658426726783156020052064 (α:=Nat × (Nat->Int)) (fun t=>[(19,.int .i64 (t.1:Int))]) (fun t w'=>t.1<=La.length/\BI g p s (fun a=>a∈outL (g.u a)) (fun a=>(g.u a<u/\a∈outL (g.u a))\/a∈La.take t.1) t.2/\Ctx w0 [ob] w' [(ob,Bl 3 (BF t.2 n))]) (fun t=>La.length - t.1) (0,by') U ?_ ?_ ?_
   .exact⟨rfl,trivial⟩
   .exact⟨qai _,B.congr fun x hx=>hx.elim id fun h=>by simp at h,H⟩
   .rintro⟨i,by'⟩ j2 w ⟨hi2,B,H⟩;dsimp only at hi2 B H;dsimp only;refine qGp 5 ?_ ?_
    .intro h2;obtain⟨x,hxa⟩:=Au (l:=La) (i:=i);obtain⟨hxu,hxv,hl1,hl2,hx6⟩:=hx7 x<|qad hxa;obtain⟨v,hv⟩:=qD<|g.v x;obtain⟨ln,hln⟩:=qD<|g.len p x;have hrow:Ge g p x=[.int .i64 (x:Int),.int .i64 (u:Int),.int .i64 (v:Int),.int .i64 ln]:=by unfold Ge;rw[hxu,hv,hln]
     rw[<-hv]at hxv;rw[<-hln]at hl1 hl2;have hne:La≠[]:=fun h=>by rw[h]at hxa;cases hxa
     have hau:(adr au).block∉[ob]:=by rw[qab];exact hRn hne
     have hun:u<n:=by omega
     obtain⟨du,hdu⟩:=qD<|s.d u;obtain⟨hu,hhu⟩:=qD<|s.h u;obtain⟨dv,hdv⟩:=qD<|s.d v;obtain⟨hw,hhw⟩:=qD<|s.h v;have hgdu:(tab s.d n)[u]?=some du:=by rw[BP hun,hdu]
     have hghu:(tab (NJ s) n)[u]?=some (hu:Int):=by rw[BP hun,hhu];rfl
     have hgdv:(tab s.d n)[v]?=some dv:=by rw[BP hxv,hdv]
     have hghv:(tab (NJ s) n)[v]?=some (hw:Int):=by rw[BP hxv,hhw];rfl
     have hbu:=hsd u;rw[<-hdu,<-hhu]at hbu
     have hgo:HW g p s x↔(du ≠ -1/\hw≠0/\du+ln=dv/\hu+1=hw):=by
      unfold HW;rw[hxu,<-hv,<-hln,<-hdu,<-hhu,<-hdv,<-hhw]
     have hall:x∈outL (g.u x):=by rw[hxu,<-hLa];exact qad hxa
     have hsub:∀y,((g.u y<u/\y∈outL (g.u y))\/y∈La.take (i+1))->y=x\/((g.u y<u/\y∈outL (g.u y))\/y∈La.take i):=fun y hy=>by
      rcases hy with hy|hy
      .exact .inr (.inl hy)
      .rw[EA hxa]at hy
       rcases qa2.1 hy with hy|hy
       .exact .inr (.inr hy)
       .exact .inl (qab.1 hy)
     have RD:=Cv hd;have RH:=Cv hh;refine qG 5 ?_;refine A2 R qf qf U U (by rfl)<|BC _ qf qf U U (Rd.rowE (R.ext H.ext hau) hxa hrow U)<|AN qf H ?_;rintro b5 w - H;refine qG 1 ?_;rintro w H;refine qA<|AB<|Dk 4835703278458516690436096 (α:=Unit) (fun _=>[(81,.bool<|!decide (du ≠ -1/\hw≠0/\du+ln=dv/\hu+1=hw))]) (fun _ w'=>Ctx w0 [ob] w' [(b5,Bl 315 [.int .i64 (x:Int),.int .i64 (u:Int),.int .i64 (v:Int),.int .i64 ln]),(ob,Bl 3 (BF by' n))]) U ?_ ?_
     .skip
      refine Uz (fun x=>x=_) AW U ?_;refine BE U<|Bc U<|Aq qf U<|BD qf U (by rintro _ rfl;exact((by rw[Ai<|H.drew.ext.to hf nf'];rfl))) ?_;refine AS U<|Bt qf qf U U ?_;refine BD qf U (by rintro _ rfl;exact(((RD.ext H.drew.ext nd').fld hgdu rfl (j:=0) rfl))) ?_;refine Aep U U U<|EU U<|iD 31 U ?_ ?_
      .intro h1;refine qG 51 ?_;rintro _ rfl;replace H:=H.drew;refine Aa ?_;exact⟨(),rfl,⟨qaa Value.bool (by clear hgdu hghu hgdv hghv hgo hdu hhu hdv hhw;rw[qac];simp_all;try omega),trivial⟩,H⟩
      .intro h2;refine qG 3 ?_;refine BD qf U (by rintro _ rfl;exact((by rw[Ai<|H.drew.ext.to hf nf'];rfl)))<|Aq qf U<|B7 qf U (by rintro _ rfl;exact H.drew) at0 U<|Bt qf qf U U<|BD qf U (by rintro _ rfl;exact(((RH.ext H.drew.ext nh').fld hghv rfl (j:=0) rfl)))<|Aep U U U ?_;refine qG 2 ?_;refine iD 42 U ?_ ?_
       .intro h3;refine qG 40 ?_;rintro _ rfl;replace H:=H.drew;refine Aa ?_;exact⟨(),rfl,⟨qaa Value.bool (by clear hgdu hghu hgdv hghv hgo hdu hhu hdv hhw;rw[qac];simp_all;try omega),trivial⟩,H⟩
       .intro h4;refine qG 3 ?_;refine BD qf U (by rintro _ rfl;exact((by rw[Ai<|H.drew.ext.to hf nf'];rfl)))<|AS U<|Bt qf qf U U<|BD qf U (by rintro _ rfl;exact(((RD.ext H.drew.ext nd').fld hgdu rfl (j:=0) rfl)))<|Aq qf U<|B7 qf U (by rintro _ rfl;exact H.drew) at0 U ?_;refine qG 4 ?_;refine BD qf U (by rintro _ rfl;exact((by rw[Ai<|H.drew.ext.to hf nf'];rfl)))<|Aq qf U<|B7 qf U (by rintro _ rfl;exact H.drew) at0 U<|Bt qf qf U U<|BD qf U (by rintro _ rfl;exact(((RD.ext H.drew.ext nd').fld hgdv rfl (j:=0) rfl))) ?_;refine qG 3 ?_;refine iD 63 U ?_ ?_
        .intro h5;refine qG 19 ?_;rintro _ rfl;replace H:=H.drew;refine Aa ?_;exact⟨(),rfl,⟨qaa Value.bool (by clear hgdu hghu hgdv hghv hgo hdu hhu hdv hhw;rw[qac];simp_all;try omega),trivial⟩,H⟩
        .intro h6;refine qG 3 ?_;refine BD qf U (by rintro _ rfl;exact((by rw[Ai<|H.drew.ext.to hf nf'];rfl)))<|AS U<|Bt qf qf U U<|BD qf U (by rintro _ rfl;exact(((RH.ext H.drew.ext nh').fld hghu rfl (j:=0) rfl))) ?_;refine qG 4 ?_;refine BD qf U (by rintro _ rfl;exact((by rw[Ai<|H.drew.ext.to hf nf'];rfl)))<|Aq qf U<|B7 qf U (by rintro _ rfl;exact H.drew) at0 U<|Bt qf qf U U<|BD qf U (by rintro _ rfl;exact(((RH.ext H.drew.ext nh').fld hghv rfl (j:=0) rfl))) ?_;refine qG 3 ?_;rintro _ rfl;replace H:=H.drew;refine Aa ?_;exact⟨(),rfl,⟨qaa Value.bool (by clear hgdu hghu hgdv hghv hgo hdu hhu hdv hhw;rw[qac];simp_all;try omega),trivial⟩,H⟩
     .rintro - j6 w H;refine A3 _ U ?_ ?_
      .intro h3;have hng:¬HW g p s x:=by rw[hgo];exact qbq (by simpa only[qcf]using h3)
       refine Bi<|Am<|A8<|Aa<|Aw<|Ap U U ?_;refine Ad U<|qA ?_;exact⟨(i+1,by'),rfl,⟨rfl,trivial⟩,⟨by dsimp only;omega,(B.skip<|.inl hng).congr hsub,H.tail⟩,by dsimp only;omega⟩
      .intro h3;have hg:HW g p s x:=by rw[hgo];simpa using h3
       have hgb:(tab by' n)[v]?=some (by' v):=BP hxv;have hnot:by' v ≠ -1->by' v<=(x:Int)->BI g p s (fun a=>a∈outL (g.u a)) (fun a=>(g.u a<u/\a∈outL (g.u a))\/a∈La.take (i+1)) by':=fun h h'=>(B.skip<|.inr<|hv ▸ ⟨h,h'⟩).congr hsub
       refine A1<|Aa<|CG (fun x=>x=_) AW U ?_;refine BE U<|Bc U<|Aq qf U<|BD qf U (by rintro _ rfl;exact((by rw[Ai<|H.drew.ext.to hf nf'];rfl))) ?_;refine Aq qf U<|B7 qf U (by rintro _ rfl;exact H.drew) at0 U ?_;refine Bt qf qf U U ?_;refine BD qf U (by rintro _ rfl;exact(((Cv<|H.drew.get at1).fld hgb rfl (j:=0) rfl))) ?_;refine Gw U U<|Cc ?_;rintro _ rfl;replace H:=H.drew;refine qG 4 ?_;refine iC 92 U ?_ ?_
       .intro h4;refine Al U<|Al U<|Al U<|Al U<|Bz U (.bool _) U<|qA<|EG U<|Eb [([0,1,2,3,4,5,6,7,8],9)] (fun z=>z.heap[bf]?=some (Bl 310 (FB oo od oh ob n))/\z.heap[b5]?=some (Bl 315 [.int .i64 (x:Int),.int .i64 (u:Int),.int .i64 (v:Int),.int .i64 ln])) [9] AW (⟨H.drew.ext.to hf nf',H.drew.get at0⟩) ?_;refine A0 U U<|Bm U<|A7 U<|Ah qf U<|AU qf U (fun _ hx=>(by rw[Ai hx.1];rfl)) ?_;refine Ah qf U<|AU qf U (fun _ hx=>(by rw[Ai hx.2];rfl)) ?_;refine Ah qf U<|AU qf U (fun _ hx=>(by rw[Ai hx.2];rfl)) ?_;refine AA qf qf U U<|A6 ?_;replace H:=H.drew;refine BZ v (fun q => .int .i64 (upd by' v (x:Int) q)) (.int _ _) qf U U U H at1 (by simp) (by rw[CI]) (fun q _ hq=>by rw[Dy hq]) ?_;rintro w H
        refine Ab<|Bw U<|Bu<|Av<|Aa<|Aw<|Ap U U ?_;refine Ad U<|qA ?_;exact⟨(i+1,upd by' v (x:Int)),rfl,⟨rfl,trivial⟩,⟨by dsimp only;omega,(hv ▸ B.put hall hg (.inl<|hv ▸ h4)).congr hsub,H.tail⟩,by dsimp only;omega⟩
       .intro h4;refine qGp 7 ?_ ?_
        .intro h5;refine Eb [([0,1,2,3,4,5,6,7,8],9)] (fun z=>z.heap[bf]?=some (Bl 310 (FB oo od oh ob n))/\z.heap[b5]?=some (Bl 315 [.int .i64 (x:Int),.int .i64 (u:Int),.int .i64 (v:Int),.int .i64 ln])) [9] AW (⟨H.drew.ext.to hf nf',H.drew.get at0⟩) ?_;refine A0 U U<|Bm U<|A7 U<|Ah qf U<|AU qf U (fun _ hx=>(by rw[Ai hx.1];rfl)) ?_;refine Ah qf U<|AU qf U (fun _ hx=>(by rw[Ai hx.2];rfl)) ?_;refine Ah qf U<|AU qf U (fun _ hx=>(by rw[Ai hx.2];rfl)) ?_;refine AA qf qf U U<|A6 ?_;replace H:=H.drew;refine BZ v (fun q => .int .i64 (upd by' v (x:Int) q)) (.int _ _) qf U U U H at1 (by simp) (by rw[CI]) (fun q _ hq=>by rw[Dy hq]) ?_;rintro w H;refine Ab<|Bw U<|Bu<|Av<|Aa<|Aw<|Ap U U ?_;refine Ad U (qA ?_)
         exact⟨(i+1,upd by' v (x:Int)),rfl,⟨rfl,trivial⟩,⟨by dsimp only;omega,(hv ▸ B.put hall hg (.inr<|hv ▸ h5)).congr hsub,H.tail⟩,by dsimp only;omega⟩
        .intro h5;refine A1<|Av<|Aa<|Aw<|Ap U U ?_;refine Ad U<|qA ?_;exact⟨(i+1,by'),rfl,⟨rfl,trivial⟩,⟨by dsimp only;omega,hnot h4<|by omega,H.tail⟩,by dsimp only;omega⟩
    .intro h2;refine Bi<|Am<|Am<|A8<|Av<|Aa<|Aw<|Ap U U ?_;refine Ad U<|qA ?_;have hiL:i=La.length:=by omega
     refine⟨(u+1,by'),rfl,⟨rfl,trivial⟩,⟨by dsimp only;omega,B.congr fun y hy=>?_,H⟩,by dsimp only;omega⟩;rw[hiL,qba]
     rcases qao (g.u y) u with h7|h7
     .exact .inl ⟨h7,hy.2⟩
     .have hyu:g.u y=u:=by have:=hy.1;dsimp only at this;omega
      exact .inr (by rw[hLa,<-hyu];exact hy.2)
  .intro h1;refine qG 5 ?_;obtain rfl:u=n:=by omega
   exact⟨rfl,by',B,H⟩
structure Slo where
 a:Option Addr
 n:Nat
 c:Nat
 full:List Value
def sloV(s:Slo):Value := .slice s.a s.n s.c
abbrev JV(s:Slo):List (Nat × Obj):=ent s.a 315 s.full
abbrev VW(nn:Nat)(st:Nat->Slo):List Value:=(List.range nn).map fun u=>sloV (st u)
structure OutR(w0 w:World)(oo nn:Nat)(g:Gr)(p:Nat->Int)(st:Nat->Slo)(sel:Nat->List Nat)(oth:Nat->Prop):Prop where
 tbl:w.heap[oo]?=some (Bl 316 (VW nn st))
 os:∀u,u<nn->OS (st u).a (st u).n (st u).c 4 (st u).full ((sel u).flatMap (Ge g p))
 blk:∀u,u<nn->∀y∈JV (st u),w.heap[y.1]?=some y.2/\w0.heap.size<=y.1/\¬oth y.1/\y.1≠oo
 ne:∀u v,u<nn->v<nn->u≠v->∀y∈JV (st u),∀z∈JV (st v),y.1≠z.1
def Nf(oo nn:Nat)(st:Nat->Slo):Mt:=fun x=>x=oo\/∃u,u<nn/\∃y∈JV (st u),y.1=x
theorem OutR.keep{p:Nat->Int}{st:Nat->Slo}{sel:Nat->List Nat}(R:OutR w0 w oo nn g p st sel oth)(h:Ext S w w')(hS:∀x∈S,¬Nf oo nn st x):OutR w0 w' oo nn g p st sel oth :=
 ⟨h.to R.tbl fun hm=>hS _ hm<|.inl rfl,R.os,fun u hu y hy=>⟨h.to (R.blk u hu y hy).1 fun hm=>hS _ hm<|.inr ⟨u,hu,y,hy,rfl⟩,(R.blk u hu y hy).2⟩,R.ne⟩
def stS(st:Nat->Slo)(u:Nat)(s:Slo):Nat->Slo:=fun q=>if q=u then s else st q
theorem GI(st:Nat->Slo)(u:Nat)(s:Slo):stS st u s u=s:=if_pos rfl
theorem Jf{st:Nat->Slo}{s:Slo}(h:q≠u):stS st u s q=st q:=if_neg h
theorem OutR.step{p:Nat->Int}{st:Nat->Slo}{sel sel':Nat->List Nat}(R:OutR w0 w oo nn g p st sel oth)(hu:u<nn){s:Slo}(hoth:∀x,oth x->x<w.heap.size)(h0:w0.heap.size<=w.heap.size)(H:Ctx w ((oo::(JV<|st u).map (·.1))) w' ((oo,Bl 316 (VW nn<|stS st u s))::JV s))(O:OS s.a s.n s.c 4 s.full ((sel' u).flatMap<|Ge g p))(hsel:∀q,q≠u->sel' q=sel q) :
  OutR w0 w' oo nn g p (stS st u s) sel' oth/\∀x,Nf oo nn (stS st u s) x->Nf oo nn st x\/w.heap.size<=x:=by
 have hlt:∀q,q<nn->∀y∈JV (st q),y.1<w.heap.size:=fun q hq y hy=>AX (R.blk q hq y hy).1;have hoo:=AX R.tbl;have hnd:=(qbf.1 H.nd).1
 have hnew:∀y∈JV s,(∃z∈JV (st u),z.1=y.1)\/w.heap.size<=y.1:=fun y hy=>by
  rcases H.own y (qae _ hy)with h|h
  .rcases qaf.1 h with h|h
   .exact absurd h.symm (hnd y hy)
   .obtain⟨z,hz,he⟩:=qak.1 h;exact .inl ⟨z,hz,he⟩
  .exact .inr h
 have hout:∀q,q<nn->q≠u->∀y∈JV (st q),y.1∉oo::(JV<|st u).map (·.1):=fun q hq hqu y hy hm=>by
  rcases qaf.1 hm with h|h
  .exact(R.blk q hq y hy).2.2.2 h
  .obtain⟨z,hz,he⟩:=qak.1 h;exact R.ne q u hq hu hqu y hy z hz he.symm
 refine⟨⟨H.get at0,fun q hq=>?_,fun q hq y hy=>?_,fun q v hq hv hqv y hy z hz=>?_⟩,fun x hx=>?_⟩
 .by_cases e:q=u
  .subst e;rw[GI];exact O
  .rw[Jf e,hsel q e];exact R.os q hq
 .by_cases e:q=u
  .subst e;rw[GI]at hy;refine⟨H.blk y<|qae _ hy,?_,?_,fun h=>hnd y hy h.symm⟩
   .rcases hnew y hy with⟨z,hz,he⟩|h
    .rw[<-he];exact(R.blk q hq z hz).2.1
    .omega
   .rcases hnew y hy with⟨z,hz,he⟩|h
    .rw[<-he];exact(R.blk q hq z hz).2.2.1
    .exact fun ho=>by have:=hoth _ ho;omega
  .rw[Jf e]at hy;obtain⟨h1,h2,h3,h4⟩:=R.blk q hq y hy;exact⟨H.ext.to h1<|hout q hq e y hy,h2,h3,h4⟩
 .by_cases e:q=u
  .subst e;rw[GI]at hy;rw[Jf<|Ne.symm hqv]at hz
   rcases hnew y hy with⟨t,ht,he⟩|h
   .rw[<-he];exact R.ne q v hq hv hqv t ht z hz
   .have:=hlt v hv z hz;omega
  .rw[Jf e]at hy
   by_cases e2:v=u
   .subst e2;rw[GI]at hz
    rcases hnew z hz with⟨t,ht,he⟩|h
    .rw[<-he];exact R.ne q v hq hv hqv y hy t ht
    .have:=hlt q hq y hy;omega
   .rw[Jf e2]at hz;exact R.ne q v hq hv hqv y hy z hz
 .rcases hx with h|⟨q,hq,y,hy,rfl⟩
  .exact .inl (.inl h)
  .by_cases e:q=u
   .subst e;rw[GI]at hy
    rcases hnew y hy with⟨t,ht,he⟩|h
    .exact .inl (.inr ⟨q,hq,t,ht,he⟩)
    .exact .inr h
   .rw[Jf e]at hy;exact .inl<|.inr ⟨q,hq,y,hy,rfl⟩
theorem OutR.ctx{p:Nat->Int}{st:Nat->Slo}{sel:Nat->List Nat}(R:OutR w0 w oo nn g p st sel oth)(hu:u<nn):Ctx w (oo::(JV<|st u).map (·.1)) w ((oo,Bl 316 (VW nn st))::JV (st u)):=by
 refine⟨.refl _ _,fun x hx=>?_,qbf.2 ⟨fun y hy h=>(R.blk u hu y hy).2.2.2 h.symm,DX⟩,fun x hx => .inl ?_⟩
 .rcases qaf.1 hx with rfl|hx
  .exact R.tbl
  .exact(R.blk u hu x hx).1
 .rcases qaf.1 hx with rfl|hx
  .exact qah ..
  .exact qae _ (qak.2 ⟨x,hx,rfl⟩)
def Ht(g:Gr)(l:List Nat)(u:Nat):List Nat:=l.filter fun a=>decide (g.u a=u)
theorem VX{a:Nat}(h:l[i]?=some a):Ht g (l.take<|i+1) (g.u a)=Ht g (l.take i) (g.u a)++[a]/\∀q,q≠g.u a->Ht g (l.take<|i+1) q=Ht g (l.take i) q:=by
 unfold Ht;rw[EA h];refine⟨by rw[qcj];congr 1;rw[qbo,qam rfl];rfl,fun q hq=>?_⟩;rw[qcj,qbo,qa1<|Ne.symm hq];simp
theorem Aiy{p:Nat->Int}{m:Int}{done:Nat->Prop}(D:Done (K8 g cap x p) src n m s)(hA:PS (K8 g cap x p) n m)(B:BI g p s all done by')(hall:∀a,all a->a<2*g.E/\0<C3 cap x a)(hdone:∀a,a<2*g.E->0<C3 cap x a->done a) :
  Bys g cap x p s fun v=>if by' v = -1 then none else some (by' v).toNat:=by
 have hmem:∀a,a<2*g.E->0<C3 cap x a->(g.u a,g.v a,g.len p a)∈K8 g cap x p:=fun a h1 h2=>Jc.2 ⟨a,h1,h2,rfl⟩;refine⟨fun v hv=>?_,fun v hd hh=>?_⟩
 .dsimp only
  by_cases e:by' v = -1
  .rw[if_pos e]
  .exfalso
   rcases B.val v with h|⟨a,_,ha,⟨h1,h2,h3,h4⟩,hva⟩
   .exact e h
   .obtain⟨ha1,ha2⟩:=hall a ha;have hl:=(hA _<|hmem a ha1 ha2).2.2.1;dsimp only at hl;rw[hva]at h2 h3
    rcases hv with hv|hv
    .have:=D.J.low<|g.u a;omega
    .exact h2 hv
 .obtain⟨b,hb,hbv,hb1,hb2,hb3⟩:=D.pre v hd hh;obtain⟨a,ha1,ha2,rfl⟩:=Jc.1 hb;dsimp only at hbv hb1 hb2 hb3;have hg:HW g p s a:=⟨hb1,by rw[hbv];exact hh,by rw[hbv];exact hb2,by rw[hbv];exact hb3⟩;have hne:=B.in' a (hdone a ha1 ha2) hg;rw[hbv]at hne
  rcases B.val v with h|⟨a',hby,ha',⟨h1,h2,h3,h4⟩,hva⟩
  .exact absurd h hne
  .obtain⟨q1,q2⟩:=hall a' ha';refine⟨a',by dsimp only;rw[if_neg hne,hby];rfl,⟨q1,q2,h1,by rw[hva];exact hd,h3,h4⟩,hva⟩
structure WaysX(g:Gr)(cap x p:Nat->Int)(s:Lb)(by':Nat->Int):Prop where
 rlx:∀a∈K8 g cap x p,s.d a.1 ≠ -1->Rlx s a
 fst:∀v (a:Nat),by' v=(a:Int)->∀b,b<2*g.E->0<C3 cap x b->HW g p s b->g.v b=v->a<=b
 all':∀v (a:Nat),by' v=(a:Int)->a<2*g.E/\0<C3 cap x a/\HW g p s a/\g.v a=v
 some':∀b,b<2*g.E->0<C3 cap x b->HW g p s b->by' (g.v b) ≠ -1
 neg:∀v,by' v = -1\/∃a:Nat,by' v=(a:Int)
theorem VY{d:Int}(hA:∀v,v<n->HV A v<=d)(_:0<=d:=by omega):psi n A (-1) (lb0 src) (It src)<=src.length+n*(d*(n+1)):=by
 have hg:∀v,gv n (-1) (lb0 src) (It src) v=(n:Int)+1:=fun v=>by
  unfold gv;rw[if_neg];rintro⟨h1,h2⟩;unfold lb0 at h1 h2;dsimp only at h1 h2
  split at h1 <;> split at h2 <;> omega
 have h1:=Ja (f:=fun v=>HV A v*gv n (-1) (lb0 src) (It src) v) (g:=fun _=>d*((n:Int)+1)) (k:=n) fun i hi=>by
  rw[hg];exact qeh (hA i hi)<|by omega
 have h2:∀(c:Int) (k:Nat),BU (fun _=>c) k=k*c:=fun c k=>by
  induction k with
  |zero=>show(0:Int)=((0:Nat):Int)*c;rw[show((0:Nat):Int)=0 from rfl,Int.zero_mul]
  |succ k ih =>
   show BU (fun _=>c) k+c=_;rw[ih,qc8,Int.add_mul];simp
 rw[h2]at h1;unfold psi It;rw[qaj];have h3:BU (fun v=>HV A v*gv n (-1) (lb0 src) (List.map (fun v=>((0:Int),v)) src) v) n<=(n:Int)*(d*((n:Int)+1)):=h1;omega
theorem UP{A:List Ar}{src:List Nat}{n:Nat}{m D:Int}{u:Nat}(hA:PS A n m)(hm:0<=m)(hn:n<=60)(hD:0<=D):∀(l dn:List Ar) (s:Lb) (hp:List Tg),DJ A src n m s->Clo A s hp u dn->(∀a∈l,a∈A/\a.1=u)->s.d u=D->PI n D s hp ->
  DJ A src n m (l.foldl Ir (s,hp)).1/\Clo A (l.foldl Ir (s,hp)).1 (l.foldl Ir (s,hp)).2 u (dn++l)/\(l.foldl Ir (s,hp)).1.d u=D/\PI n D (l.foldl Ir (s,hp)).1 (l.foldl Ir (s,hp)).2/\psi n A D (l.foldl Ir (s,hp)).1 (l.foldl Ir (s,hp)).2<=psi n A D s hp+l.length
 | [],dn,s,hp,J,K,_,hu,P=>⟨J,by simpa using K,hu,P,by simp⟩
 |a::l,dn,s,hp,J,K,hl,hu,P=>by
  obtain⟨ha,hau⟩:=hl a<|qah ..;obtain⟨J1,K1,h1,h2,-⟩:=DJ.relax hA hm hn J K ha hau (by rw[hu];omega);obtain⟨P1,h3⟩:=P.relax (A:=A) (a:=a) (by rw[hau];exact hu) hD (hA a ha).2.2.1 J.low fun h=>J1.hops h;obtain⟨r1,r2,r3,r4,r5⟩:=UP hA hm hn hD l (dn++[a]) (Gc s a) (Hr s a hp) J1 K1 (fun b hb=>hl b<|qae _ hb) (by rw[h1];exact hu) P1;rw[qaz]at r2;refine⟨r1,r2,r3,r4,?_⟩;rw[qbd,qdm];have h4:Ir (s,hp) a=(Gc s a,Hr s a hp):=rfl;rw[h4];omega
end Go.Proofs.YtfnfnmgilmejmaaGreat
