/- Part 5 of the proof. -/
import Derived.Test.YtffclglpjlcojaaGreatPart4
set_option maxRecDepth 20000
set_option maxHeartbeats 8000000
namespace Go.Proofs.YtffclglpjlcojaaGreat
open Go.GV Go.Proofs.Tryz
attribute [local irreducible] AG W Wq Wt
def NJ(x:Int):Bool:=decide (-1099511627776<=x) && decide (x<=1099511627776)
def G2(N:Int)(pot:List Int):Bool:=pot.all NJ && decide ((pot.length:Int)=N)
def Aa0(N:Int)(es:List Ed)(pot:List Int)(k:Int):Int:=(Gn N es k).2.2+pot.getD (Gn N es k).1.toNat 0 - pot.getD (Gn N es k).2.1.toNat 0
def JB(N:Int)(es:List Ed)(fl pot:List Int)(k:Nat):Bool := !(decide (Aa0 N es pot (k:Int)<0) && decide (0<Lt N es fl (k:Int)))
def Kz(N:Int)(es:List Ed)(fl pot:List Int):Bool:=(List.range (2*es.length)).all (JB N es fl pot)
def FH(N:Int)(es:List Ed)(fl pot:List Int):Bool:=C2 N es && (Ga N es fl && (G2 N pot && Kz N es fl pot))
theorem Ae4(N:Int)(a p:Option Addr)(n c m d:Nat)(pot:List Int)(w:World)(R:Rd w p 1 I1 pot)(hm:pot.length=m)(hm2:m<=9223372036854775000) :
  Ret prog 150 #[DV N a n c,.slice p m d] w fun v w'=>v=.bool (G2 N pot)/\Ext [] w w':=by
 subst hm;obtain⟨w0,rfl,H⟩:=qE w;refine Ay (fn:=f150) func150 U [DV N a n c,.slice p pot.length d] U (Ad (Br [.int .i64 N,.slice a n c] (.agg _) U U H ?_));rintro b2 w - H;refine Ai U (qA (Ao (Ad (A2 U (Ba AV U (Af U (qA (A1 (Bt 1048144 (α:=Nat) (fun i=>[(9,.int .i64 (i:Int))]) (fun i w'=>i<=pot.length/\Ctx w0 [] w' [(b2,Bl 123 [.int .i64 N,.slice a n c])]/\∀(k:Nat) (x:Int),k<i->pot[k]?=some x->NJ x=true) (fun i=>pot.length - i) 0 U ?_ ?_ ?_)))))))))
 .exact⟨rfl,trivial⟩
 .exact⟨qaj _,H,fun k x h=>absurd h (qa7 _)⟩
 .rintro i j w ⟨hi,H,hb⟩;refine Ad (Bm U U (qA (Ao (An _ U ?_ ?_))))
  .intro h2;replace h2:=AM h2;obtain⟨x,h7x⟩:=AA (l:=pot) (i:=i);refine Aq (Aa (Ao (A1 (Ad (Be R AV B2 U U (by rfl) ?_)))));refine Bc Bw U (((R.ext0 H.ext).fld h7x U (j:=0) U)) ?_;refine Ae U (qA (Ad (BV (α:=Unit) 516096 (fun _=>[(18,.bool (!NJ x))]) (fun _ w'=>Ctx w0 [] w' [(b2,Bl 123 [.int .i64 N,.slice a n c])]) U ?_ ?_)))
   .refine Af U (Bm U U (Aw U (AK 15 U ?_ ?_)))
    .intro h1;replace h1:=AM h1;refine Ag U (Ag U (A6 U (.bool _) U (Ab ?_)));exact⟨rfl,(),rfl,⟨qaa Value.bool (by unfold NJ;rw[qad];simp_all;try omega),trivial⟩,H⟩
    .intro h2;replace h2:=AN h2;refine Af U (CD U U (A9 U (.bool _) U (Ab ?_)));exact⟨rfl,(),rfl,⟨qaa Value.bool (by unfold NJ;rw[qad];simp_all;try omega),trivial⟩,H⟩
   rintro - j18 w H;refine An _ U ?_ ?_
   .intro h3;replace h3:=B7 h3;refine Ad (Ai U (qA (A7 (AF (Av (Av (AF (Av (AD (v:=(.bool _)) U U U ?_)))))))));exact⟨qaa Value.bool (by unfold G2;rw[Ew h7x (by simpa using h3)];rfl),H.ext⟩
   .intro h3;replace h3:=B9 h3;refine Aq (A8 (Aa (A0 (Az U U ?_))));refine Af U (qA ?_);refine⟨i+1,rfl,⟨rfl,trivial⟩,⟨by omega,H,fun k y hk hy=>?_⟩,by omega⟩
    rcases qap k i with h7|h7
    .exact hb k y h7 hy
    .obtain rfl:k=i:=by omega
     rw[h7x]at hy;cases hy
     simpa using h3
  .intro h2;replace h2:=AN h2;refine Bp (Am (Am (AO (Aa (Ad (A2 U (Ba AV U (Ah Eg U (AB Cd U H at0 U (BP U U (Ai U (qA (A7 (AD (v:=(.bool _)) U U U ?_))))))))))))));exact⟨qaa Value.bool (by unfold G2;rw[Fx fun k x hk hx=>hb k x (by omega) hx,qcp]),H.ext⟩
theorem Sy{N:Int}{es:List Ed}(hr:C2 N es=true){k:Nat}(hk:k<2*es.length):∃e,es[k / 2]?=some e/\Gn N es (k:Int)=I8 e k/\0<=(I8 e k).1/\(I8 e k).1<N/\0<=(I8 e k).2.1/\(I8 e k).2.1<N /\ -1000<=(I8 e k).2.2/\(I8 e k).2.2<=1000:=by
 obtain⟨e,he⟩:=AA (l:=es) (i:=k / 2);have hco:=EP ((CM hr).2.2.2.1 e (qac he));refine⟨e,he,?_,?_⟩
 .unfold Gn;rw[if_pos (by rw[hr,qdj];unfold LH;simp;omega),qbe,Bs he]
 .unfold I8
  split <;> (dsimp only;omega)
theorem LI{N:Int}{pot:List Int}(hp:G2 N pot=true):(pot.length:Int)=N/\∀(i:Nat) (x:Int),pot[i]?=some x -> -1099511627776<=x/\x<=1099511627776:=by
 unfold G2 NJ at hp;simp only[qaf,qas,qau]at hp;exact⟨hp.2,fun i x hx=>hp.1 x (qac hx)⟩
theorem Sz{N:Int}{es:List Ed}{fl:List Int}(hw:Cn N es fl=true){k:Nat}(hk:k<2*es.length):∃e x,es[k / 2]?=some e/\fl[k / 2]?=some x/\Lt N es fl (k:Int)=N6 e x k/\0<=x/\x<=e.cap/\e.cap<=4503599627370496:=by
 obtain⟨hl,hri,hin⟩:=Cx hw;obtain⟨e,he⟩:=AA (l:=es) (i:=k / 2);obtain⟨x,hx⟩:=AA (l:=fl) (i:=k / 2);have hco:=EP ((CM hri).2.2.2.1 e (qac he));have:=hin _ e x he hx;refine⟨e,x,he,hx,?_,this.1,this.2,by omega⟩;unfold Lt;rw[if_pos (by rw[hw,qdj];unfold LH;simp;omega),qbe,Bs he,Bs hx]
abbrev TJ(b p:Option Addr)(m d q r:Nat):Value := .agg #[.slice b m d,.slice p q r]
theorem Aa1(N:Int)(a b p:Option Addr)(n c m d q r:Nat)(es:List Ed)(fl pot:List Int)(w:World)(R:Rd w a 4 CJ es)(hn:es.length=n)(hN:I64 N)(Rf:Rd w b 1 I1 fl)(hm:fl.length=m)(Rp:Rd w p 1 I1 pot)(hq:pot.length=q)(hr:C2 N es=true)(hw:Cn N es fl=true)(hp:G2 N pot=true) :
  Ret prog 152 #[DV N a n c,TJ b p m d q r] w fun v w'=>v=.bool (Kz N es fl pot)/\Ext [] w w':=by
 subst hn hm hq;obtain⟨w0,rfl,H⟩:=qE w;obtain⟨hN1,hN40,hn200,-⟩:=CM hr;obtain⟨hpl,hpb⟩:=LI hp;have hfl:=(Cx hw).1;refine Ay (fn:=f152) func152 U [DV N a es.length c,TJ b p fl.length d pot.length r] U (Ad (Br [.int .i64 N,.slice a es.length c] (.agg _) U U H ?_));rintro b2 w - H;refine Br [.slice b fl.length d,.slice p pot.length r] (.agg _) U U H ?_;rintro b3 w - H;refine Ai U (qA (Ao (Ad (Ah CE U (AB D7 U H at1 U (Ba C8 U (DL U U ?_)))))));refine Af U (qA (A1 (Bt 70368744169968 (α:=Nat) (fun i=>[(13,.int .i64 (i:Int))]) (fun i w'=>i<=2*es.length/\Ctx w0 [] w' [(b3,Bl 125 [.slice b fl.length d,.slice p pot.length r]),(b2,Bl 123 [.int .i64 N,.slice a es.length c])]/\∀k,k<i->JB N es fl pot k=true) (fun i=>2*es.length - i) 0 U ?_ ?_ ?_)))
 .exact⟨rfl,trivial⟩
 .exact⟨qaj _,H,fun k h=>absurd h (qa7 _)⟩
 .rintro i j w ⟨hi,H,hb⟩;refine Ad (Bm U U (qA (Ao (An _ U ?_ ?_))))
  .intro h2;replace h2:=AM h2;have hi2:i<2*es.length:=by omega
   obtain⟨e,he,hE,q1,q2,q3,q4,q5,q6⟩:=Sy hr hi2;obtain⟨e',x,he',hx,hro,r1,r2,r3⟩:=Sz hw hi2;obtain⟨un,hun⟩:∃un:Nat,(I8 e i).1=un:=⟨(I8 e i).1.toNat,by omega⟩;obtain⟨vn,hvn⟩:∃vn:Nat,(I8 e i).2.1=vn:=⟨(I8 e i).2.1.toNat,by omega⟩;obtain⟨pu,hpu⟩:=AA (l:=pot) (i:=un);obtain⟨pv,hpv⟩:=AA (l:=pot) (i:=vn);have hbu:=hpb _ _ hpu;have hbv:=hpb _ _ hpv
   have hli:Aa0 N es pot (i:Int)=(I8 e i).2.2+pu - pv:=by
    unfold Aa0;rw[hE,hun,hvn,qbe,qbe,Bs hpu,Bs hpv]
   have hgo:JB N es fl pot i=true->∀k,k<i+1->JB N es fl pot k=true:=fun h3 k hk=>by
    rcases qap k i with h7|h7
    .exact hb k h7
    .obtain rfl:k=i:=by omega
     exact h3
   refine Aq (Aa (Ao (A1 (Ad (Af U (Ae U (qA (Ad (Cj C7 Cp U H at1 U (Af U ?_))))))))));refine Al qB (Sv N a es.length c es _ (R.ext0 H.ext) U hN (i:Int)) U ?_;rintro v w ⟨rfl,hx19⟩;replace H:=H.call hx19;rw[hE,hun,hvn];refine Cb U (AJ U U (AJ U U (AJ U U (Ae U (Ae U (Ae U (qA (Ec 19 Bq U U ?_))))))));refine AX U (A5 FK U (Cc BN U (by rintro _ rfl;exact H.drew) at0 U ?_));refine AX U (BH Rp AV B2 U U (by rfl) ?_);refine BX Bw U (by rintro _ rfl;exact(((Rp.ext0 (H.ext.trans (Ext.drew [] _))).fld hpu rfl (j:=0) rfl))) ?_;refine Dn U U (A5 FK U (Cc BN U (by rintro _ rfl;exact H.drew) at0 U ?_));refine AX U (BH Rp AV B2 U U (by rfl) ?_)
   refine BX Bw U (by rintro _ rfl;exact(((Rp.ext0 (H.ext.trans (Ext.drew [] _))).fld hpv rfl (j:=0) rfl))) ?_;refine DY U U (Ln U U (CZ U (D6 37 U ?_ ?_)))
   .intro h3;replace h3:=AM h3;refine Ox U C7 Cp U (by rintro _ rfl;exact H.drew) at1 U ?_;refine A5 EU U (Cc BN U (by rintro _ rfl;exact H.drew) at0 U ?_);refine AX U (BT ?_);replace H:=H.drew;refine Al qB (Sx N a b es.length c fl.length d es fl _ (R.ext0 H.ext) U hN (Rf.ext0 H.ext) U (i:Int)) U ?_;rintro v w ⟨rfl,hx42⟩;replace H:=H.call hx42;refine CD U U (A6 U (.bool _) U (qA (An _ U ?_ ?_)))
    .intro h4;replace h4:=AM h4;refine Ad (Ai U (qA (A7 (AF (Av (Av (AF (Av (AD (v:=(.bool _)) U U U ?_)))))))));exact⟨qaa Value.bool (by unfold Kz;rw[Ew (List.getElem?_range hi2) (by unfold JB;rw[hli,qar h3,qar h4];rfl)]),H.ext⟩
    .intro h4;replace h4:=AN h4;refine Aq (A8 (Aa (A0 (Az U U ?_))));refine Af U (qA ?_);exact⟨i+1,rfl,⟨rfl,trivial⟩,⟨by omega,H,hgo (by unfold JB;rw[hli,qbb h4,qdi];rfl)⟩,by omega⟩
   .intro h3;replace h3:=AN h3;refine A3 U (A3 U (A3 U (A3 U (BT ?_))));replace H:=H.drew;refine Ag U (Ag U (A9 U (.bool _) U (qA (F2 U (Aq (A8 (Aa (A0 (Az U U ?_)))))))));refine Af U (qA ?_);exact⟨i+1,rfl,⟨rfl,trivial⟩,⟨by omega,H,hgo (by unfold JB;rw[hli,qbb h3,qdy];rfl)⟩,by omega⟩
  .intro h2;replace h2:=AN h2;refine Bp (Am (Am (AO (Aa (Ad (Ai U (qA (A7 (AD (v:=(.bool _)) U U U ?_)))))))));exact⟨qaa Value.bool (by unfold Kz;rw[qau.2 fun k hk=>hb k (by have:=qa6.1 hk;omega)]),H.ext⟩
theorem Jl{w:World}{b:Nat}{t:TypeId}{l:List Value}(h:w.heap[b]?=some (Bl t l)):∀j v,l[j]?=some v->w.cell? ⟨b,0+j,none⟩=some v:=fun j v hv=>by
 rw[Aj h,qa4];exact hv
structure ChkK(b2 b3:Nat)(N:Int)(a b p:Option Addr)(c d r:Nat)(es:List Ed)(fl pot:List Int)(w:World):Prop where
 h2:w.heap[b2]?=some (Bl 123 [.int .i64 N,.slice a es.length c])
 h3:w.heap[b3]?=some (Bl 125 [.slice b fl.length d,.slice p pot.length r])
 R:Rd w a 4 CJ es
 Rf:Rd w b 1 I1 fl
 Rp:Rd w p 1 I1 pot
theorem ChkK.ext{b2 b3:Nat}{N:Int}{a b p:Option Addr}{c d r:Nat}{es:List Ed}{fl pot:List Int}{w w':World}(K:ChkK b2 b3 N a b p c d r es fl pot w)(h:Ext [] w w'):ChkK b2 b3 N a b p c d r es fl pot w' :=
 ⟨h.to K.h2 (by simp),h.to K.h3 (by simp),K.R.ext0 h,K.Rf.ext0 h,K.Rp.ext0 h⟩
section
variable {b2 b3:Nat}{N:Int}{a b p:Option Addr}{c d r:Nat}{es:List Ed}{fl pot:List Int}{w:World}
theorem Ae5(K:ChkK b2 b3 N a b p c d r es fl pot w)(hN:I64 N):Ret prog 146 #[ptr b2] w fun v w'=>v=.bool (C2 N es)/\Ext [] w w':=by
 obtain⟨w0,rfl,H⟩:=qE w;refine Ay (fn:=f146) func146 U [.pointer (some ⟨b2,0,none⟩)] U ?_;refine Ad (Ai U (qA (Ad (BQ _ C7 Cp U U (Jl K.h2) ?_))));refine Al qB (M4 N a es.length c es _ K.R U hN) U ?_;rintro v w ⟨rfl,hx3⟩;replace H:=H.call hx3;refine Ai U (qA (A7 (AD (v:=(.bool _)) U U U ?_)));exact⟨rfl,H.ext⟩
theorem Ae6(K:ChkK b2 b3 N a b p c d r es fl pot w)(hN:I64 N)(hf:fl.length<=9223372036854775000):Ret prog 147 #[ptr b2,ptr b3] w fun v w'=>v=.bool (Ga N es fl)/\Ext [] w w':=by
 obtain⟨w0,rfl,H⟩:=qE w;refine Ay (fn:=f147) func147 U [.pointer (some ⟨b2,0,none⟩),.pointer (some ⟨b3,0,none⟩)] U ?_;refine Ad (Ai U (qA (Ad (BQ _ C7 Cp U U (Jl K.h2) ?_))));refine Ah EU U (Bc BN U ((by rw[Aj K.h3];rfl)) ?_);refine Al qB (Aaz N a b es.length c fl.length d es fl _ K.R U hN K.Rf U hf) U ?_;rintro v w ⟨rfl,hx3⟩;replace H:=H.call hx3;refine Ai U (qA (A7 (AD (v:=(.bool _)) U U U ?_)));exact⟨rfl,H.ext⟩
theorem Ae7(K:ChkK b2 b3 N a b p c d r es fl pot w)(hq:pot.length<=9223372036854775000):Ret prog 149 #[ptr b2,ptr b3] w fun v w'=>v=.bool (G2 N pot)/\Ext [] w w':=by
 obtain⟨w0,rfl,H⟩:=qE w;refine Ay (fn:=f149) func149 U [.pointer (some ⟨b2,0,none⟩),.pointer (some ⟨b3,0,none⟩)] U ?_;refine Ad (Ai U (qA (Ad (BQ _ C7 Cp U U (Jl K.h2) ?_))));refine Ah FK U (Bc BN U ((by rw[Aj K.h3];rfl)) ?_);refine Al qB (Ae4 N a p es.length c pot.length r pot _ K.Rp U hq) U ?_;rintro v w ⟨rfl,hx3⟩;replace H:=H.call hx3;refine Ai U (qA (A7 (AD (v:=(.bool _)) U U U ?_)));exact⟨rfl,H.ext⟩
theorem Ae8(K:ChkK b2 b3 N a b p c d r es fl pot w)(hN:I64 N)(hr:C2 N es=true)(hw:Cn N es fl=true)(hp:G2 N pot=true):Ret prog 151 #[ptr b2,ptr b3] w fun v w'=>v=.bool (Kz N es fl pot)/\Ext [] w w':=by
 obtain⟨w0,rfl,H⟩:=qE w;refine Ay (fn:=f151) func151 U [.pointer (some ⟨b2,0,none⟩),.pointer (some ⟨b3,0,none⟩)] U ?_;refine Ad (Ai U (qA (Ad (BQ _ C7 Cp U U (Jl K.h2) ?_))));refine BQ _ OX Kr U U (Jl K.h3) (Al qB (Aa1 N a b p es.length c fl.length d pot.length r es fl pot _ K.R U hN K.Rf U K.Rp U hr hw hp) U ?_);rintro v w ⟨rfl,hx3⟩;replace H:=H.call hx3;refine Ai U (qA (A7 (AD (v:=(.bool _)) U U U ?_)));exact⟨rfl,H.ext⟩
end
def askN(N:Int)(es:List Ed)(fl pot:List Int):Nat->Bool
 |0=>C2 N es
 |1=>Ga N es fl
 |2=>G2 N pot
 |_=>Kz N es fl pot
theorem Ae9{N:Int}{es:List Ed}{fl pot:List Int}(h:∀k,k<4->askN N es fl pot k=true):FH N es fl pot=true:=by
 have h0:=h 0 (by omega);have h1:=h 1 (by omega);have h2:=h 2 (by omega);have h3:=h 3 (by omega);unfold FH;rw[show C2 N es=true from h0,show Ga N es fl=true from h1,show G2 N pot=true from h2,show Kz N es fl pot=true from h3];rfl
theorem Afa{N:Int}{es:List Ed}{fl pot:List Int}{k:Nat}(h:askN N es fl pot k=false)(hk:k<4:=by omega):FH N es fl pot=false:=by
 have:k=0\/k=1\/k=2\/k=3:=by omega
 unfold FH
 rcases this with rfl|rfl|rfl|rfl
 .rw[show C2 N es=false from h];simp
 .rw[show Ga N es fl=false from h];simp
 .rw[show G2 N pot=false from h];simp
 .rw[show Kz N es fl pot=false from h];simp
theorem TK(N:Int)(a b p:Option Addr)(n c m d q r:Nat)(es:List Ed)(fl pot:List Int)(w:World)(R:Rd w a 4 CJ es)(hn:es.length=n)(hN:I64 N)(Rf:Rd w b 1 I1 fl)(hm:fl.length=m)(hm2:m<=9223372036854775000)(Rp:Rd w p 1 I1 pot)(hq:pot.length=q)(hq2:q<=9223372036854775000) :
  Ret prog 118 #[DV N a n c,TJ b p m d q r] w fun v w'=>v=.bool (FH N es fl pot)/\Ext [] w w':=by
 subst hn hm hq;obtain⟨w0,rfl,H⟩:=qE w;refine Ay (fn:=f118) func118 U [DV N a es.length c,TJ b p fl.length d pot.length r] U (Ad (Br [.int .i64 N,.slice a es.length c] (.agg _) U U H ?_));rintro b2 w - H;refine Br [.slice b fl.length d,.slice p pot.length r] (.agg _) U U H ?_;rintro b3 w - H;refine Ai U (qA (Ao (Ad (Cf [.pointer _] U (Cf [.pointer _,.pointer _] U (Cf [.pointer _,.pointer _] U (Cf [.pointer _,.pointer _] U (D0 [.func (.func 146) #[] #[ptr b2],.func (.func 147) #[] #[ptr b2,ptr b3],.func (.func 149) #[] #[ptr b2,ptr b3],.func (.func 151) #[] #[ptr b2,ptr b3]] Vs Ahk zc_27 H ?_))))))));rintro b11 w - H
 refine Ba Vs U (Af U (qA (A1 (Bt 2089040 (α:=Nat) (fun i=>[(13,.int .i64 (i:Int))]) (fun i w'=>i<=4/\Ctx w0 [] w' [(b11,Bl 27 [.func (.func 146) #[] #[ptr b2],.func (.func 147) #[] #[ptr b2,ptr b3],.func (.func 149) #[] #[ptr b2,ptr b3],.func (.func 151) #[] #[ptr b2,ptr b3]]),(b3,Bl 125 [.slice b fl.length d,.slice p pot.length r]),(b2,Bl 123 [.int .i64 N,.slice a es.length c])]/\∀k,k<i->askN N es fl pot k=true) (fun i=>4 - i) 0 U ?_ ?_ ?_))))
 .exact⟨rfl,trivial⟩
 .exact⟨qaj _,H,fun k h=>absurd h (qa7 _)⟩
 .rintro i j w ⟨hi,H,hb⟩;refine Ad (Bm U U (qA (Ao (An _ U ?_ ?_))))
  .intro h2;replace h2:=AM h2;have KK:ChkK b2 b3 N a b p c d r es fl pot w:=⟨H.get at2,H.get at1,R.ext0 H.ext,Rf.ext0 H.ext,Rp.ext0 H.ext⟩
   obtain⟨f,ca,hfi,hcf,hret⟩:∃f ca,[Value.func (.func 146) #[] #[ptr b2],.func (.func 147) #[] #[ptr b2,ptr b3],.func (.func 149) #[] #[ptr b2,ptr b3],.func (.func 151) #[] #[ptr b2,ptr b3]][i]?=some (.func (.func f) #[] ca)/\Au prog f=true/\Ret prog f ca w (fun v w'=>v=.bool (askN N es fl pot i)/\Ext [] w w'):=by
    have:i=0\/i=1\/i=2\/i=3:=by omega
    rcases this with rfl|rfl|rfl|rfl
    .exact⟨_,_,rfl,qB,Ae5 KK hN⟩
    .exact⟨_,_,rfl,qB,Ae6 KK hN hm2⟩
    .exact⟨_,_,rfl,qB,Ae7 KK hq2⟩
    .exact⟨_,_,rfl,qB,Ae8 KK hN (hb 0 (by omega)) (EX (hb 1 (by omega))).1 (hb 2 (by omega))⟩
   refine Aq (Aa (Ao (A1 (Ad (Bn Vs Ahk U U ?_)))));refine Bc Ag3 U ((by rw[Aj (H.get at0)];simpa using hfi)) ?_;refine CX U (.func _ _ _) U (qA (Ad (CU (.func _ _ _) U ?_)));refine FI (l:=ca.toList) U hcf (by simpa using hret) (by simp) ?_;rintro v w ⟨rfl,hx18⟩;replace H:=H.call hx18;refine BE U (qA (An _ U ?_ ?_))
   .intro h3;replace h3:=B7 h3;refine Ad (Ai U (qA (A7 (AF (Av (Av (AF (Av (AD (v:=(.bool _)) U U U ?_)))))))));exact⟨qaa Value.bool (by rw[Afa (k:=i) (by simpa using h3)]),H.ext⟩
   .intro h3;replace h3:=B9 h3;refine Aq (A8 (Aa (A0 (Az U U ?_))));refine Af U (qA ?_);refine⟨i+1,rfl,⟨rfl,trivial⟩,⟨by omega,H,fun k hk=>?_⟩,by omega⟩
    rcases qap k i with h7|h7
    .exact hb k h7
    .obtain rfl:k=i:=by omega
     simpa using h3
  .intro h2;replace h2:=AN h2;refine Bp (Am (Am (AO (Aa (Ad (Ai U (qA (A7 (AD (v:=(.bool _)) U U U ?_)))))))));exact⟨qaa Value.bool (by rw[Ae9 fun k hk=>hb k (by omega)]),H.ext⟩
abbrev Tg:=Int × Nat
def lt7(x y:Tg):Prop:=x.1<y.1\/(x.1=y.1/\x.2<y.2)
instance (x y:Tg):Decidable (lt7 x y):=by unfold lt7;infer_instance
def le7(x y:Tg):Prop:=x.1<y.1\/(x.1=y.1/\x.2<=y.2)
theorem le7.trans{x y z:Tg}(h:le7 x y)(k:le7 y z):le7 x z:=by unfold le7 at *;omega
theorem lt7.le{x y:Tg}(h:lt7 x y):le7 x y:=by unfold lt7 at h;unfold le7;omega
theorem V1{x y:Tg}(h:¬lt7 y x):le7 x y:=by unfold lt7 at h;unfold le7;omega
def HeapL(L:List Tg):Prop:=∀i x y,0<i->L[i]?=some x->L[(i - 1) / 2]?=some y->le7 y x
def UpI(L:List Tg)(k:Nat):Prop :=
 (∀i x y,0<i->i≠k->L[i]?=some x->L[(i - 1) / 2]?=some y->le7 y x)/\∀c x y,0<k->0<c->(c - 1) / 2=k->L[c]?=some x->L[(k - 1) / 2]?=some y->le7 y x
def DownI(L:List Tg)(k:Nat):Prop :=
 (∀i x y,0<i->(i - 1) / 2≠k->L[i]?=some x->L[(i - 1) / 2]?=some y->le7 y x)/\∀c x y,0<k->0<c->(c - 1) / 2=k->L[c]?=some x->L[(k - 1) / 2]?=some y->le7 y x
theorem Hk{L:List Tg}{k o:Nat}{x y:Tg}(hx:L[k]?=some x)(hy:L[o]?=some y)(i:Nat):((L.set k y).set o x)[i]?=if i=o then some x else if i=k then some y else L[i]? := by
 have h1:k<L.length:=(qbc.1 hx).1;have h2:o<L.length:=(qbc.1 hy).1
 by_cases e:i=o
 .subst e;rw[if_pos rfl,qc1 (by rw[qb6];exact h2)]
 .rw[if_neg e,qbo (Ne.symm e)]
  by_cases e2:i=k
  .subst e2;rw[if_pos rfl,qc1 h1]
  .rw[if_neg e2,qbo (Ne.symm e2)]
theorem UpI.done{L:List Tg}{k:Nat}(h:UpI L k)(h0:∀x y,0<k->L[k]?=some x->L[(k - 1) / 2]?=some y->le7 y x):HeapL L:=fun i x y hi hx hy=>by
 by_cases e:i=k
 .subst e;exact h0 x y hi hx hy
 .exact h.1 i x y hi e hx hy
theorem UpI.step{L:List Tg}{k:Nat}(h:UpI L k){x y:Tg}(hk:0<k)(hx:L[k]?=some x)(hy:L[(k - 1) / 2]?=some y)(hlt:lt7 x y):UpI ((L.set k y).set ((k - 1) / 2) x) ((k - 1) / 2):=by
 obtain⟨o,ho⟩:=qD ((k - 1) / 2);rw[<-ho]at hy |-;have hko:k≠o:=by omega
 refine⟨fun i a b hi hio ha hb=>?_,fun c a b h0 hc hco ha hb=>?_⟩
 .rw[Hk hx hy,if_neg hio]at ha;rw[Hk hx hy]at hb
  by_cases e:i=k
  .subst e;rw[if_pos rfl]at ha;rw[if_pos ho.symm]at hb;cases ha;cases hb;exact hlt.le
  .rw[if_neg e]at ha
   by_cases p1:(i - 1) / 2=o
   .rw[if_pos p1]at hb;cases hb;exact hlt.le.trans (h.1 i a y hi e ha (by rw[p1];exact hy))
   .rw[if_neg p1]at hb
    by_cases p2:(i - 1) / 2=k
    .rw[if_pos p2]at hb;cases hb;exact h.2 i a _ hk hi p2 ha (by rw[<-ho];exact hy)
    .rw[if_neg p2]at hb;exact h.1 i a b hi e ha hb
 .rw[Hk hx hy,if_neg (by omega:c≠o)]at ha;rw[Hk hx hy,if_neg (by omega:(o - 1) / 2≠o),if_neg (by omega:(o - 1) / 2≠k)]at hb;have hz:=h.1 o y b h0 (Ne.symm hko) hy hb
  by_cases e:c=k
  .rw[if_pos e]at ha;cases ha;exact hz
  .rw[if_neg e]at ha;exact hz.trans (h.1 c a y hc e ha (by rw[hco];exact hy))
theorem DownI.none{L:List Tg}{k:Nat}(h:DownI L k)(hn:L.length<=2*k+1):HeapL L:=fun i x y hi hx hy=>by
 have hil:i<L.length:=(qbc.1 hx).1;exact h.1 i x y hi (by omega) hx hy
def V2(L:List Tg)(k o:Nat)(y:Tg):Prop:=(o=2*k+1\/o=2*k+2)/\L[o]?=some y/\∀i z,(i - 1) / 2=k->0<i->L[i]?=some z->le7 y z
theorem DownI.done{L:List Tg}{k o:Nat}{x y:Tg}(h:DownI L k)(hx:L[k]?=some x)(hl:V2 L k o y)(hn:¬lt7 y x):HeapL L:=fun i a b hi ha hb=>by
 by_cases e:(i - 1) / 2=k
 .rw[e,hx]at hb;cases hb;exact(V1 hn).trans (hl.2.2 i a e hi ha)
 .exact h.1 i a b hi e ha hb
theorem DownI.step{L:List Tg}{k o:Nat}{x y:Tg}(h:DownI L k)(hx:L[k]?=some x)(hl:V2 L k o y)(hlt:lt7 y x):DownI ((L.set k y).set o x) o:=by
 obtain⟨ho,hy,hmin⟩:=hl;have hko:k≠o:=by omega
 have hpo:(o - 1) / 2=k:=by omega
 refine⟨fun i a b hi hio ha hb=>?_,fun c a b h0 hc hco ha hb=>?_⟩
 .rw[Hk hx hy,if_neg hio]at hb;rw[Hk hx hy]at ha
  by_cases p:(i - 1) / 2=k
  .rw[if_pos p]at hb;cases hb
   by_cases e:i=o
   .rw[if_pos e]at ha;cases ha;exact hlt.le
   .rw[if_neg e,if_neg (by omega:i≠k)]at ha;exact hmin i a p hi ha
  .rw[if_neg p]at hb;rw[if_neg (by omega:i≠o)]at ha
   by_cases e:i=k
   .rw[if_pos e]at ha;cases ha;subst e;exact h.2 o _ b hi (by omega) hpo hy hb
   .rw[if_neg e]at ha;exact h.1 i a b hi p ha hb
 .rw[Hk hx hy,if_neg (by omega:c≠o),if_neg (by omega:c≠k)]at ha;rw[Hk hx hy,hpo,if_neg hko,if_pos rfl]at hb;cases hb;exact h.1 c a _ hc (by omega) ha (by rw[hco];exact hy)
theorem HeapL.root{L:List Tg}(h:HeapL L){r:Tg}(hr:L[0]?=some r):∀(i:Nat) (x:Tg),L[i]?=some x->le7 r x:=fun i=>by
 induction i using Nat.strongRecOn with
 |_ i ih =>
  intro x hx
  by_cases e:i=0
  .subst e;rw[hr]at hx;cases hx;exact .inr ⟨rfl,qan _⟩
  .have hil:i<L.length:=(qbc.1 hx).1;obtain⟨y,hy⟩:∃y,L[(i - 1) / 2]?=some y:=⟨_,qbz (by omega)⟩;exact(ih _ (by omega) y hy).trans (h i x y (by omega) hx hy)
theorem HeapL.snoc{L:List Tg}(h:HeapL L)(z:Tg):UpI (L++[z]) L.length:=by
 have hg:∀(i:Nat) (x:Tg),i≠L.length->(L++[z])[i]?=some x->L[i]?=some x:=fun i x hi hx=>by
  have hil:i<(L++[z]).length:=(qbc.1 hx).1;rw[qat,qb4]at hil
  rwa [qcb (by omega)]at hx
 refine⟨fun i x y hi hn hx hy=>?_,fun c x y h0 hc hco hx hy=>?_⟩
 .have h1:=hg i x hn hx;have hil:i<L.length:=(qbc.1 h1).1;exact h i x y hi h1 (hg _ y (by omega) hy)
 .have hil:c<(L++[z]).length:=(qbc.1 hx).1;rw[qat,qb4]at hil;omega
theorem HeapL.cut{x z:Tg}{L:List Tg}(h:HeapL (x::L)):DownI (((x::L).set 0 z).take L.length) 0:=by
 have hg:∀(i:Nat) (a:Tg),0<i->(((x::L).set 0 z).take L.length)[i]?=some a->(x::L)[i]?=some a:=fun i a hi ha=>by
  rw[qbv]at ha
  split at ha
  .rwa [qbo (by omega)]at ha
  .cases ha
 exact⟨fun i a b hi hn ha hb=>h i a b hi (hg i a hi ha) (hg _ b (by omega) hb),fun c a b h0=>absurd h0 (Nat.lt_irrefl 0)⟩
theorem EY{α:Type}{enc:α->List Value}{s:Nat}:∀{L:List α},(∀x∈L,(enc x).length=s)->(L.flatMap enc).length=L.length*s
 | [],_=>by simp
 |x::L,h=>by
  rw[qby,qat,h x (qai ..),EY fun y hy=>h y (qah _ hy),qa8,qb8,Nat.one_mul,qc7]
theorem QE{α:Type}{L:List α}{i:Nat}{x:α}(hx:L[i]?=some x)(y:α):L=L.take i++x::L.drop (i+1)/\L.set i y=L.take i++y::L.drop (i+1):=by
 have hi:=C0 hx;have hg:L[i]=x:=by rw[qbz hi]at hx;exact qam hx
 refine⟨?_,?_⟩
 .rw[<-hg,<-qdd hi,qbp]
 .rw[List.set_eq_take_append_cons_drop,if_pos hi]
theorem Aa2{α:Type}{enc:α->List Value}{s:Nat}{L:List α}(hs:∀x∈L,(enc x).length=s){i:Nat}{x y:α}(hx:L[i]?=some x)(hy:(enc y).length=s)(r:List Value):over (L.flatMap enc++r) (i*s) (enc y)=(L.set i y).flatMap enc++r:=by
 obtain⟨h1,h2⟩:=QE hx y;have hi:=C0 hx;have hl:((L.take i).flatMap enc).length=i*s:=by rw[EY fun z hz=>hs z (qdv hz),qbm,qb7 (by omega)]
 rw[h2]
 conv=>lhs;rw[h1]
 rw[qb1,qb1,qby,qby,qaz,qaz,<-hl,Zj _ _ _ _ (by rw[hs x (qac hx),hy])];simp only[qaz]
theorem Afb{α:Type}{enc:α->List Value}{s:Nat}{L:List α}(hs:∀x∈L,(enc x).length=s){i j:Nat}{x y:α}{v:Value}(hx:L[i]?=some x)(hj:j<s)(hy:enc y=(enc x).set j v)(r:List Value):(L.flatMap enc++r).set (i*s+j) v=(L.set i y).flatMap enc++r:=by
 obtain⟨h1,h2⟩:=QE hx y;have hi:=C0 hx;have hl:((L.take i).flatMap enc).length=i*s:=by rw[EY fun z hz=>hs z (qdv hz),qbm,qb7 (by omega)]
 have hxl:=hs x (qac hx);rw[h2]
 conv=>lhs;rw[h1]
 rw[qb1,qb1,qby,qby,qaz,qaz,<-hl,List.set_append_right _ _ (by omega),Nat.add_sub_cancel_left,qaz,qaz,List.set_append_left _ _ (by omega),hy]
theorem OS.over{α:Type}{a:Option Addr}{n c s:Nat}{full:List Value}{enc:α->List Value}{L:List α}(O:OS a n c s full (L.flatMap enc))(hs:∀x,(enc x).length=s){i:Nat}{x:α}(hx:L[i]?=some x)(y:α):OS a n c s (over full (i*s) (enc y)) ((L.set i y).flatMap enc):=by
 refine⟨O.zero,O.none',by rw[DB];exact O.len,O.le,?_⟩;rw[O.split,Aa2 (fun z _=>hs z) hx (hs y)];have h1:=O.llen;rw[EY fun z _=>hs z]at h1;exact qci (by rw[EY fun z _=>hs z,qb6,h1])
theorem Ni{α:Type}{L:List α}{i j:Nat}{x y:α}(hx:L[i]?=some x)(hy:L[j]?=some y):((L.set i y).set j x).Perm L:=by
 obtain⟨hi,rfl⟩:=qbc.1 hx;obtain⟨hj,rfl⟩:=qbc.1 hy;exact List.set_set_perm hi hj
def EZ(x:Int × Nat):List Value:=[.int .i64 x.1,.int .i64 (x.2:Int)]
theorem Jm(x:Int × Nat):∀v∈EZ x,AZ v=true:=fun v hv=>by
 simp only[EZ,qae,qaq,or_false]at hv
 rcases hv with rfl|rfl <;> rfl
theorem Pq(x y:Int × Nat)(w:World):Ret prog 221 #[.agg (EZ x).toArray,.agg (EZ y).toArray] w fun v w'=>v=.bool (decide (lt7 x y))/\Ext [] w w':=by
 obtain⟨w0,rfl,H⟩:=qE w;refine Ay (fn:=f221) func221 U [.agg (EZ x).toArray,.agg (EZ y).toArray] U (Ad (Br (EZ x) (.agg _) U U H ?_));rintro b2 w - H;refine Br (EZ y) (.agg _) U U H ?_;rintro b3 w - H;refine Ai U (qA (Ad (Ah Kq U (AB Bw U H at1 U (Ah Kq U (AB Bw U H at0 U (Bm U U (Aw U (AK 10 U ?_ ?_)))))))))
 .intro h1;replace h1:=AM h1;refine Ag U (Ag U (Ag U (Ag U (Ag U (Ag U (Ag U (Ag U (Ag U (Ag U ?_)))))))));refine Ag U (Ag U (A6 U (.bool _) U (Ai U (qA (A7 (AD (v:=(.bool _)) U U U ?_))))));exact⟨qaa Value.bool (by unfold lt7;rw[qad];simp_all;try omega),H.ext⟩
 .intro h2;replace h2:=AN h2;refine Ah Kq U (AB Bw U H at1 U (Ah Kq U (AB Bw U H at0 U (BP U U (Aw U (AK 16 U ?_ ?_))))))
  .intro h3;replace h3:=AM h3;refine Ah Pf U (AB Cd U H at1 U (Ah Pf U (AB Cd U H at0 U (Bm U U (A6 U (.bool _) U (A9 U (.bool _) U (Ai U (qA (A7 (AD (v:=(.bool _)) U U U ?_))))))))));exact⟨qaa Value.bool (by unfold lt7;rw[qad];simp_all;try omega),H.ext⟩
  .intro h4;replace h4:=AN h4;refine Ag U (Ag U (Ag U (Ag U (Ag U (A9 U (.bool _) U (A9 U (.bool _) U (Ai U (qA (A7 (AD (v:=(.bool _)) U U U ?_))))))))));exact⟨qaa Value.bool (by unfold lt7;rw[qad];simp_all;try omega),H.ext⟩
theorem adr0(q:Nat):(adr (some ⟨q,0,none⟩)).off=0:=rfl
abbrev HB(bh:Nat)(a:Option Addr)(n c:Nat)(full:List Value):List (Nat × Obj):=(bh,Bl 291 [.slice a n c])::ent a 294 full
theorem up_ok{w:World}{bh q n c:Nat}{full:List Value}{L:List (Int × Nat)}(H0:Ctx w [bh,q] w (HB bh (some ⟨q,0,none⟩) n c full))(O:OS (some ⟨q,0,none⟩) n c 2 full (L.flatMap EZ))(k:Nat)(hk:k<n)(hn:n<=1000000000)(hU:UpI L k) :
  Ret prog 220 #[ptr bh,.int .i64 (k:Int)] w fun v w'=>v=.tuple #[]/\∃(L':List (Int × Nat)) (full':List Value),L'.Perm L/\HeapL L'/\OS (some ⟨q,0,none⟩) n c 2 full' (L'.flatMap EZ)/\Ctx w [bh,q] w' (HB bh (some ⟨q,0,none⟩) n c full'):=by
 obtain⟨w0,rfl⟩:=qD w;have H:=H0;refine Ay (fn:=f220) func220 U [.pointer (some ⟨bh,0,none⟩),.int .i64 (k:Int)] U ?_;refine RU (Ao (RS (Aa (A1 (Bt 9007199254740978 (α:=Nat × List (Int × Nat) × List Value) (fun s=>[(1,.int .i64 (s.1:Int))]) (fun s w'=>s.1<n/\s.2.1.Perm L/\UpI s.2.1 s.1/\OS (some ⟨q,0,none⟩) n c 2 s.2.2 (s.2.1.flatMap EZ)/\Ctx w0 [bh,q] w' (HB bh (some ⟨q,0,none⟩) n c s.2.2)) (fun s=>s.1) (k,L,full) U ?_ ?_ ?_)))))
 .exact⟨rfl,trivial⟩
 .exact⟨hk,.refl _,hU,O,H⟩
 .rintro⟨k,L',f'⟩ j w ⟨hk,hp,hU,O,H⟩;dsimp only at hk hp hU O H;dsimp only;have hnum:n=L'.length:=O.numN (fun _ _=>rfl) (by decide);refine Ao (Ad (Af U (CD U U (qA (An _ U ?_ ?_)))))
  .intro h1;replace h1:=AM h1;obtain⟨o,ho⟩:=qD ((k - 1) / 2);obtain⟨x,hxk⟩:=AA (l:=L') (i:=k);obtain⟨y,hyo⟩:=AA (l:=L') (i:=o);have Rk:=O.rd (w:=w.drew) (t:=294) (fun y hy=>H.drew.blk y (qah _ hy)) (fun _ _=>rfl) (by decide);refine Aq (Aa (A1 (Ad (Af U (Bu U U ?_)))));refine Kd U U (show _<=(9223372036854775807:Int)by omega) ?_;rw[show((k:Int) - 1) / 2=(o:Int)by omega];refine Ae U (qA (Ao (Ec 14 Bq U U ?_)));refine B6 U (Bb U (A5 CA U (Cc DC U (by rintro _ rfl;exact H.drew) at0 U ?_)));refine AX U (BH Rk D3 CR U U (by omega) ?_);refine G4 _ Ie CR U U (by rintro _ rfl;exact(Rk.row hxk rfl)) ?_;refine B6 U (Bb U (A5 CA U (Cc DC U (by rintro _ rfl;exact H.drew) at0 U ?_)))
   refine AX U (BH Rk D3 CR U U (by omega) ?_);refine G4 _ Ie CR U U (by rintro _ rfl;exact(Rk.row hyo rfl)) ?_;refine BT ?_;replace H:=H.drew;refine Al qB (Pq x y _) U ?_;rintro v w ⟨rfl,hx24⟩;replace H:=H.call hx24;refine BE U (qA (An _ U ?_ ?_))
   .intro h2;replace h2:=B7 h2;refine Bp (Am (F3 U (Am (AO (Mb (CO U U ?_))))));have hnl:¬lt7 x y:=by simpa using h2
    exact⟨rfl,L',f',hp,hU.done fun a b _ ha hb=>by
     rw[hxk]at ha;rw[<-ho,hyo]at hb;cases ha;cases hb
     exact V1 hnl,O,H⟩
   .intro h2;replace h2:=B9 h2;obtain⟨w7,rfl⟩:=qD w;have R7:=O.rd (w:=w7.drew) (t:=294) (fun y hy=>H.drew.blk y (qah _ hy)) (fun _ _=>rfl) (by decide);have hol:=O.len;have hole:=O.le;refine Aq (Aa (Cq [([0,1,2,3,4,5,6,7,8,9,10,11,12,13,14,15,16,17,18,19,20,21,22,23,24],25),([26],27)] (fun z=>z=World.drew w7) [25,27] Bq (rfl) ?_));refine AH U U (BF U (Bg U (Ap CA U (Lo DC U (by rintro _ rfl;exact H.drew) at0 U ?_))));refine Bd U (BF U (Bg U (Ap CA U (Lo DC U (by rintro _ rfl;exact H.drew) at0 U ?_))));refine Bd U (BF U (Bg U (Ap CA U (Lo DC U (by rintro _ rfl;exact H.drew) at0 U ?_))));refine Bd U (DI R7 D3 CR U U ?_);refine Gh _ Ie CR U U (fun _ hx=>(by subst hx;exact R7.row hyo rfl)) ?_
    refine BF U (Bg U (Ap CA U (Lo DC U (by rintro _ rfl;exact H.drew) at0 U ?_)));refine Bd U (DI R7 D3 CR U U ?_);refine Gh _ Ie CR U U (fun _ hx=>(by subst hx;exact R7.row hxk rfl)) ?_;refine DI R7 D3 CR U U (AR ?_);replace H:=H.drew;refine HG (vs:=EZ y) U CR U U U (Jm y) H at1 (by show 0+(k:Int).toNat*2+2<=_;omega) ?_;rintro w H;refine Ab (B5 U (AH U U ?_));refine DI R7 D3 CR U U (AR (HG (vs:=EZ x) U CR U U U (Jm x) H at1 (by rw[DB];show 0+(o:Int).toNat*2+2<=_;omega) ?_));rintro w H;refine Ab (B5 U (BG (A0 (Af U (Ae U (Ab (A8 (Aa ?_))))))));have hne:k≠o:=by omega
    refine⟨(o,(L'.set k y).set o x,over (over f' (k*2) (EZ y)) (o*2) (EZ x)),rfl,⟨rfl,trivial⟩,⟨by dsimp only;omega,(Ni hxk hyo).trans hp,by dsimp only;rw[ho];exact hU.step (by omega) hxk (by rw[<-ho];exact hyo) (by simpa using h2),OS.over (OS.over O (fun _=>rfl) hxk y) (fun _=>rfl) (by rw[qbo hne];exact hyo) x,?_⟩,by dsimp only;omega⟩;simp only[adr0,qbe,qa4]at H;exact H
  .intro h1;replace h1:=AN h1;refine Bp (Am (Am (AO (Mb (CO U U ?_)))));exact⟨rfl,L',f',hp,hU.done fun a b h0=>absurd h0 (by omega),O,H⟩
theorem Afc{w:World}{bh q n c:Nat}{full:List Value}{L:List (Int × Nat)}(H0:Ctx w [bh,q] w (HB bh (some ⟨q,0,none⟩) n c full))(O:OS (some ⟨q,0,none⟩) n c 2 full (L.flatMap EZ))(hD:DownI L 0)(hn:n<=1000000000:=by omega):
  Ret prog 215 #[ptr bh,.int .i64 0] w fun v w'=>v=.tuple #[]/\∃(L':List (Int × Nat)) (full':List Value),L'.Perm L/\HeapL L'/\OS (some ⟨q,0,none⟩) n c 2 full' (L'.flatMap EZ)/\Ctx w [bh,q] w' (HB bh (some ⟨q,0,none⟩) n c full'):=by
 obtain⟨w0,rfl⟩:=qD w;have H:=H0;refine Ay (fn:=f215) func215 U [.pointer (some ⟨bh,0,none⟩),.int .i64 0] U ?_;refine RU (Ao (RS (Aa (A1 (Bt 77371252455336267181195250 (α:=Nat × List (Int × Nat) × List Value) (fun s=>[(1,.int .i64 (s.1:Int))]) (fun s w'=>s.1<=n/\s.2.1.Perm L/\DownI s.2.1 s.1/\OS (some ⟨q,0,none⟩) n c 2 s.2.2 (s.2.1.flatMap EZ)/\Ctx w0 [bh,q] w' (HB bh (some ⟨q,0,none⟩) n c s.2.2)) (fun s=>n - s.1) (0,L,full) U ?_ ?_ ?_)))))
 .exact⟨rfl,trivial⟩
 .exact⟨qaj _,.refl _,hD,O,H⟩
 .rintro⟨k,L',f'⟩ j w ⟨hk,hp,hD,O,H⟩;dsimp only at hk hp hD O H;dsimp only;have hnum:n=L'.length:=O.numN (fun _ _=>rfl) (by decide);have hol:=O.len;have hole:=O.le;obtain⟨m,hm⟩:=qD (2*k+1);refine A1 (Ad (Af U (DL U U ?_)));refine Az U U ?_;rw[show(2*(k:Int)+1)=(m:Int)by omega];refine Ae U (qA (Ao (Ad (Af U (Ax U (AE U (Ah CA U (AB DC U H at0 U (Ba D3 U ?_)))))))));refine CG U U (qA (An _ U ?_ ?_))
  .intro h1;replace h1:=AM h1;refine Bp (Am (F3 U (Am (AO (Mb (CO U U ?_))))));exact⟨rfl,L',f',hp,hD.none (by omega),O,H⟩
  .intro h1;replace h1:=AN h1;obtain⟨x,hxm⟩:=AA (l:=L') (i:=m);refine Aq (Aa (Ao (DQ 2199023222784 (α:=Bool) (fun z=>[(40,.bool z)]) (fun z w'=>(z=true->∃y,L'[m+1]?=some y/\lt7 y x)/\(z=false->∀y,L'[m+1]?=some y->¬lt7 y x)/\Ctx w0 [bh,q] w' (HB bh (some ⟨q,0,none⟩) n c f')) U ?_ ?_)))
   .skip
    have Rk:=O.rd (w:=w.drew) (t:=294) (fun y hy=>H.drew.blk y (qah _ hy)) (fun _ _=>rfl) (by decide)
    obtain⟨y,hy7⟩:∃y,m+1<n->L'[m+1]?=some y:=by
     by_cases h:m+1<n
     .obtain⟨y,hy⟩:=AA (l:=L') (i:=m+1);exact⟨y,fun _=>hy⟩
     .exact⟨x,fun h'=>absurd h' h⟩
    refine FX 24 Bq U U (AX U (Dn U U ?_));refine B6 U (Bb U (A5 CA U (Cc DC U (by rintro _ rfl;exact H.drew) at0 U ?_)));refine Agy U D3 U (Ln U U (CZ U (D6 23 U ?_ ?_)))
    .intro h2;replace h2:=AM h2;refine B6 U (Bb U (A5 CA U (Cc DC U (by rintro _ rfl;exact H.drew) at0 U ?_)));refine AX U (Dn U U ?_);refine BH Rk D3 CR U U (by omega) ?_;refine G4 _ Ie CR U U (by rintro _ rfl;exact(Rk.row (hy7 (by omega)) rfl)) ?_;refine B6 U (Bb U (A5 CA U (Cc DC U (by rintro _ rfl;exact H.drew) at0 U ?_)));refine AX U (BH Rk D3 CR U U (by omega) ?_);refine G4 _ Ie CR U U (by rintro _ rfl;exact(Rk.row hxm rfl)) ?_;refine BT ?_;replace H:=H.drew;refine Al qB (Pq y x _) U ?_;rintro v w ⟨rfl,hx39⟩;replace H:=H.call hx39;refine A6 U (.bool _) U (qA ?_)
     exact⟨decide (lt7 y x),rfl,⟨rfl,trivial⟩,fun h=>⟨y,hy7 (by omega),qba h⟩,fun h z hz=>by
      rw[hy7 (by omega)]at hz;cases hz
      exact qbh h,H⟩
    .intro h2;replace h2:=AN h2;refine A3 U (A3 U (A3 U (A3 U (A3 U (A3 U (A3 U (A3 U (A3 U (A3 U ?_)))))))));refine A3 U (A3 U (A3 U (A3 U (A3 U (BT ?_)))));replace H:=H.drew;refine Ag U (A9 U (.bool _) U (qA ?_));exact⟨false,rfl,⟨rfl,trivial⟩,(fun h=>by cases h),(fun _ z hz=>by have:=C0 hz;omega),H⟩
   .rintro z j2 w ⟨hzt,hzf,H⟩;refine FS 6597069766672 (α:=Nat) (fun z=>[(4,.int .i64 (z:Int))]) (fun z w'=>(∃y,V2 L' k z y)/\Ctx w0 [bh,q] w' (HB bh (some ⟨q,0,none⟩) n c f')) U ?_ ?_
    .skip
     refine An _ U ?_ ?_
     .intro h2;obtain⟨y,hy,hlt⟩:=hzt h2;have hz':=C0 hy;refine A0 (Af U (Az U U ?_));refine Ae U (qA ?_);refine⟨m+1,rfl,⟨rfl,trivial⟩,⟨y,.inr (by omega),hy,fun i a hi h0 ha=>?_⟩,H⟩;have:i=m\/i=m+1:=by omega
      rcases this with rfl|rfl
      .rw[hxm]at ha;cases ha;exact hlt.le
      .rw[hy]at ha;cases ha;exact .inr ⟨rfl,qan _⟩
     .intro h2;refine Aq (Aa ?_);refine⟨m,rfl,⟨rfl,trivial⟩,⟨x,.inl (by omega),hxm,fun i a hi h0 ha=>?_⟩,H⟩;have:i=m\/i=m+1:=by omega
      rcases this with rfl|rfl
      .rw[hxm]at ha;cases ha;exact .inr ⟨rfl,qan _⟩
      .exact V1 (hzf h2 a ha)
    .rintro o j3 w ⟨⟨y,hl2⟩,H⟩;obtain⟨x,hxk⟩:=AA (l:=L') (i:=k);have hyo:=hl2.2.1;have hon:=C0 hyo;have hko:k<o:=by have:=hl2.1;omega
     have Rk:=O.rd (w:=w.drew) (t:=294) (fun y hy=>H.drew.blk y (qah _ hy)) (fun _ _=>rfl) (by decide);refine Ao (Ec 14 Bq U U ?_);refine B6 U (Bb U (A5 CA U (Cc DC U (by rintro _ rfl;exact H.drew) at0 U ?_)));refine AX U (BH Rk D3 CR U U (by omega) ?_);refine G4 _ Ie CR U U (by rintro _ rfl;exact(Rk.row hyo rfl)) ?_;refine B6 U (Bb U (A5 CA U (Cc DC U (by rintro _ rfl;exact H.drew) at0 U ?_)));refine AX U (BH Rk D3 CR U U (by omega) ?_);refine G4 _ Ie CR U U (by rintro _ rfl;exact(Rk.row hxk rfl)) ?_;refine BT ?_;replace H:=H.drew;refine Al qB (Pq y x _) U ?_;rintro v w ⟨rfl,hx57⟩;replace H:=H.call hx57;refine BE U (qA (An _ U ?_ ?_))
     .intro h2;replace h2:=B7 h2;refine Bp (Am (F3 U (Am (AO (Mb (CO U U ?_))))));exact⟨rfl,L',f',hp,hD.done hxk hl2 (by simpa using h2),O,H⟩
     .intro h2;replace h2:=B9 h2;obtain⟨w7,rfl⟩:=qD w;have R7:=O.rd (w:=w7.drew) (t:=294) (fun y hy=>H.drew.blk y (qah _ hy)) (fun _ _=>rfl) (by decide);refine Aq (Aa (Cq [([0,1,2,3,4,5,6,7,8,9,10,11,12,13,14,15,16,17,18,19,20,21,22,23,24],25),([26],27)] (fun z=>z=World.drew w7) [25,27] Bq (rfl) ?_));refine AH U U (BF U (Bg U (Ap CA U (Lo DC U (by rintro _ rfl;exact H.drew) at0 U ?_))));refine Bd U (BF U (Bg U (Ap CA U (Lo DC U (by rintro _ rfl;exact H.drew) at0 U ?_))));refine Bd U (BF U (Bg U (Ap CA U (Lo DC U (by rintro _ rfl;exact H.drew) at0 U ?_))));refine Bd U (DI R7 D3 CR U U ?_);refine Gh _ Ie CR U U (fun _ hx=>(by subst hx;exact R7.row hyo rfl)) ?_;refine BF U (Bg U (Ap CA U (Lo DC U (by rintro _ rfl;exact H.drew) at0 U ?_)))
      refine Bd U (DI R7 D3 CR U U ?_);refine Gh _ Ie CR U U (fun _ hx=>(by subst hx;exact R7.row hxk rfl)) ?_;refine DI R7 D3 CR U U (AR ?_);replace H:=H.drew;refine HG (vs:=EZ y) U CR U U U (Jm y) H at1 (by show 0+(k:Int).toNat*2+2<=_;omega) ?_;rintro w H;refine Ab (B5 U (AH U U ?_));refine DI R7 D3 CR U U (AR (HG (vs:=EZ x) U CR U U U (Jm x) H at1 (by rw[DB];show 0+(o:Int).toNat*2+2<=_;omega) ?_));rintro w H;refine Ab (B5 U (BG (A0 (Af U (Ae U (Ab (A8 (Aa ?_))))))));have hne:k≠o:=by omega
      refine⟨(o,(L'.set k y).set o x,over (over f' (k*2) (EZ y)) (o*2) (EZ x)),rfl,⟨rfl,trivial⟩,⟨by dsimp only;omega,(Ni hxk hyo).trans hp,hD.step hxk hl2 (by simpa using h2),OS.over (OS.over O (fun _=>rfl) hxk y) (fun _=>rfl) (by rw[qbo hne];exact hyo) x,?_⟩,by dsimp only;omega⟩;simp only[adr0,qbe,qa4]at H;exact H
theorem Afd(w:World):Ret prog 194 #[] w fun v w'=>∃b,v=ptr b/\w.heap.size<=b/\w'.heap[b]?=some (Bl 291 [.slice none 0 0])/\Ext [] w w':=by
 obtain⟨w0,rfl,H⟩:=qE w;refine Ay (fn:=f194) func194 U [] U (Ad (B1 U (qA (Ad (Bx [.slice none 0 0] Akl Aku ?_)))));refine Br [.slice none 0 0] (.agg _) U U H ?_;rintro b2 w - H;refine B1 U (qA (A7 (AD (v:=(.pointer _)) U U U ?_)));exact⟨b2,rfl,(H.own _ (qai ..)).elim (fun h=>by cases h) id,H.get at0,H.ext⟩
theorem Afe{w:World}{bh:Nat}{a:Option Addr}{n c:Nat}(hb:w.heap[bh]?=some (Bl 291 [.slice a n c])):Ret prog 196 #[ptr bh] w fun v w'=>v=.int .i64 (n:Int)/\w=w':=by
 obtain⟨w0,rfl⟩:=qD w;refine Ay (fn:=f196) func196 U [.pointer (some ⟨bh,0,none⟩)] U ?_;refine Ad (Ae U (qA (Ao (Ad (Ax U (Cu Vu U ?_))))));refine qA (An _ U ?_ ?_)
 .intro h1;cases h1
 .intro h1;refine Aq (Aa (Ad (Ax U (AE U (Ah CA U (Bc DC U ((by rw[Aj hb];rfl)) ?_))))));refine Ba D3 U (Ae U (qA (A7 (AD (v:=(.int _ _)) U U U ?_))));exact⟨rfl,rfl⟩
theorem Aff{w:World}{bh:Nat}{a:Option Addr}{n c:Nat}{x:Int × Nat}{L:List (Int × Nat)}(hb:w.heap[bh]?=some (Bl 291 [.slice a n c]))(R:Rd w a 2 EZ (x::L))(hn:n=L.length+1):Ret prog 214 #[ptr bh] w fun v w'=>v=.tuple #[.int .i64 x.1,.int .i64 (x.2:Int),.int .i64 0]/\Ext [] w w':=by
 obtain⟨w0,rfl,H⟩:=qE w;have hbd:w0.drew.heap[bh]?=some (Bl 291 [.slice a n c]):=hb;have Rd':=R.ext0 (Ext.drew [] w0);refine Ay (fn:=f214) func214 U [.pointer (some ⟨bh,0,none⟩)] U ?_;refine Ad (Ae U (Ae U (Ae U (qA (Ao (A1 (Ad (Ax U (Cu Vu U ?_)))))))));refine Ai U (qA (An _ U ?_ ?_))
 .intro h1;cases h1
 .intro h1;refine Ad (Ax U (AE U (Ah CA U (Bc DC U ((by rw[Aj hb];rfl)) ?_))));refine Ba D3 U (BP U U (Ai U (qA (An _ U ?_ ?_))))
  .intro h2;replace h2:=AM h2;omega
  .intro h2;replace h2:=AN h2;refine Aq (A8 (Aa (Dw (fun x=>x=_) Bq U ?_)));refine B6 U (Bb U (A5 CA U (BX DC U (by rintro _ rfl;exact((by rw[Aj hbd];rfl))) ?_)));refine BH Rd' D3 CR U U (by omega) ?_;refine A5 Kq U (BX Bw U (by rintro _ rfl;exact((Rd'.fld (i:=0) rfl rfl (j:=0) rfl))) ?_);refine B6 U (Bb U (A5 CA U (BX DC U (by rintro _ rfl;exact((by rw[Aj hbd];rfl))) ?_)));refine BH Rd' D3 CR U U (by omega) ?_;refine A5 Pf U (BX Cd U (by rintro _ rfl;exact((Rd'.fld (i:=0) rfl rfl (j:=1) rfl))) ?_);refine Dp U (Dp U (Dp U (BT ?_)));rintro _ rfl;replace H:=H.drew;refine A7 (MR (v1:=(.int _ _)) (v2:=(.int _ _)) (v3:=(.int _ _)) U U U U U ?_);exact⟨rfl,H.ext⟩
theorem W4{w:World}{bh n c:Nat}{a:Option Addr}{full:List Value}{L:List (Int × Nat)}(H0:Ctx w ((HB bh a n c full).map (·.1)) w (HB bh a n c full))(O:OS a n c 2 full (L.flatMap EZ))(hH:HeapL L)(key:Int)(item:Nat)(hn:n<=100000000:=by omega):
  Ret prog 213 #[ptr bh,.int .i64 key,.int .i64 (item:Int)] w fun v w'=>v=.int .i64 0/\∃(a':Option Addr) (c':Nat) (full':List Value) (L':List (Int × Nat)),L'.Perm ((key,item)::L)/\HeapL L'/\OS a' (n+1) c' 2 full' (L'.flatMap EZ)/\Ctx w ((HB bh a n c full).map (·.1)) w' (HB bh a' (n+1) c' full'):=by
 obtain⟨w0,rfl⟩:=qD w;have H:=H0;refine Ay (fn:=f213) func213 U [.pointer (some ⟨bh,0,none⟩),.int .i64 key,.int .i64 (item:Int)] U ?_;refine Ad (Ae U (qA (Ao (Ad (Ax U (Cu Vu U ?_))))));refine qA (An _ U ?_ ?_)
 .intro h1;cases h1
 .intro h1;refine Aq (Aa (Ad (Ax U (Ax U (AE U (Ah CA U (AB DC U H at0 U (Af U (Af U (Bx (EZ (key,item)) Akm Vv ?_))))))))));refine Cs (EZ (key,item)) (.agg _) D3 CR Vv U U U U H ?_;rintro b17 w - H;refine CI (L:=[(bh,_)]) D3 D3 CR Aic Vv U U U H O U (Jm _) ?_;rintro a18 c18 f18 w H O18;have O8:OS a18 (n+1) c18 2 f18 ((L++[(key,item)]).flatMap EZ):=by rw[qb1];simpa using O18
  refine AE U (Ah CA U (Ct (.slice _ _ _) Aai U U U H at0 (by(simp;done)) ?_));rintro w H;refine qA (Ad (Ax U (Ax U (AE U (Ah CA U (AB DC U H at0 U (Ba D3 U (Bu U U ?_))))))));rw[show(((n+1:Nat):Int) - 1)=(n:Int)by omega];obtain⟨q,rfl⟩:=O8.form (by omega);refine Al qB (up_ok (Ctx.lend (L2:=[]) H.app_nil) O8 n (by omega) (by omega) (by have hnum:n=L.length:=O.numN (fun _ _=>rfl) (by decide);rw[hnum];exact hH.snoc _)) U ?_;rintro v w ⟨rfl,L',f',hp,hH',O',H'⟩;replace H:=(Ctx.back (L2:=[]) H.app_nil H').nil_app;refine qA (Ad (Ae U (qA (A7 (AD (v:=(.int _ _)) U U U ?_)))));exact⟨rfl,some ⟨q,0,none⟩,c18,f',L',hp.trans (qem _ _),hH',O',H⟩
theorem OS.short{α:Type}{a:Option Addr}{n c s:Nat}{full:List Value}{enc:α->List Value}{L:List α}(O:OS a n c s full (L.flatMap enc))(hs:∀x,(enc x).length=s){m:Nat}(hm:m<=n):OS a m c s full ((L.take m).flatMap enc):=by
 refine⟨O.zero,O.none',O.len,qa0 hm O.le,?_⟩;have h1:=O.pre;have h2:full.take (m*s)=(full.take (n*s)).take (m*s):=by rw[List.take_take,qb7 (qch _ hm)]
 have hl:=O.llen;rw[EY fun z _=>hs z]at hl;rw[h2,h1]
 conv=>lhs;rw[<-qbp m L,qb1]
 by_cases h0:s=0
 .subst h0;have hz:∀M:List α,M.flatMap enc=[]:=fun M=>qbt (by rw[EY fun z _=>hs z];rfl);rw[hz,hz];simp
 .have hL:n=L.length:=Nat.eq_of_mul_eq_mul_right (by omega) hl.symm;exact qci (by rw[EY fun z _=>hs z,qbm,qb7 (by omega)])
theorem Aa3{α:Type}{x z:α}{L:List α}(hz:(x::L)[L.length]?=some z):(((x::L).set 0 z).take L.length).Perm L:=by
 rcases List.eq_nil_or_concat L with rfl|⟨M,y,rfl⟩
 .simp
 .have:z=y:=by
   rw[List.concat_eq_append,qat,qb4,List.getElem?_cons_succ,qcf (qan _),qdw]at hz
   simpa using hz.symm
  subst this;rw[List.concat_eq_append,List.set_cons_zero,qat,qb4,List.take_succ_cons,qci rfl];exact(qem _ _).symm
theorem Aky{w:World}{bh q n c:Nat}{full:List Value}{x:Int × Nat}{L:List (Int × Nat)}(H0:Ctx w [bh,q] w (HB bh (some ⟨q,0,none⟩) n c full))(O:OS (some ⟨q,0,none⟩) n c 2 full ((x::L).flatMap EZ))(hH:HeapL (x::L))(hn:n<=100000000:=by omega):
  Ret prog 197 #[ptr bh] w fun v w'=>v=.tuple #[.int .i64 x.1,.int .i64 (x.2:Int),.int .i64 0]/\∃(full':List Value) (L':List (Int × Nat)),L'.Perm L/\HeapL L'/\OS (some ⟨q,0,none⟩) L.length c 2 full' (L'.flatMap EZ)/\Ctx w [bh,q] w' (HB bh (some ⟨q,0,none⟩) L.length c full'):=by
 obtain⟨w0,rfl⟩:=qD w;have H:=H0;have hnum:n=L.length+1:=O.numN (fun _ _=>rfl) (by decide);subst hnum;have hol:=O.len;have hole:=O.le;refine Ay (fn:=f197) func197 U [.pointer (some ⟨bh,0,none⟩)] U ?_;refine Ad (Ae U (Ae U (Ae U (qA (Ad (Ax U (Al qB (Aff (H.get at0) (O.rd (t:=294) (fun y hy=>H.blk y (qah _ hy)) (fun _ _=>rfl) (by decide)) U) U ?_)))))));rintro v w ⟨rfl,hx8⟩;replace H:=H.call hx8;refine Cb U (AJ U U (AJ U U (AJ U U (Ae U (Ae U (Ae U (qA (Ao (Ad ?_)))))))));refine Af U (BP U U (qA (An _ U ?_ ?_)))
 .intro h1;replace h1:=AM h1;obtain⟨z,hz⟩:=AA (l:=x::L) (i:=L.length) (h:=by simp);refine Ad (Ax U (AE U (Ah CA U (AB DC U H at0 U (Ba D3 U (Bu U U ?_))))));rw[show(((L.length+1:Nat):Int) - 1)=(L.length:Int)by omega];refine Ae U (qA ?_);obtain⟨w7,rfl⟩:=qD w;have R7:=O.rd (w:=w7.drew) (t:=294) (fun y hy=>H.drew.blk y (qah _ hy)) (fun _ _=>rfl) (by decide);have O9:=OS.short (OS.over O (fun _=>rfl) (i:=0) (x:=x) rfl z) (fun _=>rfl) (m:=L.length) (by omega);refine Cq [([0,1,2,3,4,5,6,7,8,9,10,11],12)] (fun z=>z=World.drew w7) [12] Bq (rfl) (AH U U ?_);refine BF U (Bg U (Ap CA U (Lo DC U (by rintro _ rfl;exact H.drew) at0 U ?_)));refine BF U (Bg U (Ap CA U (Lo DC U (by rintro _ rfl;exact H.drew) at0 U ?_)));refine Bd U (DI R7 D3 CR U U (hn:=by rfl) ?_)
  refine Gh _ Ie CR U U (fun _ hx=>(by subst hx;exact R7.row hz rfl)) ?_;refine DI R7 D3 CR U U (hn:=by rfl) (AR ?_);replace H:=H.drew;refine HG (vs:=EZ z) U CR U U U (Jm z) H at1 (by show 0+(0:Int).toNat*2+2<=_;rw[hol];omega) ?_;rintro w H;rw[adr0,show(0:Nat)+(0:Int).toNat*2=0*2 from rfl]at H;refine Ab (B5 U (BG (Ad (Ax U (Ax U (AE U (Ah CA U (AB DC U H at0 U (Af U (Ke U D3 CR U U ?_))))))))));refine AE U (Ah CA U (Ct (.slice _ _ _) Aai U U U H at0 (by(simp;done)) ?_));rintro w H;refine qA (A0 (Ax U (Al qB (Afc (Ctx.lend (L2:=[]) H.app_nil) O9 hH.cut) U ?_)));rintro v w ⟨rfl,L',f',hp,hH',O',H'⟩;replace H:=(Ctx.back (L2:=[]) H.app_nil H').nil_app
  refine qA (Ad (Af U (Af U (Af U (Ae U (Ae U (Ae U (qA (A7 (MR (v1:=(.int _ _)) (v2:=(.int _ _)) (v3:=(.int _ _)) U U U U U ?_))))))))));exact⟨rfl,f',L',hp.trans (Aa3 hz),hH',O',H⟩
 .intro h1;replace h1:=AN h1;exact absurd U h1
theorem K3{P:Program}{e:Env}{w:World}{fn:Func}{R:Value->World->Prop}{a:Tmp}{t:TypeId}{p:Addr}(hr:fn.results=#[.cell a t])(ha:e.g a=.pointer (some p))(h:Marks e.ds w fun w'=>∃v,(loadVar t p).run P w'=.ok v w'/\R v w'):Tp P fn R .ret e w :=
 Marks.mono (fun w ⟨v,hv,h⟩ tmps ht=>by
  have h1:=(ht a).trans ha;rw[qa2]at h1
  exact⟨v,by simp[results,hr,h1,asAddr,hv],h⟩) h
def Hl(g:Gr)(p:Nat->Int)(k:Nat):List Value:=[.int .i64 (k:Int),.int .i64 (g.u k:Int),.int .i64 (g.v k:Int),.int .i64 (g.len p k)]
theorem Pr(g:Gr)(p:Nat->Int)(k:Nat):∀v∈Hl g p k,AZ v=true:=fun v hv=>by
 simp only[Hl,qae,qaq,or_false]at hv
 rcases hv with rfl|rfl|rfl|rfl <;> rfl
def EG(cap x:Nat->Int)(k:Nat):List Nat:=(List.range (2*k)).filter fun a=>decide (0<CB cap x a)
def Lu(g:Gr)(p:Nat->Int)(l:List Nat):List (List Value):=l.map fun a=>[.agg (Hl g p a).toArray]
theorem QF(cap x:Nat->Int)(k:Nat):EG cap x (k+1)=EG cap x k++((if 0<CB cap x (2*k)then[2*k]else[])++if 0<CB cap x (2*k+1)then[2*k+1]else[]):=by
 unfold EG;rw[show 2*(k+1)=2*k+1+1 by omega,qdz,qdz,qaz,qcc]
 congr 1
 rw[qcc]
 congr 1
 .by_cases h:0<CB cap x (2*k)
  .rw[if_pos h,qbr,qar h];rfl
  .rw[if_neg h,qbr,qbb h];rfl
 .by_cases h:0<CB cap x (2*k+1)
  .rw[if_pos h,qbr,qar h];rfl
  .rw[if_neg h,qbr,qbb h];rfl
theorem TL(cap x:Nat->Int):∀{m k:Nat},k<=m->∃r,EG cap x m=EG cap x k++r
 |0,k,h=>⟨[],by rw[show k=0 by omega,qa3]⟩
 |m+1,k,h=>by
  rcases qap k (m+1)with h1|h1
  .obtain⟨r,hr⟩:=TL (m:=m) (k:=k) cap x (by omega);exact⟨_,by rw[QF,hr,qaz]⟩
  .exact⟨[],by rw[show k=m+1 by omega,qa3]⟩
theorem W5{g:Gr}{p cap x:Nat->Int}{m k:Nat}{l r:List Nat}{a:Nat}(h:EG cap x (k+1)=l++a::r)(hk:k<m:=by omega):(Lu g p (EG cap x m))[l.length]?=some [.agg (Hl g p a).toArray]:=by
 obtain⟨s,hs⟩:=TL cap x (m:=m) (k:=k+1) (by omega);unfold Lu;rw[hs,h,qa1,qaz,qcf (qan _),qdw];rfl
def EQ(pot:List Int)(i:Nat):Int:=pot.getD i 0
structure EAt(N:Int)(es:List Ed)(fl pot:List Int)(i:Nat)(e:Ed)(xx pu pv:Int)(un vn:Nat):Prop where
 he:es[i]?=some e
 hx:fl[i]?=some xx
 hpu:pot[un]?=some pu
 hpv:pot[vn]?=some pv
 f:e.f=(un:Int)
 t:e.t=(vn:Int)
 un':un<N.toNat
 vn':vn<N.toNat
 gf:(grE N es).f i=un
 gt:(grE N es).t i=vn
 co:(grE N es).co i=e.cost
 cap:Ck es i=e.cap
 fx:flE fl i=xx
 xb:0<=xx/\xx<=e.cap/\e.cap<=4503599627370496
 cb : -1000<=e.cost/\e.cost<=1000
 ub : -1099511627776<=pu/\pu<=1099511627776
 vb : -1099511627776<=pv/\pv<=1099511627776
 pu':EQ pot un=pu
 pv':EQ pot vn=pv
theorem eat{N:Int}{es:List Ed}{fl pot:List Int}(hw:Cn N es fl=true)(hp:G2 N pot=true){i:Nat}(hi:i<es.length:=by omega):∃e xx pu pv un vn,EAt N es fl pot i e xx pu pv un vn:=by
 obtain⟨hl,hr,hin⟩:=Cx hw;obtain⟨hpl,hpb⟩:=LI hp;obtain⟨e,he⟩:=AA (l:=es) (i:=i) (h:=hi);obtain⟨xx,hx⟩:=AA (l:=fl) (i:=i);have hco:=EP ((CM hr).2.2.2.1 e (qac he));have hxx:=hin i e xx he hx;obtain⟨un,hun⟩:∃un:Nat,e.f=un:=⟨e.f.toNat,by omega⟩;obtain⟨vn,hvn⟩:∃vn:Nat,e.t=vn:=⟨e.t.toNat,by omega⟩;obtain⟨pu,hpu⟩:=AA (l:=pot) (i:=un);obtain⟨pv,hpv⟩:=AA (l:=pot) (i:=vn);refine⟨e,xx,pu,pv,un,vn,he,hx,hpu,hpv,hun,hvn,by omega,by omega,?_,?_,?_,?_,Bs hx,by omega,by omega,hpb _ _ hpu,hpb _ _ hpv,Bs hpu,Bs hpv⟩
 .show(es.getD i e0).f.toNat=un;rw[Bs he,hun];rfl
 .show(es.getD i e0).t.toNat=vn;rw[Bs he,hvn];rfl
 .show(es.getD i e0).cost=e.cost;rw[Bs he]
 .show(es.getD i e0).cap=e.cap;rw[Bs he]
theorem Rd.rowE{α:Type}{enc:α->List Value}{w:World}{a:Option Addr}{s:Nat}{xs:List α}(R:Rd w a s enc xs){i:Nat}{x:α}(hx:xs[i]?=some x){l:List Value}(he:enc x=l)(hs:l.length=s):∀j v,l[j]?=some v->w.cell? ⟨(adr a).block,(adr a).off+i*s+j,none⟩=some v:=by
 subst he;exact R.row hx hs
section
variable {N:Int}{es:List Ed}{fl pot:List Int}{i:Nat}{e:Ed}{xx pu pv:Int}{un vn:Nat}
theorem EAt.enc(h:EAt N es fl pot i e xx pu pv un vn):CJ e=[.int .i64 (un:Int),.int .i64 (vn:Int),.int .i64 e.cap,.int .i64 e.cost]:=by
 unfold CJ;rw[h.f,h.t]
theorem EAt.fwd(h:EAt N es fl pot i e xx pu pv un vn):Hl (grE N es) (EQ pot) (2*i)=[.int .i64 ((2*i:Nat):Int),.int .i64 (un:Int),.int .i64 (vn:Int),.int .i64 (e.cost+pu - pv)]:=by
 unfold Hl Gr.len Gr.u Gr.v Gr.c;rw[show 2*i % 2=0 by omega,show 2*i / 2=i by omega];simp only[if_true];rw[h.gf,h.gt,h.co,h.pu',h.pv']
theorem EAt.bwd(h:EAt N es fl pot i e xx pu pv un vn):Hl (grE N es) (EQ pot) (2*i+1)=[.int .i64 ((2*i+1:Nat):Int),.int .i64 (vn:Int),.int .i64 (un:Int),.int .i64 (-(e.cost+pu - pv))]:=by
 unfold Hl Gr.len Gr.u Gr.v Gr.c;rw[show(2*i+1) % 2=1 by omega,show(2*i+1) / 2=i by omega];simp only[if_false,Nat.one_ne_zero];rw[h.gf,h.gt,h.co,h.pu',h.pv',show -e.cost+pv - pu = -(e.cost+pu - pv)by omega]
theorem EAt.room0(h:EAt N es fl pot i e xx pu pv un vn):CB (Ck es) (flE fl) (2*i)=e.cap - xx:=by
 unfold CB;rw[show 2*i % 2=0 by omega,show 2*i / 2=i by omega,if_pos rfl,h.cap,h.fx]
theorem EAt.room1(h:EAt N es fl pot i e xx pu pv un vn):CB (Ck es) (flE fl) (2*i+1)=xx:=by
 unfold CB;rw[show(2*i+1) % 2=1 by omega,show(2*i+1) / 2=i by omega,if_neg (by omega),h.fx]
end
theorem W6(N:Int)(a b p:Option Addr)(n c m d q r:Nat)(w:World):Ret prog 193 #[DV N a n c,.slice b m d,.slice p q r] w fun v w'=>∃b1 b2 b3,v=.func (.func 212) #[] #[ptr b1,ptr b2,ptr b3]/\w'.heap[b1]?=some (Bl 123 [.int .i64 N,.slice a n c])/\w'.heap[b2]?=some (Bl 31 [.slice p q r])/\w'.heap[b3]?=some (Bl 31 [.slice b m d])/\w.heap.size<=b1/\w.heap.size<=b2/\w.heap.size<=b3/\Ext [] w w':=by
 obtain⟨w0,rfl,H⟩:=qE w;refine Ay (fn:=f193) func193 U [DV N a n c,.slice b m d,.slice p q r] U (Ad (Br [.int .i64 N,.slice a n c] (.agg _) U U H ?_));rintro b3 w - H;refine Br _ (.slice _ _ _) U U H ?_;rintro b4 w - H;refine Br _ (.slice _ _ _) U U H ?_;rintro b5 w - H;refine CX U .nilFunc U (qA (Ad (Cf [.pointer _,.pointer _,.pointer _] U (CX U (.func _ _ _) U ?_))));refine qA (A7 (AD (v:=(.func _ _ _)) U U U ?_));have ho:∀x∈[(b5,Bl 31 [.slice p q r]),(b4,Bl 31 [.slice b m d]),(b3,Bl 123 [.int .i64 N,.slice a n c])],w0.heap.size<=x.1:=fun x hx=>(H.own x hx).elim (fun h=>by cases h) id;exact⟨b3,b5,b4,rfl,H.get at2,H.get at0,H.get at1,ho (b3,_) (qac (i:=2) U),ho (b5,_) (qac (i:=0) U),ho (b4,_) (qac (i:=1) U),H.ext⟩
structure ArcK(b1 b2 b3:Nat)(N:Int)(a b p:Option Addr)(c d r:Nat)(es:List Ed)(fl pot:List Int)(M:Mt)(w:World):Prop where
 h1:w.heap[b1]?=some (Bl 123 [.int .i64 N,.slice a es.length c])
 h2:w.heap[b2]?=some (Bl 31 [.slice p pot.length r])
 h3:w.heap[b3]?=some (Bl 31 [.slice b fl.length d])
 R:Rd w a 4 CJ es
 Rf:Rd w b 1 I1 fl
 Rp:Rd w p 1 I1 pot
theorem TM{b1 b2 b3:Nat}{N:Int}{a b p:Option Addr}{c d r:Nat}{es:List Ed}{fl pot:List Int}(hw:Cn N es fl=true)(hp:G2 N pot=true) :
  RZ prog 212 #[ptr b1,ptr b2,ptr b3] [] (ArcK b1 b2 b3 N a b p c d r es fl pot) (Lu (grE N es) (EQ pot) (EG (Ck es) (flE fl) es.length)):=by
 intro l w J E hJ0 hJs hEs hK hY;obtain⟨M0,hJ0⟩:=hJ0;obtain⟨hl,hri,-⟩:=Cx hw;obtain⟨hN1,hN40,hn200,-⟩:=CM hri;obtain⟨hpl,-⟩:=LI hp;obtain⟨w0,rfl⟩:=qD w;refine Ay (fn:=f212) func212 U [.func (.yield l) #[] #[],.pointer (some ⟨b1,0,none⟩),.pointer (some ⟨b2,0,none⟩),.pointer (some ⟨b3,0,none⟩)] U ?_;have K0:=(hK _ _ _ hJ0).2;refine Ad (Ah CE U (Bc D7 U ((by rw[Aj K0.h1];rfl)) ?_));refine Ba C8 U (Af U (qA (A1 (Bt 2361183241434822605024 (α:=Nat) (fun i=>[(11,.int .i64 (i:Int))]) (fun i w'=>i<=es.length/\∃M,J (EG (Ck es) (flE fl) i).length M w') (fun i=>es.length - i) 0 U ?_ ?_ ?_))))
 .exact⟨rfl,trivial⟩
 .exact⟨qaj _,M0,hJ0⟩
 .rintro i j w ⟨hi,M,hJ⟩;refine Ad (Bm U U (qA (Ao (An _ U ?_ ?_))))
  .intro h1;replace h1:=AM h1;obtain⟨e,xx,pu,pv,un,vn,A⟩:=eat (i:=i) hw hp;obtain⟨he,hfx,hpu,hpv,hf,ht,hun,hvn,-,-,-,-,-,hxb,hcb,hub,hvb,-,-⟩:=id A;have hrs:=QF (Ck es) (flE fl) i;rw[A.room0,A.room1]at hrs;obtain⟨w1,rfl⟩:=qD w;have KR:∀{z},Ext [] w1 z->ArcK b1 b2 b3 N a b p c d r es fl pot M z:=fun hz=>(hK _ _ _ (hJs _ _ _ _ hJ hz)).2;have R:=(KR (.refl _ _)).R;have Rf:=(KR (.refl _ _)).Rf;have Rp:=(KR (.refl _ _)).Rp;have H:=Ctx.start w1 [];refine Aq (Aa (Ao (A1 (Ad (Af U (Be R C8 C9 U U (by rfl) ?_))))));refine BQ _ GD C9 U U (Rd.rowE (KR H.ext).R he A.enc U) (AU FZ H ?_);rintro b6 w - H;refine Ae U (Bj C9 U U U (by simp[AZ]) H at0 U ?_);rintro w H;refine qA (Dw (fun x=>x=_) Bq U ?_);refine A5 Gx U (Cc Bw U (by rintro _ rfl;exact H.drew) at0 U ?_)
   refine BX BN U (by rintro _ rfl;exact((by rw[Aj (KR H.drew.ext).h2];rfl))) ?_;refine A5 Fv U (Cc Cd U (by rintro _ rfl;exact H.drew) at0 U ?_);refine BH Rp AV B2 U U (by rfl) ?_;refine BX Bw U (by rintro _ rfl;exact(((KR H.drew.ext).Rp.fld hpu rfl (j:=0) rfl))) ?_;refine Dn U U ?_;refine BX BN U (by rintro _ rfl;exact((by rw[Aj (KR H.drew.ext).h2];rfl))) ?_;refine A5 Fw U (Cc Cd U (by rintro _ rfl;exact H.drew) at0 U ?_);refine BH Rp AV B2 U U (by rfl) ?_;refine BX Bw U (by rintro _ rfl;exact(((KR H.drew.ext).Rp.fld hpv rfl (j:=0) rfl))) ?_;refine DY U U (Dp U (BT ?_));rintro _ rfl;replace H:=H.drew;refine Ao ?_;obtain⟨len,hlen⟩:=qD (e.cost+pu - pv);rw[<-hlen];have hf7:=A.fwd;have hb7:=A.bwd;rw[<-hlen]at hf7 hb7
   have hb6:=(H.own _ (qai ..)).elim (fun h=>by cases h) id;have hM:=(hK _ _ _ hJ).1;have hn6:¬M b6:=fun h=>by have:=hM _ h;omega
   have hk6:=H.drew.get at0;have hJ6:=hJs _ _ _ _ hJ H.drew.ext;refine DQ 1125898833100800 (α:=Bool) (fun z=>[(49,.bool z)]) (fun z w'=>(z=true->E w')/\(z=false->w'.heap[b6]?=some (Bl 158 [.int .i64 (un:Int),.int .i64 (vn:Int),.int .i64 e.cap,.int .i64 e.cost])/\∃M',¬M' b6/\J (EG (Ck es) (flE fl) i++(if 0<e.cap - xx then[2*i]else[])).length M' w')) U ?_ ?_
   .skip
    refine FX 17 Bq U U ?_;refine BX BN U (by rintro _ rfl;exact((by rw[Aj (KR H.drew.ext).h3];rfl))) ?_;refine AX U (BH Rf AV B2 U U (by rfl) ?_);refine BX Bw U (by rintro _ rfl;exact(((KR H.drew.ext).Rf.fld hfx rfl (j:=0) rfl))) ?_;refine A5 E3 U (Cc Bw U (by rintro _ rfl;exact H.drew) at0 U ?_);refine Ln U U (CZ U (D6 37 U ?_ ?_))
    .intro h2;replace h2:=AM h2;refine MV U (.func _ _ _) U (AX U (Xz U U U ?_));refine A5 Fv U (Cc Cd U (by rintro _ rfl;exact H.drew) at0 U ?_);refine A5 Fw U (Cc Cd U (by rintro _ rfl;exact H.drew) at0 U ?_);refine AX U (Zl (Hl (grE N es) (EQ pot) (2*i)) U Aae Kt (by rw[hf7];kernel_rfl) ?_);refine BT ?_;replace H:=H.drew;refine Hb (vs:=[.agg (Hl (grE N es) (EQ pot) (2*i)).toArray]) U (hY _ _ M _ (W5 (l:=EG (Ck es) (flE fl) i) (k:=i) (by rw[hrs,if_pos (by omega)];rfl)) hJ6) U ?_;rintro u w hu
     obtain⟨bb,rfl,hu1,hu0⟩:∃bb,u=.bool bb/\(bb=true->w.heap[b6]?=some (Bl 158 [.int .i64 (un:Int),.int .i64 (vn:Int),.int .i64 e.cap,.int .i64 e.cost])/\∃M',¬M' b6/\J ((EG (Ck es) (flE fl) i).length+1) M' w)/\(bb=false->E w):=hu.elim (fun h=>⟨true,h.1,fun _=>let ⟨M',h1,g⟩:=h.2;⟨g.to hk6 hn6,M',g.not (AY hk6) hn6,h1⟩,fun h=>by cases h⟩) (fun h=>⟨false,h.1,(fun h=>by cases h),fun _=>h.2⟩);refine BE U (A6 U (.bool _) U (qA ?_));exact⟨!bb,rfl,⟨rfl,trivial⟩,fun h=>hu0 (by simpa using h),fun h=>by rw[if_pos (by omega),qat];exact hu1 (by simpa using h)⟩
    .intro h2;replace h2:=AN h2;refine A3 U (A3 U (A3 U (A3 U (A3 U (A3 U (A3 U (A3 U (A3 U (BT ?_)))))))));replace H:=H.drew;refine Ag U (Ag U (A9 U (.bool _) U (qA ?_)));exact⟨false,rfl,⟨rfl,trivial⟩,(fun h=>by cases h),fun _=>⟨hk6,M,hn6,by rw[if_neg (by omega),qa3];exact hJ6⟩⟩
   .rintro z j2 w ⟨hz1,hz0⟩;refine An _ U ?_ ?_
    .intro h2;refine A7 (Av (AF (Av (Av (AF (FW U U ?_))))));exact .inr (hz1 h2)
    .intro h2;obtain⟨hk7,M7,hn7,hJ7⟩:=hz0 h2;obtain⟨w7,rfl⟩:=qD w;have K7:=(hK _ _ _ hJ7).2;have H:=Ctx.start w7 [];refine Aq (Aa (Ad (Bc BN U ((by rw[Aj K7.h3];rfl)) ?_)));refine Af U (Be Rf AV B2 U U (by rfl) ?_);refine Bc Bw U ((K7.Rf.fld hfx U (j:=0) U)) ?_;refine CD U U (Aw U (AK 55 U ?_ ?_))
     .intro h3;replace h3:=AM h3;have hat:=W5 (g:=grE N es) (p:=EQ pot) (cap:=Ck es) (x:=flE fl) (m:=es.length) (l:=EG (Ck es) (flE fl) i++(if 0<e.cap - xx then[2*i]else[])) (k:=i) (a:=2*i+1) (r:=[]) (by rw[hrs,if_pos h3,qaz]);refine CU (.func _ _ _) U (Af U (DL U U ?_));refine Az U U (Ah Fw U (Bc Cd U ((by rw[Aj hk7];rfl)) ?_));refine Ah Fv U (Bc Cd U ((by rw[Aj hk7];rfl)) ?_);refine Af U (L6 U U ?_);refine Bx (Hl (grE N es) (EQ pot) (2*i+1)) Aae Kt (hl:=by rw[hb7];kernel_rfl) ?_;refine Hb (vs:=[.agg (Hl (grE N es) (EQ pot) (2*i+1)).toArray]) U (hY _ _ M7 _ hat hJ7) U ?_;rintro u w hu
      obtain⟨bb,rfl,hu1,hu0⟩:∃bb,u=.bool bb/\(bb=true->∃M',J ((EG (Ck es) (flE fl) i++(if 0<e.cap - xx then[2*i]else[])).length+1) M' w)/\(bb=false->E w):=hu.elim (fun h=>⟨true,h.1,fun _=>let ⟨M',h1,_⟩:=h.2;⟨M',h1⟩,fun h=>by cases h⟩) (fun h=>⟨false,h.1,(fun h=>by cases h),fun _=>h.2⟩);refine BE U (A6 U (.bool _) U (qA (An _ U ?_ ?_)))
      .intro h4;replace h4:=B7 h4;refine A7 (AF (Av (Av (AF (FW U U ?_)))));exact .inr (hu0 (by simpa using h4))
      .intro h4;replace h4:=B9 h4;refine Aq (A8 (Aa (A0 (Az U U ?_))));refine Af U (qA ?_);refine⟨i+1,rfl,⟨rfl,trivial⟩,⟨by omega,?_⟩,by omega⟩;rw[hrs,if_pos h3,<-qaz,qat];exact hu1 (by simpa using h4)
     .intro h3;replace h3:=AN h3;refine Ag U (Ag U (Ag U (Ag U (Ag U (Ag U (Ag U (Ag U (Ag U (Ag U ?_)))))))));refine Ag U (Ag U (Ag U (A9 U (.bool _) U (qA (F2 U (Aq (A8 (Aa (A0 (Az U U ?_))))))))));refine Af U (qA ?_);refine⟨i+1,rfl,⟨rfl,trivial⟩,⟨by omega,M7,?_⟩,by omega⟩;rw[hrs,if_neg h3,qa3];exact hJ7
  .intro h1;replace h1:=AN h1;refine Bp (Am (Am (AO (CO U U ?_))));obtain rfl:i=es.length:=by omega
   exact .inl ⟨M,by unfold Lu;rw[qak];exact hJ⟩
def arcB(g:Gr)(p:Nat->Int)(a:Nat):Bool:=decide (0<=g.len p a)
def IG(N:Int)(es:List Ed)(fl pot:List Int):Bool:=Cn N es fl && (G2 N pot && (EG (Ck es) (flE fl) es.length).all (arcB (grE N es) (EQ pot)))
theorem Afg(N:Int)(a b p:Option Addr)(n c m d q r:Nat)(es:List Ed)(fl pot:List Int)(w:World)(R:Rd w a 4 CJ es)(hn:es.length=n)(hN:I64 N)(Rf:Rd w b 1 I1 fl)(hm:fl.length=m)(hm2:m<=9223372036854775000)(Rp:Rd w p 1 I1 pot)(hq:pot.length=q)(hq2:q<=9223372036854775000) :
  Ret prog 192 #[DV N a n c,.slice b m d,.slice p q r] w fun v w'=>v=.bool (IG N es fl pot)/\Ext [] w w':=by
 subst hn hm hq;obtain⟨w0,rfl,H⟩:=qE w;refine HU (fn:=f192) func192 U [DV N a es.length c,.slice b fl.length d,.slice p pot.length r] U (Ad (Br [.int .i64 N,.slice a es.length c] (.agg _) U U H ?_));rintro b3 w - H;refine AU zc_4 H ?_;rintro b6 w - H;refine qA (Ao (Ad (Cj C7 Cp U H at1 U (A2 U (Al qB (KY N a b es.length c fl.length d es fl _ (R.ext0 H.ext) U hN (Rf.ext0 H.ext) U hm2) U ?_)))));rintro v w ⟨rfl,hx12⟩;replace H:=H.call hx12;refine BE U (Aw U (AK 14 U ?_ ?_))
 .intro h1;replace h1:=B7 h1;refine Ag U (Ag U (Ag U (Ag U (Ag U (A6 U (.bool _) U (qA (DH U (Ad (Ct (.bool _) XI U U U H at0 (by decide) ?_)))))))));rintro w H;refine qA (A7 (Av (K3 U U ?_)));have h1':Cn N es fl=false:=by simpa using h1
  exact⟨_,Gg Kl (by rw[Aj (H.get at0)];rfl),qaa Value.bool (by unfold IG;rw[h1'];rfl),H.ext⟩
 .intro h1;replace h1:=B9 h1;have h1':Cn N es fl=true:=by simpa using h1
  refine A2 U (Ba AV U (Ah Eg U (AB Cd U H at1 U (Cv U U (A9 U (.bool _) U (qA (An _ U ?_ ?_)))))))
  .intro h2;replace h2:=Cy h2;refine Ad (Ct (.bool _) XI U U U H at0 (by decide) ?_);rintro w H;refine qA (A7 (Av (K3 U U ?_)));have h2':G2 N pot=false:=by unfold G2;rw[qbb h2,qdi]
   exact⟨_,Gg Kl (by rw[Aj (H.get at0)];rfl),qaa Value.bool (by unfold IG;rw[h2',qdy,qdi]),H.ext⟩
  .intro h2;replace h2:=Cz h2;have hpl:(pot.length:Int)=N:=by simpa using h2
   refine Aq (Aa (Ao (Ad (A2 U (Ba AV U (Af U (qA (A1 (Bt 17171480832 (α:=Nat) (fun i=>[(23,.int .i64 (i:Int))]) (fun i w'=>i<=pot.length/\Ctx w0 [] w' [(b6,Bl 4 [.bool false]),(b3,Bl 123 [.int .i64 N,.slice a es.length c])]/\∀(k:Nat) (x:Int),k<i->pot[k]?=some x->NJ x=true) (fun i=>pot.length - i) 0 U ?_ ?_ ?_)))))))))
   .exact⟨rfl,trivial⟩
   .exact⟨qaj _,H,fun k x h=>absurd h (qa7 _)⟩
   .rintro i j w ⟨hi,H,hb⟩;refine Ad (Bm U U (qA (Ao (An _ U ?_ ?_))))
    .intro h3;replace h3:=AM h3;obtain⟨x,h7x⟩:=AA (l:=pot) (i:=i);refine Aq (Aa (Ao (A1 (Ad (Be Rp AV B2 U U (by rfl) ?_)))));refine Bc Bw U (((Rp.ext0 H.ext).fld h7x U (j:=0) U)) ?_;refine Ae U (qA (Ad (BV (α:=Unit) 8455716864 (fun _=>[(32,.bool (!NJ x))]) (fun _ w'=>Ctx w0 [] w' [(b6,Bl 4 [.bool false]),(b3,Bl 123 [.int .i64 N,.slice a es.length c])]) U ?_ ?_)))
     .refine Af U (Bm U U (Aw U (AK 29 U ?_ ?_)))
      .intro h1;replace h1:=AM h1;refine Ag U (Ag U (A6 U (.bool _) U (Ab ?_)));exact⟨rfl,(),rfl,⟨qaa Value.bool (by unfold NJ;rw[qad];simp_all;try omega),trivial⟩,H⟩
      .intro h2;replace h2:=AN h2;refine Af U (CD U U (A9 U (.bool _) U (Ab ?_)));exact⟨rfl,(),rfl,⟨qaa Value.bool (by unfold NJ;rw[qad];simp_all;try omega),trivial⟩,H⟩
     rintro - j32 w H;refine An _ U ?_ ?_
     .intro h4;replace h4:=B7 h4;refine Ad (Ct (.bool _) XI U U U H at0 (by decide) ?_);rintro w H;refine qA (A7 (AF (Av (Av (AF (Av (K3 U U ?_)))))));have h2':G2 N pot=false:=by unfold G2;rw[Ew h7x (by simpa using h4),qdy]
      exact⟨_,Gg Kl (by rw[Aj (H.get at0)];rfl),qaa Value.bool (by unfold IG;rw[h2',qdy,qdi]),H.ext⟩
     .intro h4;replace h4:=B9 h4;refine Aq (A8 (Aa (A0 (Az U U ?_))));refine Af U (qA ?_);refine⟨i+1,rfl,⟨rfl,trivial⟩,⟨by omega,H,fun k y hk hy=>?_⟩,by omega⟩
      rcases qap k i with h7|h7
      .exact hb k y h7 hy
      .obtain rfl:k=i:=by omega
       rw[h7x]at hy;cases hy
       simpa using h4
    .intro h3;replace h3:=AN h3
     have hp:G2 N pot=true:=by
      unfold G2;rw[Fx fun k x hk hx=>hb k x (by omega) hx,qar hpl];rfl
     obtain⟨hl,hri,-⟩:=Cx h1';obtain⟨hN1,hN40,hn200,-⟩:=CM hri;have hfN:IG N es fl pot=(EG (Ck es) (flE fl) es.length).all (arcB (grE N es) (EQ pot)):=by unfold IG;rw[h1',hp];rfl
     refine Bp (Am (Am (AO (Aa (Ao (Ad (Cj C7 Cp U H at1 U (A2 U (A2 U ?_)))))))));have hlt:=H.lt (k:=0) rfl;have hlt1:=H.lt (k:=1) rfl;refine Al qB (W6 N a b p es.length c fl.length d pot.length r _) U ?_;rintro v w ⟨x1,x2,x3,rfl,hb1,hb2,hb3,hs1,hs2,hs3,hx37⟩;have hbb:=(H.call hx37);have hx7:=H.ext.trans hx37;have hs07:=H.size;refine qA (A1 ?_);obtain⟨ws,rfl⟩:=qD w;have hk6:=hbb.lt (k:=0) rfl;have hk1:=AY hb1;have hk2:=AY hb2;have hk3:=AY hb3;have hk66:=hbb.get at0;have hs0:=hbb.size;have h60:w0.heap.size<=b6:=(hbb.own _ (qai ..)).elim (fun h=>by cases h) id
     refine NT (gf:=212) U qB (TM (b1:=x1) (b2:=x2) (b3:=x3) (a:=a) (b:=b) (p:=p) (c:=c) (d:=d) (r:=r) h1' hp) (by kernel_rfl) (by kernel_rfl) (fun v hv=>by obtain⟨p,-,rfl⟩:=qag.1 hv;rfl)
      (fun i M w'=>(M=fun _=>False)/\Ext [] w0 w'/\w'.heap[b6]?=some (Bl 4 [.bool false])/\w'.heap[x1]?=some (Bl 123 [.int .i64 N,.slice a es.length c])/\w'.heap[x2]?=some (Bl 31 [.slice p pot.length r])/\w'.heap[x3]?=some (Bl 31 [.slice b fl.length d])/\∀(k:Nat) (y:Nat),k<i->(EG (Ck es) (flE fl) es.length)[k]?=some y->arcB (grE N es) (EQ pot) y=true)
      (fun w'=>Ext [] w0 w'/\w'.heap[b6]?=some (Bl 4 [.bool false])/\(EG (Ck es) (flE fl) es.length).all (arcB (grE N es) (EQ pot))=false) (by simp)
      (fun w2 hx2 _=>⟨_,rfl,hx7.trans hx2,hx2.to hk66 (by simp),hx2.to hb1 (by simp),hx2.to hb2 (by simp),hx2.to hb3 (by simp),fun k y h=>absurd h (qa7 _)⟩)
      (fun i M w' w'' hJ hx=>⟨hJ.1,hJ.2.1.then hx (fun z hz => .inr (by simp only[qae,qaq,or_false]at hz;omega)),hx.to hJ.2.2.1 (by simp;omega),hx.to hJ.2.2.2.1 (by simp;omega),hx.to hJ.2.2.2.2.1 (by simp;omega),hx.to hJ.2.2.2.2.2.1 (by simp;omega),hJ.2.2.2.2.2.2⟩)
      (fun w' w'' hE hx=>⟨hE.1.then hx (fun z hz => .inr (by simp only[qae,qaq,or_false]at hz;omega)),hx.to hE.2.1 (by simp;omega),hE.2.2⟩)
      (fun i M w' hJ=>⟨fun y hy=>by rw[hJ.1]at hy;exact hy.elim,hJ.2.2.2.1,hJ.2.2.2.2.1,hJ.2.2.2.2.2.1,R.ext0 hJ.2.1,Rf.ext0 hJ.2.1,Rp.ext0 hJ.2.1⟩) ?_ ?_ ?_
     .rintro i v _ w hxv ⟨rfl,hx0,g6,g1,g2,g3,hall⟩ hsz;unfold Lu at hxv;rw[qa1]at hxv;obtain⟨y,hy,rfl⟩:=qc0.1 hxv;obtain⟨w1,rfl,H⟩:=qE w;refine A0 (AU Kt H ?_);rintro b9 w - H;refine Bj Ij U U U (by exact Pr _ _ _) H at0 U ?_;rintro w H;refine Ab ?_;refine⟨H.ext,fun wB hxB=>?_⟩;have hb9:=(H.own _ (qai ..)).elim (fun h=>by cases h) id;have k9:=hxB.to (H.get at0) (by rw[qab];omega);have k6:=hxB.to (H.ext.to g6 (by simp)) (by rw[qab];omega);have k1:=hxB.to (H.ext.to g1 (by simp)) (by rw[qab];omega);have k2:=hxB.to (H.ext.to g2 (by simp)) (by rw[qab];omega);have k3:=hxB.to (H.ext.to g3 (by simp)) (by rw[qab];omega);have hx0B:=(hx0.trans H.ext).then hxB fun z hz => .inr (by rw[qab.1 hz];omega)
      obtain⟨w2,rfl⟩:=qD wB;replace H:=Ctx.start1 k6;have hn9:b9∉[b6]:=by rw[qab];omega
      refine A1 (Ad (Ah Pe U (Bc Bw U ((H.old (Aj k9 _) hn9)) ?_)));refine Bm U U (qA (An _ U ?_ ?_))
      .intro h5;replace h5:=AM h5;refine Ad (Ct (.bool _) XI U U U H at0 (by decide) ?_);rintro w H;refine qA (A7 (AF ?_));exact⟨⟨hx0B.then H.ext fun z hz => .inr (by rw[qab.1 hz];exact h60),H.get at0,Ew hy (qbb (by omega))⟩,_,H.ext,by rw[qab];omega,by rw[qab];omega⟩
      .intro h5;replace h5:=AN h5;refine Aq (A8 ?_);refine⟨_,⟨rfl,hx0B,k6,k1,k2,k3,fun k z hk hz=>?_⟩,fun _ h=>h.elim,[],.refl _ _,fun _ h=>by cases h⟩
       rcases qap k i with h7|h7
       .exact hall k z h7 hz
       .obtain rfl:k=i:=by omega
        rw[hy]at hz;cases hz;exact qar (by omega)
     .rintro M w ⟨-,hx0,g6,-,-,-,hall⟩ hD;have hlen:(Lu (grE N es) (EQ pot) (EG (Ck es) (flE fl) es.length)).length=(EG (Ck es) (flE fl) es.length).length:=by unfold Lu;rw[qak]
      rw[hlen]at hall;replace H:=Ctx.start1 g6;refine A8 (Aa (Ad (Ct (.bool _) XI U U U H at0 (by decide) ?_)));rintro w H;refine qA (A7 (K3 U U (HV (by rw[H.ext.block _ (AY hD) (by rw[qab];omega)];exact hD) U fun wF hxF=>?_)));exact⟨_,Gg Kl (by rw[Aj (hxF.to (H.get at0) (by rw[qab];omega))];rfl),qaa Value.bool (by rw[hfN,Fx fun k x hk hx=>hall k x hk hx]),(hx0.then H.ext fun z hz => .inr (by rw[qab.1 hz];exact h60)).then hxF fun z hz => .inr (by rw[qab.1 hz];omega)⟩
     .rintro w ⟨hx0,g6,hall⟩ hD;refine AF (Av (K3 U U (HV hD U fun wF hxF=>?_)));exact⟨_,Gg Kl (by rw[Aj (hxF.to g6 (by rw[qab];omega))];rfl),qaa Value.bool (by rw[hfN,hall]),hx0.then hxF fun z hz => .inr (by rw[qab.1 hz];omega)⟩
def Jn(A:List Ar)(v:Nat):Int:=((A.filter fun a=>decide (a.1=v)).length:Nat)
def gv(n:Nat)(D:Int)(s:Lb)(hp:List Tg)(v:Nat):Int:=if s.d v ≠ -1/\s.d v<=D then(hp.count (s.d v,v):Nat)+(s.h v:Nat)else(n:Nat)+1
def psi(n:Nat)(A:List Ar)(D:Int)(s:Lb)(hp:List Tg):Int:=(hp.length:Nat)+BC (fun v=>Jn A v*gv n D s hp v) n
structure PI(n:Nat)(D:Int)(s:Lb)(hp:List Tg):Prop where
 keys:∀t∈hp,D<=t.1
 item:∀t∈hp,s.d t.2 ≠ -1/\s.d t.2<=t.1
 lab:∀v,s.d v ≠ -1->hp.count (s.d v,v)+s.h v<=n
theorem Aa4(A:List Ar)(v:Nat):0<=Jn A v:=by unfold Jn;omega
theorem Afh{n:Nat}{D:Int}{s:Lb}{hp hq:List Tg}(h:hp.Perm hq)(v:Nat):gv n D s hp v=gv n D s hq v:=by unfold gv;rw[h.count_eq]
theorem Ps{n:Nat}{A:List Ar}{D:Int}{s:Lb}{hp hq:List Tg}(h:hp.Perm hq):psi n A D s hp=psi n A D s hq:=by
 unfold psi;rw[h.length_eq,C3 fun i _=>by rw[Afh h]]
theorem PI.perm{n:Nat}{D:Int}{s:Lb}{hp hq:List Tg}(P:PI n D s hp)(h:hp.Perm hq):PI n D s hq :=
 ⟨fun t ht=>P.keys t (h.mem_iff.2 ht),fun t ht=>P.item t (h.mem_iff.2 ht),fun v hv=>by rw[<-h.count_eq];exact P.lab v hv⟩
theorem gv0{n:Nat}{D:Int}{s:Lb}{hp:List Tg}(v:Nat):0<=gv n D s hp v:=by unfold gv;split <;> omega
theorem S5{n:Nat}{A:List Ar}{D:Int}{s:Lb}{hp:List Tg}:(hp.length:Int)<=psi n A D s hp:=by
 have:=Ik (f:=fun v=>Jn A v*gv n D s hp v) (k:=n) fun i _=>qdg (Aa4 A i) (gv0 i);unfold psi;omega
theorem PI.pop{n:Nat}{A:List Ar}{D:Int}{s:Lb}{t:Tg}{hp:List Tg}(P:PI n D s (t::hp))(hmin:∀x∈hp,t.1<=x.1)(ht:t.2<n) :
  PI n t.1 s hp/\psi n A t.1 s hp+1<=psi n A D s (t::hp)/\(t.1=s.d t.2->psi n A t.1 s hp+1+Jn A t.2<=psi n A D s (t::hp)):=by
 have hD:=P.keys t (qai ..)
 have hc:∀v,((t::hp).count (s.d v,v):Int)=(hp.count (s.d v,v):Int)+one (t=(s.d v,v)):=fun v=>by
  rw[List.count_cons]
  by_cases e:t=(s.d v,v)
  .rw[if_pos (by rw[e];exact beq_self_eq_true _),one,if_pos e];omega
  .rw[if_neg (by simpa using e),one,if_neg e];omega
 have hone:∀v,0<=one (t=(s.d v,v)):=fun v=>by unfold one;split <;> omega
 have hg:∀v,gv n t.1 s hp v<=gv n D s (t::hp) v/\(t=(s.d v,v)->gv n t.1 s hp v+1<=gv n D s (t::hp) v):=fun v=>by
  have h1:=hc v;have h2:=hone v;have h4:t=(s.d v,v)->one (t=(s.d v,v))=1:=fun e=>if_pos e
  have h5:t=(s.d v,v)->t.1=s.d v/\s.d v ≠ -1:=fun e=>⟨by rw[e],by
   have:=(P.item t (qai ..)).1;rw[show t.2=v by rw[e]]at this
   exact this⟩
  unfold gv
  by_cases a1:s.d v ≠ -1/\s.d v<=t.1
  .have h3:=P.lab v a1.1;rw[if_pos a1]
   by_cases a2:s.d v ≠ -1/\s.d v<=D
   .rw[if_pos a2];refine⟨by omega,fun e=>?_⟩;have:=h4 e;omega
   .rw[if_neg a2];refine⟨by omega,fun e=>?_⟩;have:=h4 e;omega
  .rw[if_neg a1,if_neg (fun h=>a1 ⟨h.1,by omega⟩)];refine⟨qax _,fun e=>?_⟩;have:=h5 e;exact absurd ⟨this.2,by omega⟩ a1
 refine⟨⟨hmin,fun x hx=>P.item x (qah _ hx),fun v hv=>?_⟩,?_,fun e=>?_⟩
 .have h1:=hc v;have h2:=hone v;have h3:=P.lab v hv;omega
 .have h1:=Ku (f:=fun v=>Jn A v*gv n t.1 s hp v) (g:=fun v=>Jn A v*gv n D s (t::hp) v) (k:=n) fun i _=>qdf (hg i).1 (Aa4 A i);unfold psi;rw[qa8];omega
 .have h1:=Ku (f:=fun v=>Jn A v*gv n t.1 s hp v) (g:=fun v=>Jn A v*gv n D s (t::hp) v - one (t.2=v)*Jn A v) (k:=n) fun i _=>by
   by_cases e1:t.2=i
   .subst e1;have h2:=qdf ((hg t.2).2 (Prod.ext e rfl)) (Aa4 A t.2);rw[Int.mul_add]at h2;rw[one,if_pos rfl];omega
   .have h2:=qdf (hg i).1 (Aa4 A i);rw[one,if_neg e1];omega
  rw[KW,HM (fun v=>Jn A v) ht]at h1;unfold psi;rw[qa8];omega
theorem PI.relax{n:Nat}{A:List Ar}{D:Int}{s:Lb}{hp:List Tg}{a:Ar}(P:PI n D s hp)(hs:s.d a.1=D)(hD0:0<=D)(hl:0<=a.2.2)(hlow:∀v,s.d v = -1\/0<=s.d v)(hhop:(Hj s a).d a.2.1 ≠ -1->(Hj s a).h a.2.1+1<=n) :
  PI n D (Hj s a) (IU s a hp)/\psi n A D (Hj s a) (IU s a hp)<=psi n A D s hp+1:=by
 by_cases hb:Ek s a.2.1 (s.d a.1+a.2.2) (s.h a.1+1)
 .have hS:Hj s a=Il s a.2.1 (s.d a.1+a.2.2) (s.h a.1+1):=by unfold Hj;rw[if_pos hb]
  have hH:IU s a hp=(s.d a.1+a.2.2,a.2.1)::hp:=by unfold IU;rw[if_pos hb]
  rw[hS]at hhop;rw[hS,hH];obtain⟨d',hd'⟩:∃d',d'=s.d a.1+a.2.2:=⟨_,rfl⟩;obtain⟨h',hh'⟩:∃h',h'=s.h a.1+1:=⟨_,rfl⟩;obtain⟨v,hv⟩:=qD a.2.1;rw[<-hd',<-hh',<-hv]at hb hhop |-;have hdD:D<=d':=by omega
  have p1:(Il s v d' h').d v=d':=if_pos rfl;have p2:(Il s v d' h').h v=h':=if_pos rfl;have p3:∀x,x≠v->(Il s v d' h').d x=s.d x:=fun x hx=>if_neg hx;have p4:∀x,x≠v->(Il s v d' h').h x=s.h x:=fun x hx=>if_neg hx;have hsD:=hlow a.1;unfold Ek at hb
  have hc1:∀x,x≠v->((d',v)::hp).count (s.d x,x)=hp.count (s.d x,x):=fun x hx=>by
   rw[List.count_cons,if_neg (by simp;intro _ h;exact hx h.symm)];rfl
  have hc2:((d',v)::hp).count (d',v)=hp.count (d',v)+1:=by rw[List.count_cons_self]
  have hc3:s.d v = -1\/d'<s.d v->hp.count (d',v)=0:=fun h=>List.count_eq_zero.2 fun hm=>by
   have:=P.item _ hm;dsimp only at this;omega
  have h0:d' ≠ -1:=by omega
  have hh1:=hhop (by rw[p1];exact h0);rw[p2]at hh1
  have hlabv:((d',v)::hp).count (d',v)+h'<=n:=by
   rw[hc2]
   rcases hb with h|h|⟨h,hlt⟩
   .rw[hc3 (.inl h)];omega
   .rw[hc3 (.inr h)];omega
   .have:=P.lab v (by rw[<-h];exact h0);rw[<-h]at this;omega
  have hgx:∀x,gv n D (Il s v d' h') ((d',v)::hp) x<=gv n D s hp x:=fun x=>by
   unfold gv
   by_cases e:x=v
   .subst e;rw[p1,p2]
    by_cases a1:d' ≠ -1/\d'<=D
    .rw[if_pos a1]
     by_cases a2:s.d x ≠ -1/\s.d x<=D
     .rw[if_pos a2];have e3:d'=s.d x/\h'<s.h x:=by omega
      rw[hc2,<-e3.1];omega
     .rw[if_neg a2];omega
    .rw[if_neg a1];rw[if_neg (fun h=>a1 ⟨h0,by omega⟩)];exact qax _
   .rw[p3 x e,p4 x e,hc1 x e];exact qax _
  refine⟨⟨fun t ht=>?_,fun t ht=>?_,fun x hx=>?_⟩,?_⟩
  .rcases qae.1 ht with rfl|ht
   .exact hdD
   .exact P.keys t ht
  .rcases qae.1 ht with rfl|ht
   .rw[p1];exact⟨h0,qax _⟩
   .obtain⟨i1,i2⟩:=P.item t ht
    by_cases e:t.2=v
    .rw[e,p1];rw[e]at i1 i2;exact⟨h0,by omega⟩
    .rw[p3 _ e];exact⟨i1,i2⟩
  .by_cases e:x=v
   .subst e;rw[p1,p2];exact hlabv
   .rw[p3 x e,p4 x e,hc1 x e];rw[p3 x e]at hx;exact P.lab x hx
  .have h1:=Ku (f:=fun x=>Jn A x*gv n D (Il s v d' h') ((d',v)::hp) x) (g:=fun x=>Jn A x*gv n D s hp x) (k:=n) fun i _=>qdf (hgx i) (Aa4 A i);unfold psi;rw[qa8];omega
 .have hS:Hj s a=s:=by unfold Hj;rw[if_neg hb]
  have hH:IU s a hp=hp:=by unfold IU;rw[if_neg hb]
  rw[hS,hH];exact⟨P,by omega⟩
abbrev FB(oo od oh ob n:Nat):List Value:=[.slice (some ⟨oo,0,none⟩) n n,.slice (some ⟨od,0,none⟩) n n,.slice (some ⟨oh,0,none⟩) n n,.slice (some ⟨ob,0,none⟩) n n]
def Qm(s:Lb)(v:Nat):Int:=(s.h v:Nat)
def JC(g:Gr)(p:Nat->Int)(a:Nat):Ar:=(g.u a,g.v a,g.len p a)
theorem XQ{w:World}{bf oo od oh ob n:Nat}{s:Lb}(hf:w.heap[bf]?=some (Bl 265 (FB oo od oh ob n)))(hd:w.heap[od]?=some (Bl 2 (BZ s.d n)))(hh:w.heap[oh]?=some (Bl 3 (BZ (Qm s) n)))(v:Nat)(hv:v<n)(hn:n<=1000000)(d:Int)(h:Nat) :
  Ret prog 216 #[ptr bf,.int .i64 (v:Int),.int .i64 d,.int .i64 (h:Int)] w fun r w'=>r=.bool (decide (Ek s v d h))/\w=w':=by
 obtain⟨w0,rfl⟩:=qD w;have Rdd:=C4 hd;have Rhh:=C4 hh;have hhv:Qm s v=(s.h v:Nat):=rfl;obtain⟨x,hx⟩:=qD (s.d v);obtain⟨y,hy⟩:=qD (s.h v);have hgd:(tab s.d n)[v]?=some x:=by rw[BW hv,hx]
 have hgh:(tab (Qm s) n)[v]?=some (y:Int):=by rw[BW hv,hhv,hy]
 have hiff:Ek s v d h↔(x = -1\/d<x\/(d=x/\h<y)):=by rw[hx,hy];exact Iff.rfl
 rw[show decide (Ek s v d h)=decide (x = -1\/d<x\/(d=x/\h<y))from decide_eq_decide.2 hiff];clear hiff;refine Ay (fn:=f216) func216 U [.pointer (some ⟨bf,0,none⟩),.int .i64 (v:Int),.int .i64 d,.int .i64 (h:Int)] U ?_;refine Ad (Ai U (qA (Ad (Ax U (AE U (Ah E4 U (Bc BN U ((by rw[Aj hf];rfl)) ?_)))))));refine Af U (Bn AV B2 U U ?_);refine Bc Bw U ((Rdd.fld hgd U (j:=0) U)) (BP U U (Aw U (AK 17 U ?_ ?_)))
 .intro h1;replace h1:=AM h1;refine Ag U (Ag U (Ag U (Ag U (Ag U (Ag U (Ag U (Ag U (Ag U (A6 U (.bool _) U ?_)))))))));refine Aw U (Ag U (Ag U (Ag U (Ag U (Ag U (Ag U (Ag U (Ag U (Ag U ?_)))))))));refine Ag U (Ag U (Ag U (Ag U (Ag U (Ag U (Ag U (Ag U (Ag U (Ag U ?_)))))))));refine Ag U (A6 U (.bool _) U (Ai U (qA (A7 (AD (v:=(.bool _)) U U U ?_)))));exact⟨qaa Value.bool (by clear hgd hgh hx hy;rw[qad];simp_all;try omega),rfl⟩
 .intro h2;replace h2:=AN h2;refine Af U (Ax U (AE U (Ah E4 U (Bc BN U ((by rw[Aj hf];rfl)) ?_))));refine Af U (Bn AV B2 U U ?_);refine Bc Bw U ((Rdd.fld hgd U (j:=0) U)) ?_;refine Bm U U (A9 U (.bool _) U (Aw U (AK 28 U ?_ ?_)))
  .intro h3;replace h3:=AM h3;refine Ag U (Ag U (Ag U (Ag U (Ag U (Ag U (Ag U (Ag U (Ag U (Ag U ?_)))))))));refine Ag U (Ag U (Ag U (Ag U (Ag U (Ag U (Ag U (Ag U (Ag U (Ag U ?_)))))))));refine A6 U (.bool _) U (Ai U (qA (A7 (AD (v:=(.bool _)) U U U ?_))));exact⟨qaa Value.bool (by clear hgd hgh hx hy;rw[qad];simp_all;try omega),rfl⟩
  .intro h4;replace h4:=AN h4;refine Af U (Ax U (AE U (Ah E4 U (Bc BN U ((by rw[Aj hf];rfl)) ?_))));refine Af U (Bn AV B2 U U ?_);refine Bc Bw U ((Rdd.fld hgd U (j:=0) U)) ?_;refine BP U U (Aw U (AK 38 U ?_ ?_))
   .intro h5;replace h5:=AM h5;refine Af U (Ax U (AE U (Ah Ii U (Bc Gu U ((by rw[Aj hf];rfl)) ?_))));refine Af U (Bn Ep Gy U U ?_);refine Bc Cd U ((Rhh.fld hgh U (j:=0) U)) (Bm U U (A6 U (.bool _) U (A9 U (.bool _) U (Ai U (qA (A7 (AD (v:=(.bool _)) U U U ?_)))))));exact⟨qaa Value.bool (by clear hgd hgh hx hy;rw[qad];simp_all;try omega),rfl⟩
   .intro h6;replace h6:=AN h6;refine Ag U (Ag U (Ag U (Ag U (Ag U (Ag U (Ag U (Ag U (Ag U (A9 U (.bool _) U ?_)))))))));refine A9 U (.bool _) U (Ai U (qA (A7 (AD (v:=(.bool _)) U U U ?_))));exact⟨qaa Value.bool (by clear hgd hgh hx hy;rw[qad];simp_all;try omega),rfl⟩
def JD(x:Lb × List Tg)(a:Ar):Lb × List Tg:=(Hj x.1 a,IU x.1 a x.2)
def goP(g:Gr)(p:Nat->Int)(s:Lb)(hp:List Tg)(l:List Nat):Lb × List Tg:=(l.map (JC g p)).foldl JD (s,hp)
theorem Aa5(g:Gr)(p:Nat->Int)(s:Lb)(hp:List Tg){l:List Nat}{i a:Nat}(h:l[i]?=some a):goP g p s hp (l.take (i+1))=JD (goP g p s hp (l.take i)) (JC g p a):=by
 unfold goP;rw[Fc h,qay,qdk];rfl
abbrev GB(od oh n:Nat)(s:Lb)(bh:Nat)(a:Option Addr)(hn c:Nat)(full:List Value):List (Nat × Obj):=(od,Bl 2 (BZ s.d n))::(oh,Bl 3 (BZ (Qm s) n))::HB bh a hn c full
structure GSt where
 i:Nat
 a:Option Addr
 hn:Nat
 c:Nat
 full:List Value
 L:List Tg
theorem Afi{w:World}{bf oo od oh ob n:Nat}{s:Lb}{g:Gr}{p:Nat->Int}{bh:Nat}{a:Option Addr}{hn c:Nat}{full:List Value}{L:List Tg}{La:List Nat}{au:Option Addr}{cu u:Nat}{outs:List Value}(H0:Ctx w ((GB od oh n s bh a hn c full).map (·.1)) w (GB od oh n s bh a hn c full))(O:OS a hn c 2 full (L.flatMap EZ))(hH:HeapL L)(hf:w.heap[bf]?=some (Bl 265 (FB oo od oh ob n)))(hfn:bf∉(GB od oh n s bh a hn c full).map (·.1))(ho:w.heap[oo]?=some (Bl 271 outs))(hon:oo∉(GB od oh n s bh a hn c full).map (·.1))(hou:outs[u]?=some (.slice au La.length cu))(hun:u<n)(R:Rd w au 4 (Hl g p) La)(hRn:La≠[]->(adr au).block∉(GB od oh n s bh a hn c full).map (·.1))(hLa:∀x∈La,g.u x=u/\g.v x<n /\ -1152921504606846976<=g.len p x/\g.len p x<=1152921504606846976)(hhn:hn+La.length<=100000000)(hbd:∀k x,k<=La.length -> -1<=(goP g p s L (La.take k)).1.d x/\(goP g p s L (La.take k)).1.d x<=1152921504606846976/\(goP g p s L (La.take k)).1.h x<=1000000)(hn6:n<=1000000:=by omega):
  Ret prog 198 #[ptr bf,ptr bh,.int .i64 (u:Int)] w fun v w'=>v=.tuple #[]/\∃(a':Option Addr) (hn' c':Nat) (full':List Value) (L':List Tg),L'.Perm (goP g p s L La).2/\HeapL L'/\OS a' hn' c' 2 full' (L'.flatMap EZ)/\Ctx w ((GB od oh n s bh a hn c full).map (·.1)) w' (GB od oh n (goP g p s L La).1 bh a' hn' c' full'):=by
 obtain⟨w0,rfl⟩:=qD w;obtain⟨ids,hids⟩:=qD ((GB od oh n s bh a hn c full).map (·.1));rw[<-hids]at H0 hfn hon hRn |-;have H:=H0;refine Ay (fn:=f198) func198 U [.pointer (some ⟨bf,0,none⟩),.pointer (some ⟨bh,0,none⟩),.int .i64 (u:Int)] U ?_;refine Ad (Ax U (AE U (Ah Mq U (Bc Sc U ((by rw[Aj hf];rfl)) ?_))));refine Af U (Bn Nf Nh U U ?_);refine Bc Vf U ((by rw[Aj ho];simpa using hou)) ?_;refine Ba LC U (Af U (qA (A1 (Bt 9444732965739290296704 (α:=GSt) (fun t=>[(17,.int .i64 (t.i:Int))]) (fun t w'=>t.i<=La.length/\t.L.Perm (goP g p s L (La.take t.i)).2/\HeapL t.L/\t.hn<=hn+t.i/\OS t.a t.hn t.c 2 t.full (t.L.flatMap EZ)/\Ctx w0 ids w' (GB od oh n (goP g p s L (La.take t.i)).1 bh t.a t.hn t.c t.full)) (fun t=>La.length - t.i) ⟨0,a,hn,c,full,L⟩ U ?_ ?_ ?_))))
 .exact⟨rfl,trivial⟩
 .exact⟨qaj _,.refl _,hH,qan _,O,H⟩
 .rintro⟨i,a,hk,c,full,L'⟩ j w ⟨hi,hp,hH,hkn,O,H⟩;dsimp only at hi hp hH hkn O H;dsimp only;obtain⟨si,hsi⟩:=qD ((goP g p s L (La.take i)).1);obtain⟨hi2,hhi2⟩:=qD ((goP g p s L (La.take i)).2);have hgi:goP g p s L (La.take i)=(si,hi2):=by rw[hsi,hhi2]
  rw[<-hsi]at H;rw[<-hhi2]at hp;refine Ad (Bm U U (qA (Ao (An _ U ?_ ?_))))
  .intro h1;replace h1:=AM h1;obtain⟨x,hxa⟩:=AA (l:=La) (i:=i);obtain⟨hxu,hxv,hl1,hl2⟩:=hLa x (qac hxa);have hsn:=Aa5 g p s L hxa;rw[hgi]at hsn;have hbu:=hbd i u hi;have hbv:=hbd i (g.v x) hi;rw[hgi]at hbu hbv;dsimp only at hbu hbv;obtain⟨v,hv⟩:=qD (g.v x);obtain⟨ln,hln⟩:=qD (g.len p x);have hrow:Hl g p x=[.int .i64 (x:Int),.int .i64 (u:Int),.int .i64 (v:Int),.int .i64 ln]:=by unfold Hl;rw[hxu,hv,hln]
   rw[<-hv]at hxv hbv;rw[<-hln]at hl1 hl2;have hne:La≠[]:=fun h=>by rw[h]at hxa;cases hxa
   refine Aq (Aa (Ao (A1 (Ad (Be R LC Ij U U (by rfl) ?_)))));refine BQ _ Ve Ij U U (Rd.rowE (R.ext H.ext (hRn hne)) hxa hrow U) (AU Kt H ?_);rintro b7 w - H;refine Bj Ij U U U (by simp[AZ]) H at0 U ?_;rintro w H;refine qA ?_;have K0:∀{z},Ext ids w0 z->z.heap[bf]?=some (Bl 265 (FB oo od oh ob n)):=fun hz=>hz.to hf hfn;obtain⟨du,hdu⟩:=qD (si.d u);obtain⟨hu,hhu⟩:=qD (si.h u);have hgd:(tab si.d n)[u]?=some du:=by rw[BW hun,hdu]
   have hgh:(tab (Qm si) n)[u]?=some (hu:Int):=by rw[BW hun,hhu];rfl
   have har:JC g p x=(u,v,ln):=by unfold JC;rw[hxu,<-hv,<-hln]
   rw[<-hdu,<-hhu]at hbu;have RD:=C4 (H.drew.get at1);refine Dw (fun x=>x=_) Bq U ?_;refine B6 U (Bb U (A5 E4 U (BX BN U (by rintro _ rfl;exact((by rw[Aj (K0 H.drew.ext)];rfl))) ?_)));refine AX U (Bi AV B2 U U ?_);refine BX Bw U (by rintro _ rfl;exact((RD.fld hgd rfl (j:=0) rfl))) ?_;refine A5 Pe U (Cc Bw U (by rintro _ rfl;exact H.drew) at0 U ?_);refine Dn U U (Dp U (BT ?_));rintro _ rfl;replace H:=H.drew;have RH:=C4 (H.drew.get at2);refine Ec 12 Bq U U (B6 U (A5 FM U (Cc Cd U (by rintro _ rfl;exact H.drew) at0 U ?_)));refine AX U (B6 U (Bb U (A5 Ii U (BX Gu U (by rintro _ rfl;exact((by rw[Aj (K0 H.drew.ext)];rfl))) ?_))));refine AX U (Bi Ep Gy U U ?_)
   refine BX Cd U (by rintro _ rfl;exact((RH.fld hgh rfl (j:=0) rfl))) ?_;refine Dn U U ?_;rw[show(hu:Int)+1=((hu+1:Nat):Int)by omega];refine BT ?_;replace H:=H.drew;refine Al qB (XQ (K0 H.ext) (H.get at1) (H.get at2) v hxv hn6 (du+ln) (hu+1)) U ?_;rintro rv w ⟨rfl,rfl⟩;refine qA (An _ U ?_ ?_)
   .intro h2;have h2':Ek si v (du+ln) (hu+1):=by simpa using h2
    have hS:Hj si (JC g p x)=Il si v (du+ln) (hu+1):=by rw[har];unfold Hj;dsimp only;rw[<-hdu,<-hhu,if_pos h2']
    have hHH:IU si (JC g p x) hi2=(du+ln,v)::hi2:=by rw[har];unfold IU;dsimp only;rw[<-hdu,<-hhu,if_pos h2']
    refine Cq [([0,1,2,3,4,5,6,7,8,9,10,11,12,13,14,15,16,17,18,19,20,21],22),([23],24)] (fun z=>z.heap[bf]?=some (Bl 265 (FB oo od oh ob n))/\z.heap[b7]?=some (Bl 270 [.int .i64 (x:Int),.int .i64 (u:Int),.int .i64 (v:Int),.int .i64 ln])/\z.heap[oh]?=some (Bl 3 (BZ (Qm si) n))) [24] Bq (⟨K0 H.drew.ext,H.drew.get at0,H.drew.get at2⟩) ?_;refine AH U U (BF U (Bg U (Ap E4 U (B3 BN U (fun _ hx=>(by rw[Aj hx.1];rfl)) ?_))));refine Ap FM U (B3 Cd U (fun _ hx=>(by rw[Aj hx.2.1];rfl)) ?_);refine BF U (Bg U (Ap Ii U (B3 Gu U (fun _ hx=>(by rw[Aj hx.1];rfl)) ?_)));refine Ap FM U (B3 Cd U (fun _ hx=>(by rw[Aj hx.2.1];rfl)) ?_);refine Bd U (BF U (Bg U (Ap Ii U (B3 Gu U (fun _ hx=>(by rw[Aj hx.1];rfl)) ?_))));refine Bd U (AP Ep Gy U U ?_)
    refine B3 Cd U (fun _ hx=>((C4 hx.2.2).fld hgh rfl (j:=0) rfl)) (Ev U U ?_);rw[show(hu:Int)+1=((hu+1:Nat):Int)by omega];refine AP AV B2 U U (AR ?_);replace H:=H.drew;refine Ch v (fun q => .int .i64 ((Il si v (du+ln) (hu+1)).d q)) (.int _ _) B2 U U U H at1 (by simp) (by show Value.int _ (if v=v then _ else _)=_;rw[if_pos rfl]) (fun q _ hq=>by show Value.int _ (if q=v then _ else _)=_;rw[if_neg hq]) ?_;rintro w H;refine Ab (BM (⟨K0 H.ext,H.get at0,H.get at2⟩) (AH U U ?_));refine AP Ep Gy U U ?_
    refine AR (Ch v (fun q => .int .i64 (Qm (Il si v (du+ln) (hu+1)) q)) (.int _ _) Gy U U U H at2 (by simp) (by show Value.int _ (((if v=v then _ else _:Nat)):Int)=_;rw[if_pos rfl]) (fun q _ hq=>by show Value.int _ (((if q=v then _ else _:Nat)):Int)=_;rw[if_neg hq];rfl) ?_);rintro w H;refine Ab (B5 U (BG (A0 (Ax U (Af U (Ah FM U (AB Cd U H at0 U ?_)))))));have Hc:=Ctx.comm (L:=[_,_,_]) (L':=HB bh a hk c full) H;refine Al qB (W4 (Ctx.lend (L1:=HB bh a hk c full) (L2:=[_,_,_]) Hc) O hH (du+ln) v) U ?_;rintro rv w ⟨rfl,a',c',f',L2,hp2,hH2,O2,H2⟩;replace H:=Ctx.comm (L:=HB bh a' (hk+1) c' f') (L':=[_,_,_]) (Ctx.back (L1:=HB bh a hk c full) (L2:=[_,_,_]) Hc H2);refine Ab (A8 (Aa (A0 (Az U U ?_))));refine Af U (qA ?_)
    refine⟨⟨i+1,a',hk+1,c',f',L2⟩,rfl,⟨rfl,trivial⟩,⟨by dsimp only;omega,?_,hH2,by dsimp only;omega,O2,?_⟩,by dsimp only;omega⟩
    .dsimp only;rw[hsn];show L2.Perm (IU si (JC g p x) hi2);rw[hHH];exact hp2.trans (hp.cons _)
    .dsimp only;rw[hsn];show Ctx w0 ids w (GB od oh n (Hj si (JC g p x)) bh a' (hk+1) c' f');rw[hS];exact H.tail
   .intro h2;have h2':¬Ek si v (du+ln) (hu+1):=by simpa using h2
    have hS:Hj si (JC g p x)=si:=by rw[har];unfold Hj;dsimp only;rw[<-hdu,<-hhu,if_neg h2']
    have hHH:IU si (JC g p x) hi2=hi2:=by rw[har];unfold IU;dsimp only;rw[<-hdu,<-hhu,if_neg h2']
    refine Aq (A8 (Aa (A0 (Az U U ?_))));refine Af U (qA ?_);refine⟨⟨i+1,a,hk,c,full,L'⟩,rfl,⟨rfl,trivial⟩,⟨by dsimp only;omega,?_,hH,by dsimp only;omega,O,?_⟩,by dsimp only;omega⟩
    .dsimp only;rw[hsn];show L'.Perm (IU si (JC g p x) hi2);rw[hHH];exact hp
    .dsimp only;rw[hsn];show Ctx w0 ids _ (GB od oh n (Hj si (JC g p x)) bh a hk c full);rw[hS];exact H.tail
  .intro h1;replace h1:=AN h1;refine Bp (Am (Am (AO (CO U U ?_))));obtain rfl:i=La.length:=by omega
   rw[qbj]at hsi hhi2;rw[hsi]at H;rw[hhi2]at hp;exact⟨rfl,a,hk,c,full,L',hp,hH,O,H⟩
abbrev NBl(od n:Nat)(s:Lb)(bh:Nat)(a:Option Addr)(hn c:Nat)(full:List Value):List (Nat × Obj):=(od,Bl 2 (BZ s.d n))::HB bh a hn c full
def JE(src:List Nat):List Tg:=src.map fun v=>(0,v)
theorem TN{src:List Nat}{i v:Nat}(h:src[i]?=some v)(x:Nat):(lb0 (src.take (i+1))).d x=if x=v then 0 else(lb0 (src.take i)).d x:=by
 unfold lb0;dsimp only;rw[Fc h]
 by_cases e:x=v
 .subst e;simp
 .simp[e]
theorem Aa6{w:World}{bf oo od oh ob n:Nat}{bh:Nat}{c:Nat}{src:List Nat}{fr:Option Addr}{fc:Nat}(H0:Ctx w ((NBl od n (lb0 []) bh none 0 c []).map (·.1)) w (NBl od n (lb0 []) bh none 0 c []))(O:OS none 0 c 2 [] (([]:List Tg).flatMap EZ))(hf:w.heap[bf]?=some (Bl 265 (FB oo od oh ob n)))(hfn:bf∉(NBl od n (lb0 []) bh none 0 c []).map (·.1))(R:Rd w fr 1 I1 (src.map fun v:Nat=>(v:Int)))(hRn:src≠[]->(adr fr).block∉(NBl od n (lb0 []) bh none 0 c []).map (·.1))(hsrc:∀v∈src,v<n)(hnd:src.Nodup)(_:n<=1000000:=by omega)(hsl:src.length<=1000000:=by omega):
  Ret prog 195 #[ptr bf,ptr bh,.slice fr src.length fc] w fun v w'=>v=.bool (decide (0<src.length))/\∃(a':Option Addr) (c':Nat) (full':List Value) (L':List Tg),L'.Perm (JE src)/\HeapL L'/\OS a' src.length c' 2 full' (L'.flatMap EZ)/\Ctx w ((NBl od n (lb0 []) bh none 0 c []).map (·.1)) w' (NBl od n (lb0 src) bh a' src.length c' full'):=by
 obtain⟨w0,rfl⟩:=qD w;obtain⟨ids,hids⟩:=qD ((NBl od n (lb0 []) bh none 0 c []).map (·.1));rw[<-hids]at H0 hfn hRn |-;have H:=H0;refine Ay (fn:=f195) func195 U [.pointer (some ⟨bf,0,none⟩),.pointer (some ⟨bh,0,none⟩),.slice fr src.length fc] U ?_;refine Ad (Ai U (qA (Ao (Ad (A2 U (Ba Ep U (Af U (qA (A1 ?_)))))))));refine Bt 17592186042688 (α:=Option Addr × Nat × List Value × List Tg × Nat) (fun t=>[(11,.int .i64 (t.2.2.2.2:Int))]) (fun t w'=>t.2.2.2.2<=src.length/\t.2.2.2.1.Perm (JE (src.take t.2.2.2.2))/\HeapL t.2.2.2.1/\OS t.1 t.2.2.2.2 t.2.1 2 t.2.2.1 (t.2.2.2.1.flatMap EZ)/\Ctx w0 ids w' (NBl od n (lb0 (src.take t.2.2.2.2)) bh t.1 t.2.2.2.2 t.2.1 t.2.2.1)) (fun t=>src.length - t.2.2.2.2) (none,c,[],[],0) U ?_ ?_ ?_
 .exact⟨rfl,trivial⟩
 .exact⟨qaj _,.refl _,fun i x y _ h=>(by cases h),O,H⟩
 .rintro⟨a,c,full,L,i⟩ j w ⟨hi,hp,hH,O,H⟩;dsimp only at hi hp hH O H;dsimp only;refine Ad (Bm U U (qA (Ao (An _ U ?_ ?_))))
  .intro h1;replace h1:=AM h1;obtain⟨v,hv⟩:=AA (l:=src) (i:=i);have hvn:=hsrc v (qac hv);have hvm:(src.map fun v:Nat=>(v:Int))[i]?=some (v:Int):=by rw[qa1,hv];rfl
   have hne:src≠[]:=fun h=>by rw[h]at hv;cases hv
   have hnot:v∉src.take i:=fun hm=>by
    obtain⟨k,hk⟩:=qcy hm;rw[qbv]at hk
    split at hk
    .have hkl:=C0 hk;obtain⟨h1,h2⟩:=qbc.1 hk;obtain⟨h3,h4⟩:=qbc.1 hv;have:=(List.getElem_inj hnd).1 (h2.trans h4.symm);omega
    .cases hk
   have hdv:(lb0 (src.take i)).d v = -1:=if_neg hnot;have hlm:(src.map fun v:Nat=>(v:Int)).length=src.length:=by rw[qak]
   have hgd:(tab (lb0 (src.take i)).d n)[v]?=some (-1):=by rw[BW hvn,hdv]
   refine Aq (Aa (Ao (A1 (Ad (Be R Ep Gy U U (by omega) ?_)))));refine Bc Cd U (((R.ext H.ext (hRn hne)).fld hvm U (j:=0) U)) (Ae U (qA (Ao (Ad (Af U (Bm U U (Aw U (AK 17 U ?_ ?_))))))))
   .intro h2;replace h2:=AM h2;omega
   .intro h2;replace h2:=AN h2;refine Af U (Ax U (AE U (Ah E4 U (Bc BN U ((by rw[Aj (H.ext.to hf hfn)];rfl)) ?_))));refine Ba AV U (CG U U (A9 U (.bool _) U (qA (An _ U ?_ ?_))))
    .intro h3;replace h3:=AM h3;omega
    .intro h3;replace h3:=AN h3;refine Aq (Aa (Ad (Ax U (AE U (Ah E4 U (Bc BN U ((by rw[Aj (H.ext.to hf hfn)];rfl)) ?_))))));refine Af U (Bn AV B2 U U ?_);refine Bc Bw U (((C4 (H.get at0)).fld hgd U (j:=0) U)) ?_;refine Cv U U (qA (An _ U ?_ ?_))
     .intro h4;replace h4:=Cy h4;refine Ad (Ax U (AE U (Ah E4 U (Bc BN U ((by rw[Aj (H.ext.to hf hfn)];rfl)) ?_))));refine Af U (Bn AV B2 U U ?_);refine Ch v (fun q => .int .i64 ((lb0 (src.take (i+1))).d q)) (.int _ _) B2 U U U H at0 (by simp) (by rw[TN hv,if_pos rfl]) (fun q _ hq=>by rw[TN hv,if_neg hq]) ?_;rintro w H;refine qA (A0 (Ax U (Af U ?_)));have Hc:=Ctx.comm (L:=[_]) (L':=HB bh a i c full) H;refine Al qB (W4 (Ctx.lend (L1:=HB bh a i c full) (L2:=[_]) Hc) O hH 0 v) U ?_;rintro rv w ⟨rfl,a',c',f',L2,hp2,hH2,O2,H2⟩;replace H:=Ctx.comm (L:=HB bh a' (i+1) c' f') (L':=[_]) (Ctx.back (L1:=HB bh a i c full) (L2:=[_]) Hc H2);refine Ab (A8 (Aa (A0 (Az U U ?_))));refine Af U (qA ?_);refine⟨(a',c',f',L2,i+1),rfl,⟨rfl,trivial⟩,⟨by dsimp only;omega,?_,hH2,O2,H⟩,by dsimp only;omega⟩
      dsimp only;unfold JE at hp |-;rw[Fc hv,qay];exact hp2.trans ((hp.cons _).trans (qem _ _).symm)
     .intro h4;replace h4:=Cz h4;omega
  .intro h1;replace h1:=AN h1;refine Bp (Am (Am (AO (Aa (Ad (A2 U (Ba Ep U (CD U U (Ai U (qA (A7 (AD (v:=(.bool _)) U U U ?_))))))))))));obtain rfl:i=src.length:=by omega
   rw[qbj]at hp H;exact⟨qaa Value.bool (by rw[qad];simp),a,c,full,L,hp,hH,O,H⟩
def Jo(g:Gr)(p:Nat->Int)(s:Lb)(a:Nat):Prop:=s.d (g.u a) ≠ -1/\s.h (g.v a)≠0/\s.d (g.u a)+g.len p a=s.d (g.v a)/\s.h (g.u a)+1=s.h (g.v a)
structure BI(g:Gr)(p:Nat->Int)(s:Lb)(all done:Nat->Prop)(by':Nat->Int):Prop where
 val:∀v,by' v = -1\/∃a:Nat,by' v=(a:Int)/\all a/\Jo g p s a/\g.v a=v
 in':∀a,done a->Jo g p s a->by' (g.v a) ≠ -1
 fst:∀v (a:Nat),by' v=(a:Int)->∀x,done x->Jo g p s x->g.v x=v->a<=x
theorem BI.skip{g:Gr}{p:Nat->Int}{s:Lb}{all done:Nat->Prop}{by':Nat->Int}(B:BI g p s all done by'){a:Nat}(h:¬Jo g p s a\/(by' (g.v a) ≠ -1/\by' (g.v a)<=(a:Int))):BI g p s all (fun x=>x=a\/done x) by' :=
 ⟨B.val,fun x hx hg=>by
  rcases hx with rfl|hx
  .exact(h.resolve_left fun h=>h hg).1
  .exact B.in' x hx hg,fun v b hb x hx hg hv=>by
  rcases hx with rfl|hx
  .have h1:=(h.resolve_left fun h=>h hg).2;rw[hv,hb]at h1;omega
  .exact B.fst v b hb x hx hg hv⟩
theorem BI.put{g:Gr}{p:Nat->Int}{s:Lb}{all done:Nat->Prop}{by':Nat->Int}(B:BI g p s all done by'){a:Nat}(ha:all a)(hg:Jo g p s a)(hlt:by' (g.v a) = -1\/(a:Int)<by' (g.v a)):BI g p s all (fun x=>x=a\/done x) (upd by' (g.v a) (a:Int)):=by
 refine⟨fun v=>?_,fun x hx hgx=>?_,fun v b hb x hx hgx hv=>?_⟩
 .by_cases e:v=g.v a
  .subst e;exact .inr ⟨a,Dk _ _ _,ha,hg,rfl⟩
  .rw[Er e];exact B.val v
 .by_cases e:g.v x=g.v a
  .rw[e,Dk];omega
  .rw[Er e]
   rcases hx with rfl|hx
   .exact absurd U e
   .exact B.in' x hx hgx
 .by_cases e:v=g.v a
  .rw[e,Dk]at hb
   rcases hx with rfl|hx
   .omega
   .have h1:=B.in' x hx hgx;rw[hv,e]at h1
    rcases B.val (g.v a)with h2|⟨c,h2,-⟩
    .exact absurd h2 h1
    .have h3:=B.fst (g.v a) c h2 x hx hgx (hv.trans e);rw[h2]at hlt;omega
  .rw[Er e]at hb
   rcases hx with rfl|hx
   .exact absurd hv.symm e
   .exact B.fst v b hb x hx hgx hv
theorem BI.congr{g:Gr}{p:Nat->Int}{s:Lb}{all done done':Nat->Prop}{by':Nat->Int}(B:BI g p s all done by')(h:∀x,done' x->done x):BI g p s all done' by':=⟨B.val,fun a ha=>B.in' a (h a ha),fun v b hb x hx=>B.fst v b hb x (h x hx)⟩
theorem Aa7{w:World}{bf oo od oh ob n:Nat}{s:Lb}{g:Gr}{p:Nat->Int}{outs:List Value}{outL:Nat->List Nat}(hb:w.heap[ob]?=some (Bl 3 (BZ (fun _ => -1) n)))(hf:w.heap[bf]?=some (Bl 265 (FB oo od oh ob n)))(hd:w.heap[od]?=some (Bl 2 (BZ s.d n)))(hh:w.heap[oh]?=some (Bl 3 (BZ (Qm s) n)))(ho:w.heap[oo]?=some (Bl 271 outs))(nf:bf≠ob)(nd:od≠ob)(nh:oh≠ob)(no:oo≠ob)(hsd:∀v,-1<=s.d v/\s.d v<=1152921504606846976/\s.h v<=1000000)(hout:∀u,u<n->∃au cu,outs[u]?=some (.slice au (outL u).length cu)/\Rd w au 4 (Hl g p) (outL u)/\(outL u≠[]->(adr au).block≠ob)/\(outL u).length<=1000000/\∀x∈outL u,g.u x=u/\g.v x<n /\ -1152921504606846976<=g.len p x/\g.len p x<=1152921504606846976/\x<=1000000)(hn6:n<=1000000:=by omega):
  Ret prog 199 #[ptr bf] w fun v w'=>v=.tuple #[]/\∃by':Nat->Int,BI g p s (fun a=>a∈outL (g.u a)) (fun a=>g.u a<n/\a∈outL (g.u a)) by'/\Ctx w [ob] w' [(ob,Bl 3 (BZ by' n))]:=by
 obtain⟨w0,rfl⟩:=qD w;have H:=Ctx.start1 hb;have nf':bf∉[ob]:=by rw[qab];exact nf
 have nd':od∉[ob]:=by rw[qab];exact nd
 have nh':oh∉[ob]:=by rw[qab];exact nh
 have no':oo∉[ob]:=by rw[qab];exact no
 refine Ay (fn:=f199) func199 U [.pointer (some ⟨bf,0,none⟩)] U ?_;refine Ad (Ax U (AE U (Ah Mq U (Bc Sc U ((by rw[Aj hf];rfl)) ?_))));refine Ba Nf U (Af U (qA (A1 (Bt 649037107316853453566312041148524 (α:=Nat × (Nat->Int)) (fun t=>[(12,.int .i64 (t.1:Int))]) (fun t w'=>t.1<=n/\BI g p s (fun a=>a∈outL (g.u a)) (fun a=>g.u a<t.1/\a∈outL (g.u a)) t.2/\Ctx w0 [ob] w' [(ob,Bl 3 (BZ t.2 n))]) (fun t=>n - t.1) (0,fun _ => -1) U ?_ ?_ ?_))))
 .exact⟨rfl,trivial⟩
 .exact⟨qaj _,⟨fun v => .inl rfl,fun a h=>absurd h.1 (qa7 _),fun v a h=>absurd (show(-1:Int)=(a:Int)from h) (by omega)⟩,H⟩
 .rintro⟨u,by'⟩ j w ⟨hi,B,H⟩;dsimp only at hi B H;dsimp only;refine Ad (Bm U U (qA (Ao (An _ U ?_ ?_))))
  .intro h1;replace h1:=AM h1;obtain⟨au,cu,hou,R,hRn,hul,hx7⟩:=hout u (by omega);refine Aq (Aa (Ao (A1 (Ad (Af U (Bn Nf Nh U U ?_))))));refine Bc Vf U ((by rw[Aj (H.ext.to ho no')];simpa using hou)) ?_;refine Ae U (A4 U (qA (Ad (A2 U (Ba LC U (Af U (qA (A1 ?_))))))));obtain⟨La,hLa⟩:=qD (outL u);rw[<-hLa]at R hRn hul hx7 |-;refine Bt 324518553658426726783156020052064 (α:=Nat × (Nat->Int)) (fun t=>[(19,.int .i64 (t.1:Int))]) (fun t w'=>t.1<=La.length/\BI g p s (fun a=>a∈outL (g.u a)) (fun a=>(g.u a<u/\a∈outL (g.u a))\/a∈La.take t.1) t.2/\Ctx w0 [ob] w' [(ob,Bl 3 (BZ t.2 n))]) (fun t=>La.length - t.1) (0,by') U ?_ ?_ ?_
   .exact⟨rfl,trivial⟩
   .exact⟨qaj _,B.congr (fun x hx=>hx.elim id fun h=>by simp at h),H⟩
   .rintro⟨i,by'⟩ j2 w ⟨hi2,B,H⟩;dsimp only at hi2 B H;dsimp only;refine Ad (Bm U U (qA (Ao (An _ U ?_ ?_))))
    .intro h2;replace h2:=AM h2;obtain⟨x,hxa⟩:=AA (l:=La) (i:=i);obtain⟨hxu,hxv,hl1,hl2,hx6⟩:=hx7 x (qac hxa);obtain⟨v,hv⟩:=qD (g.v x);obtain⟨ln,hln⟩:=qD (g.len p x);have hrow:Hl g p x=[.int .i64 (x:Int),.int .i64 (u:Int),.int .i64 (v:Int),.int .i64 ln]:=by unfold Hl;rw[hxu,hv,hln]
     rw[<-hv]at hxv;rw[<-hln]at hl1 hl2;have hne:La≠[]:=fun h=>by rw[h]at hxa;cases hxa
     have hau:(adr au).block∉[ob]:=by rw[qab];exact hRn hne
     have hun:u<n:=by omega
     obtain⟨du,hdu⟩:=qD (s.d u);obtain⟨hu,hhu⟩:=qD (s.h u);obtain⟨dv,hdv⟩:=qD (s.d v);obtain⟨hw,hhw⟩:=qD (s.h v);have hgdu:(tab s.d n)[u]?=some du:=by rw[BW hun,hdu]
     have hghu:(tab (Qm s) n)[u]?=some (hu:Int):=by rw[BW hun,hhu];rfl
     have hgdv:(tab s.d n)[v]?=some dv:=by rw[BW hxv,hdv]
     have hghv:(tab (Qm s) n)[v]?=some (hw:Int):=by rw[BW hxv,hhw];rfl
     have hbu:=hsd u;rw[<-hdu,<-hhu]at hbu
     have hgo:Jo g p s x↔(du ≠ -1/\hw≠0/\du+ln=dv/\hu+1=hw):=by
      unfold Jo;rw[hxu,<-hv,<-hln,<-hdu,<-hhu,<-hdv,<-hhw]
     have hall:x∈outL (g.u x):=by rw[hxu,<-hLa];exact qac hxa
     have hsub:∀y,((g.u y<u/\y∈outL (g.u y))\/y∈La.take (i+1))->y=x\/((g.u y<u/\y∈outL (g.u y))\/y∈La.take i):=fun y hy=>by
      rcases hy with hy|hy
      .exact .inr (.inl hy)
      .rw[Fc hxa]at hy
       rcases qbi.1 hy with hy|hy
       .exact .inr (.inr hy)
       .exact .inl (qab.1 hy)
     have RD:=C4 hd;have RH:=C4 hh;refine Aq (Aa (Ao (A1 (Ad (Be R LC Ij U U (by rfl) ?_)))));refine BQ _ Ve Ij U U (Rd.rowE (R.ext H.ext hau) hxa hrow U) (AU Kt H ?_);rintro b5 w - H;refine Bj Ij U U U (by simp[AZ]) H at0 U ?_;rintro w H;refine qA (Ao (DQ 4835703278458516690436096 (α:=Unit) (fun _=>[(81,.bool (!decide (du ≠ -1/\hw≠0/\du+ln=dv/\hu+1=hw)))]) (fun _ w'=>Ctx w0 [ob] w' [(b5,Bl 270 [.int .i64 (x:Int),.int .i64 (u:Int),.int .i64 (v:Int),.int .i64 ln]),(ob,Bl 3 (BZ by' n))]) U ?_ ?_))
     .skip
      refine Wd (fun x=>x=_) Bq U ?_;refine B6 U (Bb U (A5 E4 U (BX BN U (by rintro _ rfl;exact((by rw[Aj (H.drew.ext.to hf nf')];rfl))) ?_)));refine AX U (Bi AV B2 U U ?_);refine BX Bw U (by rintro _ rfl;exact(((RD.ext H.drew.ext nd').fld hgdu rfl (j:=0) rfl))) ?_;refine Agx U U U (CZ U (D6 31 U ?_ ?_))
      .intro h1;replace h1:=AM h1;refine A3 U (A3 U (A3 U (A3 U (A3 U (A3 U (A3 U (A3 U (A3 U (IB U (.bool _) U ?_)))))))));refine CZ U (A3 U (A3 U (A3 U (A3 U (A3 U (A3 U (A3 U (A3 U (A3 U ?_)))))))));refine A3 U (A3 U (A3 U (A3 U (A3 U (A3 U (A3 U (A3 U (A3 U (A3 U ?_)))))))));refine IB U (.bool _) U (CZ U (A3 U (A3 U (A3 U (A3 U (A3 U (A3 U (A3 U (A3 U ?_)))))))));refine A3 U (A3 U (A3 U (A3 U (A3 U (A3 U (A3 U (A3 U (A3 U (IB U (.bool _) U ?_)))))))));refine BT ?_;rintro _ rfl;replace H:=H.drew;refine Aa ?_;exact⟨(),rfl,⟨qaa Value.bool (by clear hgdu hghu hgdv hghv hgo hdu hhu hdv hhw;rw[qad];simp_all;try omega),trivial⟩,H⟩
      .intro h2;replace h2:=AN h2;refine B6 U (Bb U (A5 Ii U (BX Gu U (by rintro _ rfl;exact((by rw[Aj (H.drew.ext.to hf nf')];rfl))) ?_)));refine A5 FM U (Cc Cd U (by rintro _ rfl;exact H.drew) at0 U ?_);refine Bi Ep Gy U U ?_;refine BX Cd U (by rintro _ rfl;exact(((RH.ext H.drew.ext nh').fld hghv rfl (j:=0) rfl))) ?_;refine Agx U U U (HK U (.bool _) U (CZ U (D6 42 U ?_ ?_)))
       .intro h3;replace h3:=AM h3;refine A3 U (A3 U (A3 U (A3 U (A3 U (A3 U (A3 U (A3 U (A3 U (A3 U ?_)))))))));refine A3 U (A3 U (A3 U (A3 U (A3 U (A3 U (A3 U (A3 U (A3 U (IB U (.bool _) U ?_)))))))));refine CZ U (A3 U (A3 U (A3 U (A3 U (A3 U (A3 U (A3 U (A3 U (A3 U ?_)))))))));refine A3 U (A3 U (A3 U (A3 U (A3 U (A3 U (A3 U (A3 U (IB U (.bool _) U (BT ?_)))))))));rintro _ rfl;replace H:=H.drew;refine Aa ?_;exact⟨(),rfl,⟨qaa Value.bool (by clear hgdu hghu hgdv hghv hgo hdu hhu hdv hhw;rw[qad];simp_all;try omega),trivial⟩,H⟩
       .intro h4;replace h4:=AN h4;refine B6 U (Bb U (A5 E4 U (BX BN U (by rintro _ rfl;exact((by rw[Aj (H.drew.ext.to hf nf')];rfl))) ?_)));refine AX U (Bi AV B2 U U ?_);refine BX Bw U (by rintro _ rfl;exact(((RD.ext H.drew.ext nd').fld hgdu rfl (j:=0) rfl))) ?_;refine A5 Pe U (Cc Bw U (by rintro _ rfl;exact H.drew) at0 U ?_);refine Dn U U ?_;refine B6 U (Bb U (A5 E4 U (BX BN U (by rintro _ rfl;exact((by rw[Aj (H.drew.ext.to hf nf')];rfl))) ?_)));refine A5 FM U (Cc Cd U (by rintro _ rfl;exact H.drew) at0 U ?_);refine Bi AV B2 U U ?_;refine BX Bw U (by rintro _ rfl;exact(((RD.ext H.drew.ext nd').fld hgdv rfl (j:=0) rfl))) ?_;refine Md U U (HK U (.bool _) U (CZ U (D6 63 U ?_ ?_)))
        .intro h5;replace h5:=Cy h5;refine A3 U (A3 U (A3 U (A3 U (A3 U (A3 U (A3 U (A3 U (A3 U (A3 U ?_)))))))));refine A3 U (A3 U (A3 U (A3 U (A3 U (A3 U (A3 U (IB U (.bool _) U (BT ?_))))))));rintro _ rfl;replace H:=H.drew;refine Aa ?_;exact⟨(),rfl,⟨qaa Value.bool (by clear hgdu hghu hgdv hghv hgo hdu hhu hdv hhw;rw[qad];simp_all;try omega),trivial⟩,H⟩
        .intro h6;replace h6:=Cz h6;refine B6 U (Bb U (A5 Ii U (BX Gu U (by rintro _ rfl;exact((by rw[Aj (H.drew.ext.to hf nf')];rfl))) ?_)));refine AX U (Bi Ep Gy U U ?_);refine BX Cd U (by rintro _ rfl;exact(((RH.ext H.drew.ext nh').fld hghu rfl (j:=0) rfl))) ?_;refine Dn U U ?_;refine B6 U (Bb U (A5 Ii U (BX Gu U (by rintro _ rfl;exact((by rw[Aj (H.drew.ext.to hf nf')];rfl))) ?_)));refine A5 FM U (Cc Cd U (by rintro _ rfl;exact H.drew) at0 U ?_);refine Bi Ep Gy U U ?_;refine BX Cd U (by rintro _ rfl;exact(((RH.ext H.drew.ext nh').fld hghv rfl (j:=0) rfl))) ?_;refine Md U U (HK U (.bool _) U (BT ?_));rintro _ rfl;replace H:=H.drew;refine Aa ?_
         exact⟨(),rfl,⟨qaa Value.bool (by clear hgdu hghu hgdv hghv hgo hdu hhu hdv hhw;rw[qad];simp_all;try omega),trivial⟩,H⟩
     .rintro - j6 w H;refine An _ U ?_ ?_
      .intro h3;have hng:¬Jo g p s x:=by rw[hgo];exact qbh (by simpa only[qce]using h3)
       refine Bp (Am (AO (Aa (A0 (Az U U ?_)))));refine Af U (qA ?_);exact⟨(i+1,by'),rfl,⟨rfl,trivial⟩,⟨by dsimp only;omega,(B.skip (.inl hng)).congr hsub,H.tail⟩,by dsimp only;omega⟩
      .intro h3;have hg:Jo g p s x:=by rw[hgo];simpa using h3
       have hgb:(tab by' n)[v]?=some (by' v):=BW hxv;have hnot:by' v ≠ -1->by' v<=(x:Int)->BI g p s (fun a=>a∈outL (g.u a)) (fun a=>(g.u a<u/\a∈outL (g.u a))\/a∈La.take (i+1)) by':=fun h h'=>(B.skip (.inr (hv ▸ ⟨h,h'⟩))).congr hsub
       refine Aq (Aa (Dw (fun x=>x=_) Bq U ?_));refine B6 U (Bb U (A5 Kp U (BX Gu U (by rintro _ rfl;exact((by rw[Aj (H.drew.ext.to hf nf')];rfl))) ?_)));refine A5 FM U (Cc Cd U (by rintro _ rfl;exact H.drew) at0 U ?_);refine Bi Ep Gy U U ?_;refine BX Cd U (by rintro _ rfl;exact(((C4 (H.drew.get at1)).fld hgb rfl (j:=0) rfl))) ?_;refine Dp U (BT ?_);rintro _ rfl;replace H:=H.drew;refine Ad (Af U (BP U U (Aw U (AK 92 U ?_ ?_))))
       .intro h4;replace h4:=AM h4;refine Ag U (Ag U (Ag U (Ag U (A6 U (.bool _) U (qA (DH U (Fh [([0,1,2,3,4,5,6,7,8],9)] (fun z=>z.heap[bf]?=some (Bl 265 (FB oo od oh ob n))/\z.heap[b5]?=some (Bl 270 [.int .i64 (x:Int),.int .i64 (u:Int),.int .i64 (v:Int),.int .i64 ln])) [9] Bq (⟨H.drew.ext.to hf nf',H.drew.get at0⟩) ?_)))))));refine AH U U (BF U (Bg U (Ap Kp U (B3 Gu U (fun _ hx=>(by rw[Aj hx.1];rfl)) ?_))));refine Ap FM U (B3 Cd U (fun _ hx=>(by rw[Aj hx.2];rfl)) ?_);refine Ap Pd U (B3 Cd U (fun _ hx=>(by rw[Aj hx.2];rfl)) ?_);refine AP Ep Gy U U (AR ?_);replace H:=H.drew;refine Ch v (fun q => .int .i64 (upd by' v (x:Int) q)) (.int _ _) Gy U U U H at1 (by simp) (by rw[Dk]) (fun q _ hq=>by rw[Er hq]) ?_;rintro w H
        refine Ab (B5 U (BG (A8 (Aa (A0 (Az U U ?_))))));refine Af U (qA ?_);exact⟨(i+1,upd by' v (x:Int)),rfl,⟨rfl,trivial⟩,⟨by dsimp only;omega,(hv ▸ B.put hall hg (.inl (hv ▸ h4))).congr hsub,H.tail⟩,by dsimp only;omega⟩
       .intro h4;replace h4:=AN h4;refine Ah Pd U (AB Cd U H at0 U (Af U (Bm U U (A9 U (.bool _) U (qA (An _ U ?_ ?_))))))
        .intro h5;replace h5:=AM h5;refine Fh [([0,1,2,3,4,5,6,7,8],9)] (fun z=>z.heap[bf]?=some (Bl 265 (FB oo od oh ob n))/\z.heap[b5]?=some (Bl 270 [.int .i64 (x:Int),.int .i64 (u:Int),.int .i64 (v:Int),.int .i64 ln])) [9] Bq (⟨H.drew.ext.to hf nf',H.drew.get at0⟩) ?_;refine AH U U (BF U (Bg U (Ap Kp U (B3 Gu U (fun _ hx=>(by rw[Aj hx.1];rfl)) ?_))));refine Ap FM U (B3 Cd U (fun _ hx=>(by rw[Aj hx.2];rfl)) ?_);refine Ap Pd U (B3 Cd U (fun _ hx=>(by rw[Aj hx.2];rfl)) ?_);refine AP Ep Gy U U (AR ?_);replace H:=H.drew;refine Ch v (fun q => .int .i64 (upd by' v (x:Int) q)) (.int _ _) Gy U U U H at1 (by simp) (by rw[Dk]) (fun q _ hq=>by rw[Er hq]) ?_;rintro w H;refine Ab (B5 U (BG (A8 (Aa (A0 (Az U U ?_))))));refine Af U (qA ?_)
         exact⟨(i+1,upd by' v (x:Int)),rfl,⟨rfl,trivial⟩,⟨by dsimp only;omega,(hv ▸ B.put hall hg (.inr (hv ▸ h5))).congr hsub,H.tail⟩,by dsimp only;omega⟩
        .intro h5;replace h5:=AN h5;refine Aq (A8 (Aa (A0 (Az U U ?_))));refine Af U (qA ?_);exact⟨(i+1,by'),rfl,⟨rfl,trivial⟩,⟨by dsimp only;omega,hnot h4 (by omega),H.tail⟩,by dsimp only;omega⟩
    .intro h2;replace h2:=AN h2;refine Bp (Am (Am (AO (A8 (Aa (A0 (Az U U ?_)))))));refine Af U (qA ?_);have hiL:i=La.length:=by omega
     refine⟨(u+1,by'),rfl,⟨rfl,trivial⟩,⟨by dsimp only;omega,B.congr fun y hy=>?_,H⟩,by dsimp only;omega⟩;rw[hiL,qbj]
     rcases qap (g.u y) u with h7|h7
     .exact .inl ⟨h7,hy.2⟩
     .have hyu:g.u y=u:=by have:=hy.1;dsimp only at this;omega
      exact .inr (by rw[hLa,<-hyu];exact hy.2)
  .intro h1;replace h1:=AN h1;refine Bp (Am (Am (AO (CO U U ?_))));obtain rfl:u=n:=by omega
   exact⟨rfl,by',B,H⟩
end Go.Proofs.YtffclglpjlcojaaGreat
