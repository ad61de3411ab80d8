/- Part 5 of the proof. -/
import Derived.Test.YtdagmpmdcgedcaaGreatPart2
import Derived.Test.YtdagmpmdcgedcaaGreatPart4
namespace Go.Proofs.YtdagmpmdcgedcaaGreat
open Go.GV
attribute [local irreducible] AB W Wq Wt
def N3 (x:Int):Bool:=decide (-1099511627776≤x) && decide (x≤1099511627776)
def Ge (N:Int) (pot:List Int):Bool:=pot.all N3 && decide ((pot.length:Int)=N)
def ZF (N:Int) (es:List Ed) (pot:List Int) (k:Int):Int:=(FN N es k).2.2+pot.getD (FN N es k).1.toNat 0 - pot.getD (FN N es k).2.1.toNat 0
def Jr (N:Int) (es:List Ed) (fl pot:List Int) (k:Nat):Bool := !(decide (ZF N es pot (k:Int)<0) && decide (0<KP N es fl (k:Int)))
def Kd (N:Int) (es:List Ed) (fl pot:List Int):Bool:=(List.range (2*es.length)).all (Jr N es fl pot)
def Fy (N:Int) (es:List Ed) (fl pot:List Int):Bool:=Cw N es && (FE N es fl && (Ge N pot && Kd N es fl pot))
set_option maxRecDepth 20000 in
theorem Adm (N:Int) (a p:Option Addr) (n c m d:Nat) (pot:List Int) (w:World) (R:Rd w p 1 I1 pot) (hm:pot.length=m) (hm2:m≤9223372036854775000) :
  Ret Tryz.prog 217 #[Ec N a n c,.slice p m d] w fun v w'=>v = .bool (Ge N pot)∧Ext [] w w':=by
 subst hm;obtain ⟨w0,rfl⟩:∃ w0,w0=w:=⟨_,rfl⟩;have H:=Ctx.start w0 [];refine Aw (fn:=Tryz.f217) Tryz.func217 U [Ec N a n c,.slice p pot.length d] U (by kernel_rfl) ?_;refine Af (Bv [.int .i64 N,.slice a n c] (.agg _) U U H ?_);rintro b2 w - H;refine Ai U (Ab (Aa (Aq (Af (A3 U (Bi Bg U (Ae U (Ab (Aa (A0 (Bt 1048144 (α:=Nat) (fun i=>[(9,.int .i64 (i:Int))]) (fun i w'=>i≤pot.length∧Ctx w0 [] w' [(b2,Bl 51 [.int .i64 N,.slice a n c])]∧∀ (k:Nat) (x:Int),k<i→pot[k]? = some x→N3 x=true) (fun i=>pot.length - i) 0 U ?_ ?_ ?_)))))))))))
 ·exact ⟨rfl,trivial⟩
 ·exact ⟨Nat.zero_le _,H,fun k x h=>absurd h (Nat.not_lt_zero _)⟩
 ·rintro i j w ⟨hi,H,hb⟩;refine Af (Bj U U (Ab (Aa (Aq (Ap _ U ?_ ?_)))))
  ·intro h2;replace h2:=AJ h2;obtain ⟨x,h7x⟩:=A8 (l:=pot) (i:=i);refine Au (Aa (Aq (A0 (Af (AS R Bg B6 U U (by rfl) ?_)))));refine AZ Bw U (((R.ext0 H.ext).fld h7x U (j:=0) U)) ?_;refine Ad U (Ab (Aa (Af (BU (α:=Unit) 516096 (fun _=>[(18,.bool (!N3 x))]) (fun _ w'=>Ctx w0 [] w' [(b2,Bl 51 [.int .i64 N,.slice a n c])]) U ?_ ?_))))
   ·refine Ae U (Bj U U (AE U (AY 15 U ?_ ?_)))
    ·intro h1;replace h1:=AJ h1;refine Ah U (Ah U (AN U (.bool _) U (Ab ?_)));exact ⟨rfl,(),rfl,⟨congrArg Value.bool (by unfold N3; rw [Bool.eq_iff_iff]; simp_all; try omega),trivial⟩,H⟩
    ·intro h2;replace h2:=AK h2;refine Ae U (Cs U U (AU U (.bool _) U (Ab ?_)));exact ⟨rfl,(),rfl,⟨congrArg Value.bool (by unfold N3; rw [Bool.eq_iff_iff]; simp_all; try omega),trivial⟩,H⟩
   rintro - j18 w H;refine Ap _ U ?_ ?_
   ·intro h3;replace h3:=BE h3;refine Af (Ai U (Ab (Aa (A4 (AA (Ao (Ao (AA (Ao (AD (v:=(.bool _)) U U U ?_))))))))));exact ⟨congrArg Value.bool (by unfold Ge; rw [Eh h7x (by simpa using h3)]; rfl),H.ext⟩
   ·intro h3;replace h3:=BF h3;refine Au (A5 (Aa (Az (Ax U U ?_))));refine Ae U (Ab (Aa ?_));refine ⟨i+1,rfl,⟨rfl,trivial⟩,⟨by omega,H,fun k y hk hy=>?_⟩,by omega⟩
    rcases Nat.lt_or_ge k i with h7 | h7
    ·exact hb k y h7 hy
    ·obtain rfl:k=i:=by omega
     rw [h7x] at hy;cases hy
     simpa using h3
  ·intro h2;replace h2:=AK h2;refine Bq (Am (Am (AG (Aa (Af (A3 U (Bi Bg U (Ag Fl U (AM Ca U H at0 U (Cf U U (Ai U (Ab (Aa (A4 (AD (v:=(.bool _)) U U U ?_)))))))))))))));exact ⟨congrArg Value.bool (by unfold Ge; rw [Fe fun k x hk hx=>hb k x (by omega) hx,Bool.true_and]),H.ext⟩
theorem RW {N:Int} {es:List Ed} (hr:Cw N es=true) {k:Nat} (hk:k<2*es.length):∃ e,es[k / 2]? = some e∧FN N es (k:Int)=HV e k∧0≤(HV e k).1∧(HV e k).1<N∧0≤(HV e k).2.1∧(HV e k).2.1<N ∧ -1000≤(HV e k).2.2∧(HV e k).2.2≤1000:=by
 obtain ⟨e,he⟩:=A8 (l:=es) (i:=k / 2);have hco:=EC ((CD hr).2.2.2.1 e (List.mem_of_getElem? he));refine ⟨e,he,?_,?_⟩
 ·unfold FN;rw [if_pos (by rw [hr,Bool.and_true]; unfold Lk; simp; omega),Int.toNat_natCast,Bo he]
 ·unfold HV
  split <;> (dsimp only; omega)
theorem Ll {N:Int} {pot:List Int} (hp:Ge N pot=true):(pot.length:Int)=N∧∀ (i:Nat) (x:Int),pot[i]? = some x → -1099511627776≤x∧x≤1099511627776:=by
 unfold Ge N3 at hp;simp only [Bool.and_eq_true,decide_eq_true_eq,List.all_eq_true] at hp;exact ⟨hp.2,fun i x hx=>hp.1 x (List.mem_of_getElem? hx)⟩
theorem RY {N:Int} {es:List Ed} {fl:List Int} (hw:Cm N es fl=true) {k:Nat} (hk:k<2*es.length):∃ e x,es[k / 2]? = some e∧fl[k / 2]? = some x∧KP N es fl (k:Int)=Nm e x k∧0≤x∧x≤e.cap∧e.cap≤4503599627370496:=by
 obtain ⟨hl,hri,hin⟩:=Cv hw;obtain ⟨e,he⟩:=A8 (l:=es) (i:=k / 2);obtain ⟨x,hx⟩:=A8 (l:=fl) (i:=k / 2);have hco:=EC ((CD hri).2.2.2.1 e (List.mem_of_getElem? he));have:=hin _ e x he hx;refine ⟨e,x,he,hx,?_,this.1,this.2,by omega⟩;unfold KP;rw [if_pos (by rw [hw,Bool.and_true]; unfold Lk; simp; omega),Int.toNat_natCast,Bo he,Bo hx]
abbrev Tt (b p:Option Addr) (m d q r:Nat):Value := .agg #[.slice b m d,.slice p q r]
set_option maxRecDepth 20000 in
set_option maxHeartbeats 2000000 in
theorem ZG (N:Int) (a b p:Option Addr) (n c m d q r:Nat) (es:List Ed) (fl pot:List Int) (w:World) (R:Rd w a 4 CI es) (hn:es.length=n) (hN:I64 N) (Rf:Rd w b 1 I1 fl) (hm:fl.length=m) (Rp:Rd w p 1 I1 pot) (hq:pot.length=q)
  (hr:Cw N es=true) (hw:Cm N es fl=true) (hp:Ge N pot=true) :
  Ret Tryz.prog 219 #[Ec N a n c,Tt b p m d q r] w fun v w'=>v = .bool (Kd N es fl pot)∧Ext [] w w':=by
 subst hn hm hq;obtain ⟨w0,rfl⟩:∃ w0,w0=w:=⟨_,rfl⟩;have H:=Ctx.start w0 [];obtain ⟨hN1,hN40,hn200,-⟩:=CD hr;obtain ⟨hpl,hpb⟩:=Ll hp;have hfl:=(Cv hw).1;refine Aw (fn:=Tryz.f219) Tryz.func219 U [Ec N a es.length c,Tt b p fl.length d pot.length r] U (by kernel_rfl) ?_;refine Af (Bv [.int .i64 N,.slice a es.length c] (.agg _) U U H ?_);rintro b2 w - H;refine Bv [.slice b fl.length d,.slice p pot.length r] (.agg _) U U H ?_;rintro b3 w - H;refine Ai U (Ab (Aa (Aq (Af (Ag Dv U (AM Fs U H at1 U (Bi Ds U (DE U U ?_))))))));refine Ae U (Ab (Aa (A0 (Bt 70368744169968 (α:=Nat) (fun i=>[(13,.int .i64 (i:Int))]) (fun i w'=>i≤2*es.length∧Ctx w0 [] w' [(b3,Bl 53 [.slice b fl.length d,.slice p pot.length r]),(b2,Bl 51 [.int .i64 N,.slice a es.length c])]∧∀ k,k<i→Jr N es fl pot k=true) (fun i=>2*es.length - i) 0 U ?_ ?_ ?_))))
 ·exact ⟨rfl,trivial⟩
 ·exact ⟨Nat.zero_le _,H,fun k h=>absurd h (Nat.not_lt_zero _)⟩
 ·rintro i j w ⟨hi,H,hb⟩;refine Af (Bj U U (Ab (Aa (Aq (Ap _ U ?_ ?_)))))
  ·intro h2;replace h2:=AJ h2;have hi2:i<2*es.length:=by omega
   obtain ⟨e,he,hE,q1,q2,q3,q4,q5,q6⟩:=RW hr hi2;obtain ⟨e',x,he',hx,hro,r1,r2,r3⟩:=RY hw hi2;obtain ⟨un,hun⟩:∃ un:Nat,(HV e i).1=un:=⟨(HV e i).1.toNat,by omega⟩;obtain ⟨vn,hvn⟩:∃ vn:Nat,(HV e i).2.1=vn:=⟨(HV e i).2.1.toNat,by omega⟩;obtain ⟨pu,hpu⟩:=A8 (l:=pot) (i:=un);obtain ⟨pv,hpv⟩:=A8 (l:=pot) (i:=vn);have hbu:=hpb _ _ hpu;have hbv:=hpb _ _ hpv
   have hli:ZF N es pot (i:Int)=(HV e i).2.2+pu - pv:=by
    unfold ZF;rw [hE,hun,hvn,Int.toNat_natCast,Int.toNat_natCast,Bo hpu,Bo hpv]
   have hgo:Jr N es fl pot i=true→∀ k,k<i+1→Jr N es fl pot k=true:=fun h3 k hk=>by
    rcases Nat.lt_or_ge k i with h7 | h7
    ·exact hb k h7
    ·obtain rfl:k=i:=by omega
     exact h3
   refine Au (Aa (Aq (A0 (Af (Ae U (Ad U (Ab (Aa (Af (Cl Df CL U H at1 U (Ae U ?_)))))))))));refine Al UM (RU N a es.length c es _ (R.ext0 H.ext) U hN (i:Int)) U ?_;rintro v w ⟨rfl,hx19⟩;replace H:=H.call hx19;rw [hE,hun,hvn];refine BM U (A6 U U (A6 U U (A6 U U (Ad U (Ad U (Ad U (Ab (Aa (Eb 19 Bs (by kernel_rfl) U U ?_)))))))));refine Bh U (A7 LJ U (Cn Cg U (by rintro _ rfl; exact H.drew) at0 U ?_));refine Bh U (C5 Rp Bg B6 U U (by rfl) ?_);refine BX Bw U (by rintro _ rfl; exact (((Rp.ext0 (H.ext.trans (Ext.drew [] _))).fld hpu rfl (j:=0) rfl))) ?_;refine De U U ?_;refine A7 LJ U (Cn Cg U (by rintro _ rfl; exact H.drew) at0 U ?_);refine Bh U (C5 Rp Bg B6 U U (by rfl) ?_)
   refine BX Bw U (by rintro _ rfl; exact (((Rp.ext0 (H.ext.trans (Ext.drew [] _))).fld hpv rfl (j:=0) rfl))) ?_;refine D8 U U ?_;refine KI U U (CU U (Dw 37 U ?_ ?_))
   ·intro h3;replace h3:=AJ h3;refine Ob U Df CL U (by rintro _ rfl; exact H.drew) at1 U ?_;refine A7 Jo U (Cn Cg U (by rintro _ rfl; exact H.drew) at0 U ?_);refine Bh U (BW ?_);replace H:=H.drew;refine Al UL (RV N a b es.length c fl.length d es fl _ (R.ext0 H.ext) U hN (Rf.ext0 H.ext) U (i:Int)) U ?_;rintro v w ⟨rfl,hx42⟩;replace H:=H.call hx42;refine Cs U U (AN U (.bool _) U (Ab (Aa (Ap _ U ?_ ?_))))
    ·intro h4;replace h4:=AJ h4;refine Af (Ai U (Ab (Aa (A4 (AA (Ao (Ao (AA (Ao (AD (v:=(.bool _)) U U U ?_))))))))));exact ⟨congrArg Value.bool (by unfold Kd; rw [Eh (List.getElem?_range hi2) (by unfold Jr; rw [hli,decide_eq_true h3,decide_eq_true h4]; rfl)]),H.ext⟩
    ·intro h4;replace h4:=AK h4;refine Au (A5 (Aa (Az (Ax U U ?_))));refine Ae U (Ab (Aa ?_));exact ⟨i+1,rfl,⟨rfl,trivial⟩,⟨by omega,H,hgo (by unfold Jr; rw [hli,decide_eq_false h4,Bool.and_false]; rfl)⟩,by omega⟩
   ·intro h3;replace h3:=AK h3;refine A2 U (A2 U (A2 U (A2 U (BW ?_))));replace H:=H.drew;refine Ah U (Ah U (AU U (.bool _) U (Ab (Aa (Fg U (Au (A5 (Aa (Az (Ax U U ?_))))))))));refine Ae U (Ab (Aa ?_));exact ⟨i+1,rfl,⟨rfl,trivial⟩,⟨by omega,H,hgo (by unfold Jr; rw [hli,decide_eq_false h3,Bool.false_and]; rfl)⟩,by omega⟩
  ·intro h2;replace h2:=AK h2;refine Bq (Am (Am (AG (Aa (Af (Ai U (Ab (Aa (A4 (AD (v:=(.bool _)) U U U ?_))))))))));exact ⟨congrArg Value.bool (by unfold Kd; rw [List.all_eq_true.2 fun k hk=>hb k (by have:=List.mem_range.1 hk; omega)]),H.ext⟩
end Go.Proofs.YtdagmpmdcgedcaaGreat
namespace Go.Proofs.YtdagmpmdcgedcaaGreat
open Go.GV
attribute [local irreducible] AB W Wq Wt
theorem IL {w:World} {b:Nat} {t:TypeId} {l:List Value} (h:w.heap[b]? = some (Bl t l)):∀ j v,l[j]? = some v→w.cell? ⟨b,0+j,none⟩=some v:=fun j v hv=>by
 rw [Aj h,Nat.zero_add]; exact hv
structure ChkK (b2 b3:Nat) (N:Int) (a b p:Option Addr) (c d r:Nat) (es:List Ed) (fl pot:List Int) (w:World):Prop where
 h2:w.heap[b2]? = some (Bl 51 [.int .i64 N,.slice a es.length c])
 h3:w.heap[b3]? = some (Bl 53 [.slice b fl.length d,.slice p pot.length r])
 R:Rd w a 4 CI es
 Rf:Rd w b 1 I1 fl
 Rp:Rd w p 1 I1 pot
theorem ChkK.ext {b2 b3:Nat} {N:Int} {a b p:Option Addr} {c d r:Nat} {es:List Ed} {fl pot:List Int} {w w':World} (K:ChkK b2 b3 N a b p c d r es fl pot w) (h:Ext [] w w'):ChkK b2 b3 N a b p c d r es fl pot w' :=
 ⟨h.to K.h2 (by simp),h.to K.h3 (by simp),K.R.ext0 h,K.Rf.ext0 h,K.Rp.ext0 h⟩
section
variable {b2 b3:Nat} {N:Int} {a b p:Option Addr} {c d r:Nat} {es:List Ed} {fl pot:List Int} {w:World}
theorem Adn (K:ChkK b2 b3 N a b p c d r es fl pot w) (hN:I64 N):Ret Tryz.prog 213 #[ptr b2] w fun v w'=>v = .bool (Cw N es)∧Ext [] w w':=by
 obtain ⟨w0,rfl⟩:∃ w0,w0=w:=⟨_,rfl⟩;have H:=Ctx.start w0 [];refine Aw (fn:=Tryz.f213) Tryz.func213 U [.pointer (some ⟨b2,0,none⟩)] U (by kernel_rfl) ?_;refine Af (Ai U (Ab (Aa (Af (Cj _ Df CL U U (IL K.h2) ?_)))));refine Al R6 (LS N a es.length c es _ K.R U hN) U ?_;rintro v w ⟨rfl,hx3⟩;replace H:=H.call hx3;refine Ai U (Ab (Aa (A4 (AD (v:=(.bool _)) U U U ?_))));exact ⟨rfl,H.ext⟩
theorem Ado (K:ChkK b2 b3 N a b p c d r es fl pot w) (hN:I64 N) (hf:fl.length≤9223372036854775000):Ret Tryz.prog 214 #[ptr b2,ptr b3] w fun v w'=>v = .bool (FE N es fl)∧Ext [] w w':=by
 obtain ⟨w0,rfl⟩:∃ w0,w0=w:=⟨_,rfl⟩;have H:=Ctx.start w0 [];refine Aw (fn:=Tryz.f214) Tryz.func214 U [.pointer (some ⟨b2,0,none⟩),.pointer (some ⟨b3,0,none⟩)] U (by kernel_rfl) ?_;refine Af (Ai U (Ab (Aa (Af (Cj _ Df CL U U (IL K.h2) ?_)))));refine Ag Jo U (AZ Cg U ((by rw [Aj K.h3]; rfl)) ?_);refine Al Ahw (ZE N a b es.length c fl.length d es fl _ K.R U hN K.Rf U hf) U ?_;rintro v w ⟨rfl,hx3⟩;replace H:=H.call hx3;refine Ai U (Ab (Aa (A4 (AD (v:=(.bool _)) U U U ?_))));exact ⟨rfl,H.ext⟩
theorem Adp (K:ChkK b2 b3 N a b p c d r es fl pot w) (hq:pot.length≤9223372036854775000):Ret Tryz.prog 216 #[ptr b2,ptr b3] w fun v w'=>v = .bool (Ge N pot)∧Ext [] w w':=by
 obtain ⟨w0,rfl⟩:∃ w0,w0=w:=⟨_,rfl⟩;have H:=Ctx.start w0 [];refine Aw (fn:=Tryz.f216) Tryz.func216 U [.pointer (some ⟨b2,0,none⟩),.pointer (some ⟨b3,0,none⟩)] U (by kernel_rfl) ?_;refine Af (Ai U (Ab (Aa (Af (Cj _ Df CL U U (IL K.h2) ?_)))));refine Ag LJ U (AZ Cg U ((by rw [Aj K.h3]; rfl)) ?_);refine Al Ahy (Adm N a p es.length c pot.length r pot _ K.Rp U hq) U ?_;rintro v w ⟨rfl,hx3⟩;replace H:=H.call hx3;refine Ai U (Ab (Aa (A4 (AD (v:=(.bool _)) U U U ?_))));exact ⟨rfl,H.ext⟩
theorem Adq (K:ChkK b2 b3 N a b p c d r es fl pot w) (hN:I64 N) (hr:Cw N es=true) (hw:Cm N es fl=true) (hp:Ge N pot=true):Ret Tryz.prog 218 #[ptr b2,ptr b3] w fun v w'=>v = .bool (Kd N es fl pot)∧Ext [] w w':=by
 obtain ⟨w0,rfl⟩:∃ w0,w0=w:=⟨_,rfl⟩;have H:=Ctx.start w0 [];refine Aw (fn:=Tryz.f218) Tryz.func218 U [.pointer (some ⟨b2,0,none⟩),.pointer (some ⟨b3,0,none⟩)] U (by kernel_rfl) ?_;refine Af (Ai U (Ab (Aa (Af (Cj _ Df CL U U (IL K.h2) ?_)))));refine Cj _ Tk Ng U U (IL K.h3) ?_;refine Al Ah0 (ZG N a b p es.length c fl.length d pot.length r es fl pot _ K.R U hN K.Rf U K.Rp U hr hw hp) U ?_;rintro v w ⟨rfl,hx3⟩;replace H:=H.call hx3;refine Ai U (Ab (Aa (A4 (AD (v:=(.bool _)) U U U ?_))));exact ⟨rfl,H.ext⟩
end
def askN (N:Int) (es:List Ed) (fl pot:List Int):Nat→Bool
 | 0=>Cw N es
 | 1=>FE N es fl
 | 2=>Ge N pot
 | _=>Kd N es fl pot
theorem Adr {N:Int} {es:List Ed} {fl pot:List Int} (h:∀ k,k<4→askN N es fl pot k=true):Fy N es fl pot=true:=by
 have h0:=h 0 (by omega);have h1:=h 1 (by omega);have h2:=h 2 (by omega);have h3:=h 3 (by omega);unfold Fy;rw [show Cw N es=true from h0,show FE N es fl=true from h1,show Ge N pot=true from h2,show Kd N es fl pot=true from h3]; rfl
theorem Ads {N:Int} {es:List Ed} {fl pot:List Int} {k:Nat} (h:askN N es fl pot k=false) (hk:k<4:=by omega):Fy N es fl pot=false:=by
 have:k=0∨k=1∨k=2∨k=3:=by omega
 unfold Fy
 rcases this with rfl | rfl | rfl | rfl
 ·rw [show Cw N es=false from h]; simp
 ·rw [show FE N es fl=false from h]; simp
 ·rw [show Ge N pot=false from h]; simp
 ·rw [show Kd N es fl pot=false from h]; simp
set_option maxRecDepth 20000 in
set_option maxHeartbeats 2000000 in
theorem Tu (N:Int) (a b p:Option Addr) (n c m d q r:Nat) (es:List Ed) (fl pot:List Int) (w:World) (R:Rd w a 4 CI es) (hn:es.length=n) (hN:I64 N) (Rf:Rd w b 1 I1 fl) (hm:fl.length=m) (hm2:m≤9223372036854775000) (Rp:Rd w p 1 I1 pot) (hq:pot.length=q) (hq2:q≤9223372036854775000) :
  Ret Tryz.prog 182 #[Ec N a n c,Tt b p m d q r] w fun v w'=>v = .bool (Fy N es fl pot)∧Ext [] w w':=by
 subst hn hm hq;obtain ⟨w0,rfl⟩:∃ w0,w0=w:=⟨_,rfl⟩;have H:=Ctx.start w0 [];refine Aw (fn:=Tryz.f182) Tryz.func182 U [Ec N a es.length c,Tt b p fl.length d pot.length r] U (by kernel_rfl) ?_;refine Af (Bv [.int .i64 N,.slice a es.length c] (.agg _) U U H ?_);rintro b2 w - H;refine Bv [.slice b fl.length d,.slice p pot.length r] (.agg _) U U H ?_;rintro b3 w - H;refine Ai U (Ab (Aa (Aq (Af (BQ [.pointer _] U (BQ [.pointer _,.pointer _] U (BQ [.pointer _,.pointer _] U (BQ [.pointer _,.pointer _] U (D9 [.func (.func 213) #[] #[ptr b2],.func (.func 214) #[] #[ptr b2,ptr b3],.func (.func 216) #[] #[ptr b2,ptr b3],.func (.func 218) #[] #[ptr b2,ptr b3]] UQ Af0 zc_23 (by decide) (by decide) (by kernel_rfl) H ?_)))))))));rintro b11 w - H
 refine Bi UQ U (Ae U (Ab (Aa (A0 (Bt 2089040 (α:=Nat) (fun i=>[(13,.int .i64 (i:Int))]) (fun i w'=>i≤4∧Ctx w0 [] w' [(b11,Bl 23 [.func (.func 213) #[] #[ptr b2],.func (.func 214) #[] #[ptr b2,ptr b3],.func (.func 216) #[] #[ptr b2,ptr b3],.func (.func 218) #[] #[ptr b2,ptr b3]]),(b3,Bl 53 [.slice b fl.length d,.slice p pot.length r]),(b2,Bl 51 [.int .i64 N,.slice a es.length c])]∧∀ k,k<i→askN N es fl pot k=true) (fun i=>4 - i) 0 U ?_ ?_ ?_)))))
 ·exact ⟨rfl,trivial⟩
 ·exact ⟨Nat.zero_le _,H,fun k h=>absurd h (Nat.not_lt_zero _)⟩
 ·rintro i j w ⟨hi,H,hb⟩;refine Af (Bj U U (Ab (Aa (Aq (Ap _ U ?_ ?_)))))
  ·intro h2;replace h2:=AJ h2;have KK:ChkK b2 b3 N a b p c d r es fl pot w:=⟨H.get at2,H.get at1,R.ext0 H.ext,Rf.ext0 H.ext,Rp.ext0 H.ext⟩
   obtain ⟨f,ca,hfi,hcf,hret⟩:∃ f ca,[Value.func (.func 213) #[] #[ptr b2],.func (.func 214) #[] #[ptr b2,ptr b3],.func (.func 216) #[] #[ptr b2,ptr b3],.func (.func 218) #[] #[ptr b2,ptr b3]][i]? = some (.func (.func f) #[] ca)∧Av Tryz.prog f=true∧Ret Tryz.prog f ca w (fun v w'=>v = .bool (askN N es fl pot i)∧Ext [] w w'):=by
    have:i=0∨i=1∨i=2∨i=3:=by omega
    rcases this with rfl | rfl | rfl | rfl
    ·exact ⟨_,_,rfl,Ahu,Adn KK hN⟩
    ·exact ⟨_,_,rfl,Ahv,Ado KK hN hm2⟩
    ·exact ⟨_,_,rfl,Ahx,Adp KK hq2⟩
    ·exact ⟨_,_,rfl,Ahz,Adq KK hN (hb 0 (by omega)) (Ff (hb 1 (by omega))).1 (hb 2 (by omega))⟩
   refine Au (Aa (Aq (A0 (Af (Bn UQ Af0 U U ?_)))));refine AZ Afn U ((by rw [Aj (H.get at0)]; simpa using hfi)) ?_;refine CG U (.func _ _ _) U ?_;refine Ab (Aa (Af (Da U (.func _ _ _) U ?_)));refine Fz (l:=ca.toList) U hcf (by simpa using hret) (by simp) ?_;rintro v w ⟨rfl,hx18⟩;replace H:=H.call hx18;refine BA U (Ab (Aa (Ap _ U ?_ ?_)))
   ·intro h3;replace h3:=BE h3;refine Af (Ai U (Ab (Aa (A4 (AA (Ao (Ao (AA (Ao (AD (v:=(.bool _)) U U U ?_))))))))));exact ⟨congrArg Value.bool (by rw [Ads (k:=i) (by simpa using h3)]),H.ext⟩
   ·intro h3;replace h3:=BF h3;refine Au (A5 (Aa (Az (Ax U U ?_))));refine Ae U (Ab (Aa ?_));refine ⟨i+1,rfl,⟨rfl,trivial⟩,⟨by omega,H,fun k hk=>?_⟩,by omega⟩
    rcases Nat.lt_or_ge k i with h7 | h7
    ·exact hb k h7
    ·obtain rfl:k=i:=by omega
     simpa using h3
  ·intro h2;replace h2:=AK h2;refine Bq (Am (Am (AG (Aa (Af (Ai U (Ab (Aa (A4 (AD (v:=(.bool _)) U U U ?_))))))))));exact ⟨congrArg Value.bool (by rw [Adr fun k hk=>hb k (by omega)]),H.ext⟩
end Go.Proofs.YtdagmpmdcgedcaaGreat
namespace Go.Proofs.YtdagmpmdcgedcaaGreat
open Go.GV
abbrev Tg:=Int × Nat
def lt7 (x y:Tg):Prop:=x.1<y.1∨(x.1=y.1∧x.2<y.2)
instance (x y:Tg):Decidable (lt7 x y):=by unfold lt7; infer_instance
def le7 (x y:Tg):Prop:=x.1<y.1∨(x.1=y.1∧x.2≤y.2)
theorem le7.trans {x y z:Tg} (h:le7 x y) (k:le7 y z):le7 x z:=by unfold le7 at *; omega
theorem lt7.le {x y:Tg} (h:lt7 x y):le7 x y:=by unfold lt7 at h; unfold le7; omega
theorem UY {x y:Tg} (h:¬ lt7 y x):le7 x y:=by unfold lt7 at h; unfold le7; omega
def HeapL (L:List Tg):Prop:=∀ i x y,0<i→L[i]? = some x→L[(i - 1) / 2]? = some y→le7 y x
def UpI (L:List Tg) (k:Nat):Prop :=
 (∀ i x y,0<i→i≠k→L[i]? = some x→L[(i - 1) / 2]? = some y→le7 y x)∧∀ c x y,0<k→0<c→(c - 1) / 2=k→L[c]? = some x→L[(k - 1) / 2]? = some y→le7 y x
def DownI (L:List Tg) (k:Nat):Prop :=
 (∀ i x y,0<i→(i - 1) / 2≠k→L[i]? = some x→L[(i - 1) / 2]? = some y→le7 y x)∧∀ c x y,0<k→0<c→(c - 1) / 2=k→L[c]? = some x→L[(k - 1) / 2]? = some y→le7 y x
theorem GC {L:List Tg} {k o:Nat} {x y:Tg} (hx:L[k]? = some x) (hy:L[o]? = some y) (i:Nat):((L.set k y).set o x)[i]? = if i=o then some x else if i=k then some y else L[i]? := by
 have h1:k<L.length:=(List.getElem?_eq_some_iff.1 hx).1;have h2:o<L.length:=(List.getElem?_eq_some_iff.1 hy).1
 by_cases e:i=o
 ·subst e; rw [if_pos rfl,List.getElem?_set_self (by rw [List.length_set]; exact h2)]
 ·rw [if_neg e,List.getElem?_set_ne (Ne.symm e)]
  by_cases e2:i=k
  ·subst e2; rw [if_pos rfl,List.getElem?_set_self h1]
  ·rw [if_neg e2,List.getElem?_set_ne (Ne.symm e2)]
theorem UpI.done {L:List Tg} {k:Nat} (h:UpI L k) (h0:∀ x y,0<k→L[k]? = some x→L[(k - 1) / 2]? = some y→le7 y x):HeapL L:=fun i x y hi hx hy=>by
 by_cases e:i=k
 ·subst e; exact h0 x y hi hx hy
 ·exact h.1 i x y hi e hx hy
theorem UpI.step {L:List Tg} {k:Nat} (h:UpI L k) {x y:Tg} (hk:0<k) (hx:L[k]? = some x) (hy:L[(k - 1) / 2]? = some y) (hlt:lt7 x y):UpI ((L.set k y).set ((k - 1) / 2) x) ((k - 1) / 2):=by
 obtain ⟨o,ho⟩:∃ o,o=(k - 1) / 2:=⟨_,rfl⟩;rw [← ho] at hy ⊢;have hko:k≠o:=by omega
 refine ⟨fun i a b hi hio ha hb=>?_,fun c a b h0 hc hco ha hb=>?_⟩
 ·rw [GC hx hy,if_neg hio] at ha;rw [GC hx hy] at hb
  by_cases e:i=k
  ·subst e;rw [if_pos rfl] at ha;rw [if_pos ho.symm] at hb;cases ha; cases hb;exact hlt.le
  ·rw [if_neg e] at ha
   by_cases p1:(i - 1) / 2=o
   ·rw [if_pos p1] at hb;cases hb;exact hlt.le.trans (h.1 i a y hi e ha (by rw [p1]; exact hy))
   ·rw [if_neg p1] at hb
    by_cases p2:(i - 1) / 2=k
    ·rw [if_pos p2] at hb;cases hb;exact h.2 i a _ hk hi p2 ha (by rw [← ho]; exact hy)
    ·rw [if_neg p2] at hb;exact h.1 i a b hi e ha hb
 ·rw [GC hx hy,if_neg (by omega:c≠o)] at ha;rw [GC hx hy,if_neg (by omega:(o - 1) / 2≠o),if_neg (by omega:(o - 1) / 2≠k)] at hb;have hz:=h.1 o y b h0 (Ne.symm hko) hy hb
  by_cases e:c=k
  ·rw [if_pos e] at ha;cases ha;exact hz
  ·rw [if_neg e] at ha;exact hz.trans (h.1 c a y hc e ha (by rw [hco]; exact hy))
theorem DownI.none {L:List Tg} {k:Nat} (h:DownI L k) (hn:L.length≤2*k+1):HeapL L:=fun i x y hi hx hy=>by
 have hil:i<L.length:=(List.getElem?_eq_some_iff.1 hx).1;exact h.1 i x y hi (by omega) hx hy
def UZ (L:List Tg) (k o:Nat) (y:Tg):Prop:=(o=2*k+1∨o=2*k+2)∧L[o]? = some y∧∀ i z,(i - 1) / 2=k→0<i→L[i]? = some z→le7 y z
theorem DownI.done {L:List Tg} {k o:Nat} {x y:Tg} (h:DownI L k) (hx:L[k]? = some x) (hl:UZ L k o y) (hn:¬ lt7 y x):HeapL L:=fun i a b hi ha hb=>by
 by_cases e:(i - 1) / 2=k
 ·rw [e,hx] at hb;cases hb;exact (UY hn).trans (hl.2.2 i a e hi ha)
 ·exact h.1 i a b hi e ha hb
theorem DownI.step {L:List Tg} {k o:Nat} {x y:Tg} (h:DownI L k) (hx:L[k]? = some x) (hl:UZ L k o y) (hlt:lt7 y x):DownI ((L.set k y).set o x) o:=by
 obtain ⟨ho,hy,hmin⟩:=hl;have hko:k≠o:=by omega
 have hpo:(o - 1) / 2=k:=by omega
 refine ⟨fun i a b hi hio ha hb=>?_,fun c a b h0 hc hco ha hb=>?_⟩
 ·rw [GC hx hy,if_neg hio] at hb;rw [GC hx hy] at ha
  by_cases p:(i - 1) / 2=k
  ·rw [if_pos p] at hb;cases hb
   by_cases e:i=o
   ·rw [if_pos e] at ha;cases ha;exact hlt.le
   ·rw [if_neg e,if_neg (by omega:i≠k)] at ha;exact hmin i a p hi ha
  ·rw [if_neg p] at hb;rw [if_neg (by omega:i≠o)] at ha
   by_cases e:i=k
   ·rw [if_pos e] at ha;cases ha;subst e;exact h.2 o _ b hi (by omega) hpo hy hb
   ·rw [if_neg e] at ha;exact h.1 i a b hi p ha hb
 ·rw [GC hx hy,if_neg (by omega:c≠o),if_neg (by omega:c≠k)] at ha;rw [GC hx hy,hpo,if_neg hko,if_pos rfl] at hb;cases hb;exact h.1 c a _ hc (by omega) ha (by rw [hco]; exact hy)
theorem HeapL.root {L:List Tg} (h:HeapL L) {r:Tg} (hr:L[0]? = some r):∀ (i:Nat) (x:Tg),L[i]? = some x→le7 r x:=fun i=>by
 induction i using Nat.strongRecOn with
 | _ i ih =>
  intro x hx
  by_cases e:i=0
  ·subst e;rw [hr] at hx;cases hx;exact .inr ⟨rfl,Nat.le_refl _⟩
  ·have hil:i<L.length:=(List.getElem?_eq_some_iff.1 hx).1;obtain ⟨y,hy⟩:∃ y,L[(i - 1) / 2]? = some y:=⟨_,List.getElem?_eq_getElem (by omega)⟩;exact (ih _ (by omega) y hy).trans (h i x y (by omega) hx hy)
theorem HeapL.snoc {L:List Tg} (h:HeapL L) (z:Tg):UpI (L++[z]) L.length:=by
 have hg:∀ (i:Nat) (x:Tg),i≠L.length→(L++[z])[i]? = some x→L[i]? = some x:=fun i x hi hx=>by
  have hil:i<(L++[z]).length:=(List.getElem?_eq_some_iff.1 hx).1;rw [List.length_append,List.length_singleton] at hil
  rwa [List.getElem?_append_left (by omega)] at hx
 refine ⟨fun i x y hi hn hx hy=>?_,fun c x y h0 hc hco hx hy=>?_⟩
 ·have h1:=hg i x hn hx;have hil:i<L.length:=(List.getElem?_eq_some_iff.1 h1).1;exact h i x y hi h1 (hg _ y (by omega) hy)
 ·have hil:c<(L++[z]).length:=(List.getElem?_eq_some_iff.1 hx).1;rw [List.length_append,List.length_singleton] at hil;omega
theorem HeapL.cut {x z:Tg} {L:List Tg} (h:HeapL (x::L)):DownI (((x::L).set 0 z).take L.length) 0:=by
 have hg:∀ (i:Nat) (a:Tg),0<i→(((x::L).set 0 z).take L.length)[i]? = some a→(x::L)[i]? = some a:=fun i a hi ha=>by
  rw [List.getElem?_take] at ha
  split at ha
  ·rwa [List.getElem?_set_ne (by omega)] at ha
  ·cases ha
 exact ⟨fun i a b hi hn ha hb=>h i a b hi (hg i a hi ha) (hg _ b (by omega) hb),fun c a b h0=>absurd h0 (Nat.lt_irrefl 0)⟩
end Go.Proofs.YtdagmpmdcgedcaaGreat
namespace Go.Proofs.YtdagmpmdcgedcaaGreat
open Go.GV
attribute [local irreducible] AB W Wq Wt
theorem EL {α:Type} {enc:α→List Value} {s:Nat}:∀ {L:List α},(∀ x∈L,(enc x).length=s)→(L.flatMap enc).length=L.length*s
 | [],_=>by simp
 | x::L,h=>by
  rw [List.flatMap_cons,List.length_append,h x (List.mem_cons_self ..),EL fun y hy=>h y (List.mem_cons_of_mem _ hy),List.length_cons,Nat.add_mul,Nat.one_mul,Nat.add_comm]
theorem Qv {α:Type} {L:List α} {i:Nat} {x:α} (hx:L[i]? = some x) (y:α):L=L.take i++x::L.drop (i+1)∧L.set i y=L.take i++y::L.drop (i+1):=by
 have hi:=Ck hx;have hg:L[i]=x:=by rw [List.getElem?_eq_getElem hi] at hx; exact Option.some.inj hx
 refine ⟨?_,?_⟩
 ·rw [← hg,← List.drop_eq_getElem_cons hi,List.take_append_drop]
 ·rw [List.set_eq_take_append_cons_drop,if_pos hi]
theorem ZH {α:Type} {enc:α→List Value} {s:Nat} {L:List α} (hs:∀ x∈L,(enc x).length=s) {i:Nat} {x y:α} (hx:L[i]? = some x) (hy:(enc y).length=s) (r:List Value):over (L.flatMap enc++r) (i*s) (enc y)=(L.set i y).flatMap enc++r:=by
 obtain ⟨h1,h2⟩:=Qv hx y;have hi:=Ck hx;have hl:((L.take i).flatMap enc).length=i*s:=by rw [EL fun z hz=>hs z (List.mem_of_mem_take hz),List.length_take,Nat.min_eq_left (by omega)]
 rw [h2]
 conv=>lhs; rw [h1]
 rw [List.flatMap_append,List.flatMap_append,List.flatMap_cons,List.flatMap_cons,List.append_assoc,List.append_assoc,← hl,Y1 _ _ _ _ (by rw [hs x (List.mem_of_getElem? hx),hy])];simp only [List.append_assoc]
theorem Adt {α:Type} {enc:α→List Value} {s:Nat} {L:List α} (hs:∀ x∈L,(enc x).length=s) {i j:Nat} {x y:α} {v:Value} (hx:L[i]? = some x) (hj:j<s) (hy:enc y=(enc x).set j v) (r:List Value):(L.flatMap enc++r).set (i*s+j) v=(L.set i y).flatMap enc++r:=by
 obtain ⟨h1,h2⟩:=Qv hx y;have hi:=Ck hx;have hl:((L.take i).flatMap enc).length=i*s:=by rw [EL fun z hz=>hs z (List.mem_of_mem_take hz),List.length_take,Nat.min_eq_left (by omega)]
 have hxl:=hs x (List.mem_of_getElem? hx);rw [h2]
 conv=>lhs; rw [h1]
 rw [List.flatMap_append,List.flatMap_append,List.flatMap_cons,List.flatMap_cons,List.append_assoc,List.append_assoc,← hl,List.set_append_right _ _ (by omega),Nat.add_sub_cancel_left,List.append_assoc,List.append_assoc,List.set_append_left _ _ (by omega),hy]
theorem OS.over {α:Type} {a:Option Addr} {n c s:Nat} {full:List Value} {enc:α→List Value} {L:List α} (O:OS a n c s full (L.flatMap enc)) (hs:∀ x,(enc x).length=s) {i:Nat} {x:α} (hx:L[i]? = some x) (y:α):OS a n c s (over full (i*s) (enc y)) ((L.set i y).flatMap enc):=by
 refine ⟨O.zero,O.none',by rw [D5]; exact O.len,O.le,?_⟩;rw [O.split,ZH (fun z _=>hs z) hx (hs y)];have h1:=O.llen;rw [EL fun z _=>hs z] at h1;exact List.take_left' (by rw [EL fun z _=>hs z,List.length_set,h1])
theorem MG {α:Type} {L:List α} {i j:Nat} {x y:α} (hx:L[i]? = some x) (hy:L[j]? = some y):((L.set i y).set j x).Perm L:=by
 obtain ⟨hi,rfl⟩:=List.getElem?_eq_some_iff.1 hx;obtain ⟨hj,rfl⟩:=List.getElem?_eq_some_iff.1 hy;exact List.set_set_perm hi hj
def EM (x:Int × Nat):List Value:=[.int .i64 x.1,.int .i64 (x.2:Int)]
theorem IM (x:Int × Nat):∀ v∈EM x,AO v=true:=fun v hv=>by
 simp only [EM,List.mem_cons,List.not_mem_nil,or_false] at hv
 rcases hv with rfl | rfl <;> rfl
theorem OZ (x y:Int × Nat) (w:World):Ret Tryz.prog 286 #[.agg (EM x).toArray,.agg (EM y).toArray] w fun v w'=>v = .bool (decide (lt7 x y))∧Ext [] w w':=by
 obtain ⟨w0,rfl⟩:∃ w0,w0=w:=⟨_,rfl⟩;have H:=Ctx.start w0 [];refine Aw (fn:=Tryz.f286) Tryz.func286 U [.agg (EM x).toArray,.agg (EM y).toArray] U (by kernel_rfl) ?_;refine Af (Bv (EM x) (.agg _) U U H ?_);rintro b2 w - H;refine Bv (EM y) (.agg _) U U H ?_;rintro b3 w - H;refine Ai U (Ab (Aa (Af (Ag JW U (AM Bw U H at1 U (Ag JW U (AM Bw U H at0 U (Bj U U (AE U (AY 10 U ?_ ?_))))))))))
 ·intro h1;replace h1:=AJ h1;refine Ah U (Ah U (Ah U (Ah U (Ah U (Ah U (Ah U (Ah U (Ah U (Ah U ?_)))))))));refine Ah U (Ah U (AN U (.bool _) U (Ai U (Ab (Aa (A4 (AD (v:=(.bool _)) U U U ?_)))))));exact ⟨congrArg Value.bool (by unfold lt7; rw [Bool.eq_iff_iff]; simp_all; try omega),H.ext⟩
 ·intro h2;replace h2:=AK h2;refine Ag JW U (AM Bw U H at1 U (Ag JW U (AM Bw U H at0 U (Cf U U (AE U (AY 16 U ?_ ?_))))))
  ·intro h3;replace h3:=AJ h3;refine Ag OH U (AM Ca U H at1 U (Ag OH U (AM Ca U H at0 U (Bj U U (AN U (.bool _) U (AU U (.bool _) U (Ai U (Ab (Aa (A4 (AD (v:=(.bool _)) U U U ?_)))))))))));exact ⟨congrArg Value.bool (by unfold lt7; rw [Bool.eq_iff_iff]; simp_all; try omega),H.ext⟩
  ·intro h4;replace h4:=AK h4;refine Ah U (Ah U (Ah U (Ah U (Ah U (AU U (.bool _) U (AU U (.bool _) U (Ai U (Ab (Aa (A4 (AD (v:=(.bool _)) U U U ?_)))))))))));exact ⟨congrArg Value.bool (by unfold lt7; rw [Bool.eq_iff_iff]; simp_all; try omega),H.ext⟩
theorem adr0 (q:Nat):(adr (some ⟨q,0,none⟩)).off=0:=rfl
abbrev HB (bh:Nat) (a:Option Addr) (n c:Nat) (full:List Value):List (Nat × Obj):=(bh,Bl 318 [.slice a n c])::ent a 321 full
set_option maxRecDepth 20000 in
set_option maxHeartbeats 4000000 in
theorem up_ok {w:World} {bh q n c:Nat} {full:List Value} {L:List (Int × Nat)} (H0:Ctx w [bh,q] w (HB bh (some ⟨q,0,none⟩) n c full)) (O:OS (some ⟨q,0,none⟩) n c 2 full (L.flatMap EM)) (k:Nat) (hk:k<n) (hn:n≤1000000000) (hU:UpI L k) :
  Ret Tryz.prog 285 #[ptr bh,.int .i64 (k:Int)] w fun v w'=>v = .tuple #[]∧∃ (L':List (Int × Nat)) (full':List Value),L'.Perm L∧HeapL L'∧OS (some ⟨q,0,none⟩) n c 2 full' (L'.flatMap EM)∧Ctx w [bh,q] w' (HB bh (some ⟨q,0,none⟩) n c full'):=by
 obtain ⟨w0,rfl⟩:∃ w0,w0=w:=⟨_,rfl⟩;have H:=H0;refine Aw (fn:=Tryz.f285) Tryz.func285 U [.pointer (some ⟨bh,0,none⟩),.int .i64 (k:Int)] U (by kernel_rfl) ?_;refine Rc (Aq (Rb (Aa (A0 (Bt 9007199254740978 (α:=Nat × List (Int × Nat) × List Value) (fun s=>[(1,.int .i64 (s.1:Int))]) (fun s w'=>s.1<n∧s.2.1.Perm L∧UpI s.2.1 s.1∧OS (some ⟨q,0,none⟩) n c 2 s.2.2 (s.2.1.flatMap EM)∧Ctx w0 [bh,q] w' (HB bh (some ⟨q,0,none⟩) n c s.2.2)) (fun s=>s.1) (k,L,full) U ?_ ?_ ?_)))))
 ·exact ⟨rfl,trivial⟩
 ·exact ⟨hk,.refl _,hU,O,H⟩
 ·rintro ⟨k,L',f'⟩ j w ⟨hk,hp,hU,O,H⟩; dsimp only at hk hp hU O H; dsimp only;have hnum:n=L'.length:=O.numN (fun _ _=>rfl) (by decide);refine Aq (Af (Ae U (Cs U U (Ab (Aa (Ap _ U ?_ ?_))))))
  ·intro h1;replace h1:=AJ h1;obtain ⟨o,ho⟩:∃ o,o=(k - 1) / 2:=⟨_,rfl⟩;obtain ⟨x,hxk⟩:=A8 (l:=L') (i:=k);obtain ⟨y,hyo⟩:=A8 (l:=L') (i:=o);have Rk:=O.rd (w:=w.drew) (t:=321) (fun y hy=>H.drew.blk y (List.mem_cons_of_mem _ hy)) (fun _ _=>rfl) (by decide);refine Au (Aa (A0 (Af (Ae U (Br U U ?_)))));refine JK U U (show _≤(9223372036854775807:Int) by omega) ?_;rw [show ((k:Int) - 1) / 2=(o:Int) by omega];refine Ad U (Ab (Aa (Aq (Eb 14 Bs (by kernel_rfl) U U ?_))));refine B4 U (Bb U (A7 C0 U (Cn D6 U (by rintro _ rfl; exact H.drew) at0 U ?_)));refine Bh U (C5 Rk Dt CH U U (by omega) ?_);refine KH _ U Hm CH U U (by rintro _ rfl; exact (Rk.row hxk rfl)) ?_;refine B4 U (Bb U (A7 C0 U (Cn D6 U (by rintro _ rfl; exact H.drew) at0 U ?_)))
   refine Bh U (C5 Rk Dt CH U U (by omega) ?_);refine KH _ U Hm CH U U (by rintro _ rfl; exact (Rk.row hyo rfl)) ?_;refine BW ?_;replace H:=H.drew;refine Al UP (OZ x y _) U ?_;rintro v w ⟨rfl,hx24⟩;replace H:=H.call hx24;refine BA U (Ab (Aa (Ap _ U ?_ ?_)))
   ·intro h2;replace h2:=BE h2;refine Bq (Am (Fh U (Am (AG (Ly (CF U U ?_))))));have hnl:¬ lt7 x y:=by simpa using h2
    exact ⟨rfl,L',f',hp,hU.done fun a b _ ha hb=>by
     rw [hxk] at ha;rw [← ho,hyo] at hb;cases ha; cases hb
     exact UY hnl,O,H⟩
   ·intro h2;replace h2:=BF h2;obtain ⟨w7,rfl⟩:∃ z,z=w:=⟨_,rfl⟩;have R7:=O.rd (w:=w7.drew) (t:=321) (fun y hy=>H.drew.blk y (List.mem_cons_of_mem _ hy)) (fun _ _=>rfl) (by decide);have hol:=O.len;have hole:=O.le;refine Au (Aa (Cq [([0,1,2,3,4,5,6,7,8,9,10,11,12,13,14,15,16,17,18,19,20,21,22,23,24],25),([26],27)] (fun z=>z=World.drew w7) [25,27] Bs (by kernel_rfl) (rfl) ?_));refine AF U U ?_;refine BD U (Bd U (An U C0 U (KL D6 U (by rintro _ rfl; exact H.drew) at0 U ?_)));refine Be U (BD U (Bd U (An U C0 U (KL D6 U (by rintro _ rfl; exact H.drew) at0 U ?_))));refine Be U (BD U (Bd U (An U C0 U (KL D6 U (by rintro _ rfl; exact H.drew) at0 U ?_))));refine Be U (DP R7 Dt CH U U ?_);refine G5 _ Hm CH U U (fun _ hx=>(by subst hx; exact R7.row hyo rfl)) ?_
    refine BD U (Bd U (An U C0 U (KL D6 U (by rintro _ rfl; exact H.drew) at0 U ?_)));refine Be U (DP R7 Dt CH U U ?_);refine G5 _ Hm CH U U (fun _ hx=>(by subst hx; exact R7.row hxk rfl)) ?_;refine DP R7 Dt CH U U ?_;refine AP ?_;replace H:=H.drew;refine GR (vs:=EM y) U CH U U U (IM y) H at1 (by show 0+(k:Int).toNat*2+2≤_; omega) ?_;rintro w H;refine Ab (Bz U (AF U U ?_));refine DP R7 Dt CH U U ?_;refine AP (GR (vs:=EM x) U CH U U U (IM x) H at1 (by rw [D5]; show 0+(o:Int).toNat*2+2≤_; omega) ?_);rintro w H;refine Ab (Bz U (BH (Az (Ae U (Ad U (Ab (A5 (Aa ?_))))))));have hne:k≠o:=by omega
    refine ⟨(o,(L'.set k y).set o x,over (over f' (k*2) (EM y)) (o*2) (EM x)),rfl,⟨rfl,trivial⟩,⟨by dsimp only; omega,(MG hxk hyo).trans hp,by dsimp only; rw [ho]; exact hU.step (by omega) hxk (by rw [← ho]; exact hyo) (by simpa using h2),OS.over (OS.over O (fun _=>rfl) hxk y) (fun _=>rfl) (by rw [List.getElem?_set_ne hne]; exact hyo) x,?_⟩,by dsimp only; omega⟩;simp only [adr0,Int.toNat_natCast,Nat.zero_add] at H;exact H
  ·intro h1;replace h1:=AK h1;refine Bq (Am (Am (AG (Ly (CF U U ?_)))));exact ⟨rfl,L',f',hp,hU.done fun a b h0=>absurd h0 (by omega),O,H⟩
set_option maxRecDepth 20000 in
set_option maxHeartbeats 4000000 in
theorem Adu {w:World} {bh q n c:Nat} {full:List Value} {L:List (Int × Nat)} (H0:Ctx w [bh,q] w (HB bh (some ⟨q,0,none⟩) n c full)) (O:OS (some ⟨q,0,none⟩) n c 2 full (L.flatMap EM)) (hD:DownI L 0)  (hn:n≤1000000000:=by omega):
  Ret Tryz.prog 281 #[ptr bh,.int .i64 0] w fun v w'=>v = .tuple #[]∧∃ (L':List (Int × Nat)) (full':List Value),L'.Perm L∧HeapL L'∧OS (some ⟨q,0,none⟩) n c 2 full' (L'.flatMap EM)∧Ctx w [bh,q] w' (HB bh (some ⟨q,0,none⟩) n c full'):=by
 obtain ⟨w0,rfl⟩:∃ w0,w0=w:=⟨_,rfl⟩;have H:=H0;refine Aw (fn:=Tryz.f281) Tryz.func281 U [.pointer (some ⟨bh,0,none⟩),.int .i64 0] U (by kernel_rfl) ?_;refine Rc (Aq (Rb (Aa (A0 (Bt 77371252455336267181195250 (α:=Nat × List (Int × Nat) × List Value) (fun s=>[(1,.int .i64 (s.1:Int))]) (fun s w'=>s.1≤n∧s.2.1.Perm L∧DownI s.2.1 s.1∧OS (some ⟨q,0,none⟩) n c 2 s.2.2 (s.2.1.flatMap EM)∧Ctx w0 [bh,q] w' (HB bh (some ⟨q,0,none⟩) n c s.2.2)) (fun s=>n - s.1) (0,L,full) U ?_ ?_ ?_)))))
 ·exact ⟨rfl,trivial⟩
 ·exact ⟨Nat.zero_le _,.refl _,hD,O,H⟩
 ·rintro ⟨k,L',f'⟩ j w ⟨hk,hp,hD,O,H⟩; dsimp only at hk hp hD O H; dsimp only;have hnum:n=L'.length:=O.numN (fun _ _=>rfl) (by decide);have hol:=O.len;have hole:=O.le;obtain ⟨m,hm⟩:∃ m,m=2*k+1:=⟨_,rfl⟩;refine A0 (Af (Ae U (DE U U ?_)));refine Ax U U ?_;rw [show (2*(k:Int)+1)=(m:Int) by omega];refine Ad U (Ab (Aa (Aq (Af (Ae U (Ay U (A9 U (Ag C0 U (AM D6 U H at0 U (Bi Dt U ?_))))))))));refine C4 U U (Ab (Aa (Ap _ U ?_ ?_)))
  ·intro h1;replace h1:=AJ h1;refine Bq (Am (Fh U (Am (AG (Ly (CF U U ?_))))));exact ⟨rfl,L',f',hp,hD.none (by omega),O,H⟩
  ·intro h1;replace h1:=AK h1;obtain ⟨x,hxm⟩:=A8 (l:=L') (i:=m);refine Au (Aa (Aq (DC 2199023222784 (α:=Bool) (fun z=>[(40,.bool z)]) (fun z w'=>(z=true→∃ y,L'[m+1]? = some y∧lt7 y x)∧(z=false→∀ y,L'[m+1]? = some y→¬ lt7 y x)∧Ctx w0 [bh,q] w' (HB bh (some ⟨q,0,none⟩) n c f')) U ?_ ?_)))
   ·skip
    have Rk:=O.rd (w:=w.drew) (t:=321) (fun y hy=>H.drew.blk y (List.mem_cons_of_mem _ hy)) (fun _ _=>rfl) (by decide)
    obtain ⟨y,hy7⟩:∃ y,m+1<n→L'[m+1]? = some y:=by
     by_cases h:m+1<n
     ·obtain ⟨y,hy⟩:=A8 (l:=L') (i:=m+1);exact ⟨y,fun _=>hy⟩
     ·exact ⟨x,fun h'=>absurd h' h⟩
    refine FC 24 Bs (by kernel_rfl) U U ?_;refine Bh U (De U U ?_);refine B4 U (Bb U (A7 C0 U (Cn D6 U (by rintro _ rfl; exact H.drew) at0 U ?_)));refine Afk U Dt U (KI U U (CU U (Dw 23 U ?_ ?_)))
    ·intro h2;replace h2:=AJ h2;refine B4 U (Bb U (A7 C0 U (Cn D6 U (by rintro _ rfl; exact H.drew) at0 U ?_)));refine Bh U (De U U ?_);refine C5 Rk Dt CH U U (by omega) ?_;refine KH _ U Hm CH U U (by rintro _ rfl; exact (Rk.row (hy7 (by omega)) rfl)) ?_;refine B4 U (Bb U (A7 C0 U (Cn D6 U (by rintro _ rfl; exact H.drew) at0 U ?_)));refine Bh U (C5 Rk Dt CH U U (by omega) ?_);refine KH _ U Hm CH U U (by rintro _ rfl; exact (Rk.row hxm rfl)) ?_;refine BW ?_;replace H:=H.drew;refine Al UP (OZ y x _) U ?_;rintro v w ⟨rfl,hx39⟩;replace H:=H.call hx39;refine AN U (.bool _) U (Ab (Aa ?_))
     exact ⟨decide (lt7 y x),rfl,⟨rfl,trivial⟩,fun h=>⟨y,hy7 (by omega),of_decide_eq_true h⟩,fun h z hz=>by
      rw [hy7 (by omega)] at hz;cases hz
      exact of_decide_eq_false h,H⟩
    ·intro h2;replace h2:=AK h2;refine A2 U (A2 U (A2 U (A2 U (A2 U (A2 U (A2 U (A2 U (A2 U (A2 U ?_)))))))));refine A2 U (A2 U (A2 U (A2 U (A2 U (BW ?_)))));replace H:=H.drew;refine Ah U (AU U (.bool _) U (Ab (Aa ?_)));exact ⟨false,rfl,⟨rfl,trivial⟩,(fun h=>by cases h),(fun _ z hz=>by have:=Ck hz; omega),H⟩
   ·rintro z j2 w ⟨hzt,hzf,H⟩;refine F8 6597069766672 (α:=Nat) (fun z=>[(4,.int .i64 (z:Int))]) (fun z w'=>(∃ y,UZ L' k z y)∧Ctx w0 [bh,q] w' (HB bh (some ⟨q,0,none⟩) n c f')) U ?_ ?_
    ·skip
     refine Ap _ U ?_ ?_
     ·intro h2;obtain ⟨y,hy,hlt⟩:=hzt h2;have hz':=Ck hy;refine Az (Ae U (Ax U U ?_));refine Ad U (Ab (Aa ?_));refine ⟨m+1,rfl,⟨rfl,trivial⟩,⟨y,.inr (by omega),hy,fun i a hi h0 ha=>?_⟩,H⟩;have:i=m∨i=m+1:=by omega
      rcases this with rfl | rfl
      ·rw [hxm] at ha; cases ha; exact hlt.le
      ·rw [hy] at ha; cases ha; exact .inr ⟨rfl,Nat.le_refl _⟩
     ·intro h2;refine Au (Aa ?_);refine ⟨m,rfl,⟨rfl,trivial⟩,⟨x,.inl (by omega),hxm,fun i a hi h0 ha=>?_⟩,H⟩;have:i=m∨i=m+1:=by omega
      rcases this with rfl | rfl
      ·rw [hxm] at ha; cases ha; exact .inr ⟨rfl,Nat.le_refl _⟩
      ·exact UY (hzf h2 a ha)
    ·rintro o j3 w ⟨⟨y,hl2⟩,H⟩;obtain ⟨x,hxk⟩:=A8 (l:=L') (i:=k);have hyo:=hl2.2.1;have hon:=Ck hyo;have hko:k<o:=by have:=hl2.1; omega
     have Rk:=O.rd (w:=w.drew) (t:=321) (fun y hy=>H.drew.blk y (List.mem_cons_of_mem _ hy)) (fun _ _=>rfl) (by decide);refine Aq (Eb 14 Bs (by kernel_rfl) U U ?_);refine B4 U (Bb U (A7 C0 U (Cn D6 U (by rintro _ rfl; exact H.drew) at0 U ?_)));refine Bh U (C5 Rk Dt CH U U (by omega) ?_);refine KH _ U Hm CH U U (by rintro _ rfl; exact (Rk.row hyo rfl)) ?_;refine B4 U (Bb U (A7 C0 U (Cn D6 U (by rintro _ rfl; exact H.drew) at0 U ?_)));refine Bh U (C5 Rk Dt CH U U (by omega) ?_);refine KH _ U Hm CH U U (by rintro _ rfl; exact (Rk.row hxk rfl)) ?_;refine BW ?_;replace H:=H.drew;refine Al UP (OZ y x _) U ?_;rintro v w ⟨rfl,hx57⟩;replace H:=H.call hx57;refine BA U (Ab (Aa (Ap _ U ?_ ?_)))
     ·intro h2;replace h2:=BE h2;refine Bq (Am (Fh U (Am (AG (Ly (CF U U ?_))))));exact ⟨rfl,L',f',hp,hD.done hxk hl2 (by simpa using h2),O,H⟩
     ·intro h2;replace h2:=BF h2;obtain ⟨w7,rfl⟩:∃ z,z=w:=⟨_,rfl⟩;have R7:=O.rd (w:=w7.drew) (t:=321) (fun y hy=>H.drew.blk y (List.mem_cons_of_mem _ hy)) (fun _ _=>rfl) (by decide);refine Au (Aa (Cq [([0,1,2,3,4,5,6,7,8,9,10,11,12,13,14,15,16,17,18,19,20,21,22,23,24],25),([26],27)] (fun z=>z=World.drew w7) [25,27] Bs (by kernel_rfl) (rfl) ?_));refine AF U U ?_;refine BD U (Bd U (An U C0 U (KL D6 U (by rintro _ rfl; exact H.drew) at0 U ?_)));refine Be U (BD U (Bd U (An U C0 U (KL D6 U (by rintro _ rfl; exact H.drew) at0 U ?_))));refine Be U (BD U (Bd U (An U C0 U (KL D6 U (by rintro _ rfl; exact H.drew) at0 U ?_))));refine Be U (DP R7 Dt CH U U ?_);refine G5 _ Hm CH U U (fun _ hx=>(by subst hx; exact R7.row hyo rfl)) ?_;refine BD U (Bd U (An U C0 U (KL D6 U (by rintro _ rfl; exact H.drew) at0 U ?_)))
      refine Be U (DP R7 Dt CH U U ?_);refine G5 _ Hm CH U U (fun _ hx=>(by subst hx; exact R7.row hxk rfl)) ?_;refine DP R7 Dt CH U U ?_;refine AP ?_;replace H:=H.drew;refine GR (vs:=EM y) U CH U U U (IM y) H at1 (by show 0+(k:Int).toNat*2+2≤_; omega) ?_;rintro w H;refine Ab (Bz U (AF U U ?_));refine DP R7 Dt CH U U ?_;refine AP (GR (vs:=EM x) U CH U U U (IM x) H at1 (by rw [D5]; show 0+(o:Int).toNat*2+2≤_; omega) ?_);rintro w H;refine Ab (Bz U (BH (Az (Ae U (Ad U (Ab (A5 (Aa ?_))))))));have hne:k≠o:=by omega
      refine ⟨(o,(L'.set k y).set o x,over (over f' (k*2) (EM y)) (o*2) (EM x)),rfl,⟨rfl,trivial⟩,⟨by dsimp only; omega,(MG hxk hyo).trans hp,hD.step hxk hl2 (by simpa using h2),OS.over (OS.over O (fun _=>rfl) hxk y) (fun _=>rfl) (by rw [List.getElem?_set_ne hne]; exact hyo) x,?_⟩,by dsimp only; omega⟩;simp only [adr0,Int.toNat_natCast,Nat.zero_add] at H;exact H
theorem Adv (w:World):Ret Tryz.prog 265 #[] w fun v w'=>∃ b,v=ptr b∧w.heap.size≤b∧w'.heap[b]? = some (Bl 318 [.slice none 0 0])∧Ext [] w w':=by
 obtain ⟨w0,rfl⟩:∃ w0,w0=w:=⟨_,rfl⟩;have H:=Ctx.start w0 [];refine Aw (fn:=Tryz.f265) Tryz.func265 U [] U (by kernel_rfl) ?_;refine Af (B3 U (Ab (Aa (Af (B1 [.slice none 0 0] Ai9 Ajj (by kernel_rfl) ?_)))));refine Bv [.slice none 0 0] (.agg _) U U H ?_;rintro b2 w - H;refine B3 U (Ab (Aa (A4 (AD (v:=(.pointer _)) U U U ?_))));exact ⟨b2,rfl,(H.own _ (List.mem_cons_self ..)).elim (fun h=>by cases h) id,H.get at0,H.ext⟩
theorem Adw {w:World} {bh:Nat} {a:Option Addr} {n c:Nat} (hb:w.heap[bh]? = some (Bl 318 [.slice a n c])):Ret Tryz.prog 267 #[ptr bh] w fun v w'=>v = .int .i64 (n:Int)∧w=w':=by
 obtain ⟨w0,rfl⟩:∃ w0,w0=w:=⟨_,rfl⟩;refine Aw (fn:=Tryz.f267) Tryz.func267 U [.pointer (some ⟨bh,0,none⟩)] U (by kernel_rfl) ?_;refine Af (Ad U (Ab (Aa (Aq (Af (Ay U (Co UR U ?_)))))));refine Ab (Aa (Ap _ U ?_ ?_))
 ·intro h1;cases h1
 ·intro h1;refine Au (Aa (Af (Ay U (A9 U (Ag C0 U (AZ D6 U ((by rw [Aj hb]; rfl)) ?_))))));refine Bi Dt U (Ad U (Ab (Aa (A4 (AD (v:=(.int _ _)) U U U ?_)))));exact ⟨rfl,rfl⟩
theorem Adx {w:World} {bh:Nat} {a:Option Addr} {n c:Nat} {x:Int × Nat} {L:List (Int × Nat)} (hb:w.heap[bh]? = some (Bl 318 [.slice a n c])) (R:Rd w a 2 EM (x::L)) (hn:n=L.length+1):Ret Tryz.prog 280 #[ptr bh] w fun v w'=>v = .tuple #[.int .i64 x.1,.int .i64 (x.2:Int),.int .i64 0]∧Ext [] w w':=by
 obtain ⟨w0,rfl⟩:∃ w0,w0=w:=⟨_,rfl⟩;have H:=Ctx.start w0 [];have hbd:w0.drew.heap[bh]? = some (Bl 318 [.slice a n c]):=hb;have Rd':=R.ext0 (Ext.drew [] w0);refine Aw (fn:=Tryz.f280) Tryz.func280 U [.pointer (some ⟨bh,0,none⟩)] U (by kernel_rfl) ?_;refine Af (Ad U (Ad U (Ad U (Ab (Aa (Aq (A0 (Af (Ay U (Co UR U ?_))))))))));refine Ai U (Ab (Aa (Ap _ U ?_ ?_)))
 ·intro h1;cases h1
 ·intro h1;refine Af (Ay U (A9 U (Ag C0 U (AZ D6 U ((by rw [Aj hb]; rfl)) ?_))));refine Bi Dt U (Cf U U (Ai U (Ab (Aa (Ap _ U ?_ ?_)))))
  ·intro h2;replace h2:=AJ h2;omega
  ·intro h2;replace h2:=AK h2;refine Au (A5 (Aa (Er (fun x=>x=_) Bs (by kernel_rfl) U ?_)));refine B4 U (Bb U (A7 C0 U (BX D6 U (by rintro _ rfl; exact ((by rw [Aj hbd]; rfl))) ?_)));refine C5 Rd' Dt CH U U (by omega) ?_;refine A7 JW U (BX Bw U (by rintro _ rfl; exact ((Rd'.fld (i:=0) rfl rfl (j:=0) rfl))) ?_);refine B4 U (Bb U (A7 C0 U (BX D6 U (by rintro _ rfl; exact ((by rw [Aj hbd]; rfl))) ?_)));refine C5 Rd' Dt CH U U (by omega) ?_;refine A7 OH U (BX Ca U (by rintro _ rfl; exact ((Rd'.fld (i:=0) rfl rfl (j:=1) rfl))) ?_);refine Db U (Db U (Db U (BW ?_)));rintro _ rfl;replace H:=H.drew;refine A4 (Mq (v1:=(.int _ _)) (v2:=(.int _ _)) (v3:=(.int _ _)) U U U U U ?_);exact ⟨rfl,H.ext⟩
end Go.Proofs.YtdagmpmdcgedcaaGreat
namespace Go.Proofs.YtdagmpmdcgedcaaGreat
open Go.GV
attribute [local irreducible] AB W Wq Wt
set_option maxRecDepth 20000 in
set_option maxHeartbeats 2000000 in
theorem VZ {w:World} {bh n c:Nat} {a:Option Addr} {full:List Value} {L:List (Int × Nat)} (H0:Ctx w ((HB bh a n c full).map (·.1)) w (HB bh a n c full)) (O:OS a n c 2 full (L.flatMap EM)) (hH:HeapL L) (key:Int) (item:Nat)  (hn:n≤100000000:=by omega):
  Ret Tryz.prog 279 #[ptr bh,.int .i64 key,.int .i64 (item:Int)] w fun v w'=>v = .int .i64 0∧∃ (a':Option Addr) (c':Nat) (full':List Value) (L':List (Int × Nat)),L'.Perm ((key,item)::L)∧HeapL L'∧OS a' (n+1) c' 2 full' (L'.flatMap EM)∧Ctx w ((HB bh a n c full).map (·.1)) w' (HB bh a' (n+1) c' full'):=by
 obtain ⟨w0,rfl⟩:∃ w0,w0=w:=⟨_,rfl⟩;have H:=H0;refine Aw (fn:=Tryz.f279) Tryz.func279 U [.pointer (some ⟨bh,0,none⟩),.int .i64 key,.int .i64 (item:Int)] U (by kernel_rfl) ?_;refine Af (Ad U (Ab (Aa (Aq (Af (Ay U (Co UR U ?_)))))));refine Ab (Aa (Ap _ U ?_ ?_))
 ·intro h1;cases h1
 ·intro h1;refine Au (Aa (Af (Ay U (Ay U (A9 U (Ag C0 U (AM D6 U H at0 U (Ae U (Ae U (B1 (EM (key,item)) Aja UT (by kernel_rfl) ?_))))))))));refine Ct (EM (key,item)) (.agg _) Dt CH UT U (by decide) (by decide) U U U H ?_;rintro b17 w - H;refine CA (L:=[(bh,_)]) Dt Dt CH Agq UT U (by decide) U U H O U (IM _) ?_;rintro a18 c18 f18 w H O18;have O8:OS a18 (n+1) c18 2 f18 ((L++[(key,item)]).flatMap EM):=by rw [List.flatMap_append]; simpa using O18
  refine A9 U (Ag C0 U (Cp (.slice _ _ _) Zr U U U H at0 (by (simp; done)) ?_));rintro w H;refine Ab (Aa (Af (Ay U (Ay U (A9 U (Ag C0 U (AM D6 U H at0 U (Bi Dt U (Br U U ?_)))))))));rw [show (((n+1:Nat):Int) - 1)=(n:Int) by omega];obtain ⟨q,rfl⟩:=O8.form (by omega);refine Al Ai6 (up_ok (Ctx.lend (L2:=[]) H.app_nil) O8 n (by omega) (by omega) (by have hnum:n=L.length:=O.numN (fun _ _=>rfl) (by decide); rw [hnum]; exact hH.snoc _)) U ?_;rintro v w ⟨rfl,L',f',hp,hH',O',H'⟩;replace H:=(Ctx.back (L2:=[]) H.app_nil H').nil_app;refine Ab (Aa (Af (Ad U (Ab (Aa (A4 (AD (v:=(.int _ _)) U U U ?_)))))));exact ⟨rfl,some ⟨q,0,none⟩,c18,f',L',hp.trans (List.perm_append_singleton _ _),hH',O',H⟩
theorem OS.short {α:Type} {a:Option Addr} {n c s:Nat} {full:List Value} {enc:α→List Value} {L:List α} (O:OS a n c s full (L.flatMap enc)) (hs:∀ x,(enc x).length=s) {m:Nat} (hm:m≤n):OS a m c s full ((L.take m).flatMap enc):=by
 refine ⟨O.zero,O.none',O.len,Nat.le_trans hm O.le,?_⟩;have h1:=O.pre;have h2:full.take (m*s)=(full.take (n*s)).take (m*s):=by rw [List.take_take,Nat.min_eq_left (Nat.mul_le_mul_right _ hm)]
 have hl:=O.llen;rw [EL fun z _=>hs z] at hl;rw [h2,h1]
 conv=>lhs; rw [← List.take_append_drop m L,List.flatMap_append]
 by_cases h0:s=0
 ·subst h0;have hz:∀ M:List α,M.flatMap enc=[]:=fun M=>List.eq_nil_of_length_eq_zero (by rw [EL fun z _=>hs z]; rfl);rw [hz,hz]; simp
 ·have hL:n=L.length:=Nat.eq_of_mul_eq_mul_right (by omega) hl.symm;exact List.take_left' (by rw [EL fun z _=>hs z,List.length_take,Nat.min_eq_left (by omega)])
theorem ZI {α:Type} {x z:α} {L:List α} (hz:(x::L)[L.length]? = some z):(((x::L).set 0 z).take L.length).Perm L:=by
 rcases List.eq_nil_or_concat L with rfl | ⟨M,y,rfl⟩
 ·simp
 ·have:z=y:=by
   rw [List.concat_eq_append,List.length_append,List.length_singleton,List.getElem?_cons_succ,List.getElem?_append_right (Nat.le_refl _),Nat.sub_self] at hz
   simpa using hz.symm
  subst this;rw [List.concat_eq_append,List.set_cons_zero,List.length_append,List.length_singleton,List.take_succ_cons,List.take_left' rfl];exact (List.perm_append_singleton _ _).symm
set_option maxRecDepth 20000 in
set_option maxHeartbeats 2000000 in
theorem Ajn {w:World} {bh q n c:Nat} {full:List Value} {x:Int × Nat} {L:List (Int × Nat)} (H0:Ctx w [bh,q] w (HB bh (some ⟨q,0,none⟩) n c full)) (O:OS (some ⟨q,0,none⟩) n c 2 full ((x::L).flatMap EM)) (hH:HeapL (x::L))  (hn:n≤100000000:=by omega):
  Ret Tryz.prog 268 #[ptr bh] w fun v w'=>v = .tuple #[.int .i64 x.1,.int .i64 (x.2:Int),.int .i64 0]∧∃ (full':List Value) (L':List (Int × Nat)),L'.Perm L∧HeapL L'∧OS (some ⟨q,0,none⟩) L.length c 2 full' (L'.flatMap EM)∧Ctx w [bh,q] w' (HB bh (some ⟨q,0,none⟩) L.length c full'):=by
 obtain ⟨w0,rfl⟩:∃ w0,w0=w:=⟨_,rfl⟩;have H:=H0;have hnum:n=L.length+1:=O.numN (fun _ _=>rfl) (by decide);subst hnum;have hol:=O.len;have hole:=O.le;refine Aw (fn:=Tryz.f268) Tryz.func268 U [.pointer (some ⟨bh,0,none⟩)] U (by kernel_rfl) ?_;refine Af (Ad U (Ad U (Ad U (Ab (Aa (Af (Ay U (Al Ai2 (Adx (H.get at0) (O.rd (t:=321) (fun y hy=>H.blk y (List.mem_cons_of_mem _ hy)) (fun _ _=>rfl) (by decide)) U) U ?_))))))));rintro v w ⟨rfl,hx8⟩;replace H:=H.call hx8;refine BM U (A6 U U (A6 U U (A6 U U (Ad U (Ad U (Ad U (Ab (Aa (Aq (Af ?_))))))))));refine Ae U (Cf U U (Ab (Aa (Ap _ U ?_ ?_))))
 ·intro h1;replace h1:=AJ h1;obtain ⟨z,hz⟩:=A8 (l:=x::L) (i:=L.length) (h:=by simp);refine Af (Ay U (A9 U (Ag C0 U (AM D6 U H at0 U (Bi Dt U (Br U U ?_))))));rw [show (((L.length+1:Nat):Int) - 1)=(L.length:Int) by omega];refine Ad U (Ab (Aa ?_));obtain ⟨w7,rfl⟩:∃ z,z=w:=⟨_,rfl⟩;have R7:=O.rd (w:=w7.drew) (t:=321) (fun y hy=>H.drew.blk y (List.mem_cons_of_mem _ hy)) (fun _ _=>rfl) (by decide);have O9:=OS.short (OS.over O (fun _=>rfl) (i:=0) (x:=x) rfl z) (fun _=>rfl) (m:=L.length) (by omega);refine Cq [([0,1,2,3,4,5,6,7,8,9,10,11],12)] (fun z=>z=World.drew w7) [12] Bs (by kernel_rfl) (rfl) ?_;refine AF U U ?_;refine BD U (Bd U (An U C0 U (KL D6 U (by rintro _ rfl; exact H.drew) at0 U ?_)));refine BD U (Bd U (An U C0 U (KL D6 U (by rintro _ rfl; exact H.drew) at0 U ?_)));refine Be U (DP R7 Dt CH U U (hn:=by rfl) ?_)
  refine G5 _ Hm CH U U (fun _ hx=>(by subst hx; exact R7.row hz rfl)) ?_;refine DP R7 Dt CH U U (hn:=by rfl) ?_;refine AP ?_;replace H:=H.drew;refine GR (vs:=EM z) U CH U U U (IM z) H at1 (by show 0+(0:Int).toNat*2+2≤_; rw [hol]; omega) ?_;rintro w H;rw [adr0,show (0:Nat)+(0:Int).toNat*2=0*2 from rfl] at H;refine Ab (Bz U (BH (Af (Ay U (Ay U (A9 U (Ag C0 U (AM D6 U H at0 U (Ae U (JL U Dt CH U U ?_))))))))));refine A9 U (Ag C0 U (Cp (.slice _ _ _) Zr U U U H at0 (by (simp; done)) ?_));rintro w H;refine Ab (Aa (Az (Ay U (Al Ai3 (Adu (Ctx.lend (L2:=[]) H.app_nil) O9 hH.cut) U ?_))));rintro v w ⟨rfl,L',f',hp,hH',O',H'⟩;replace H:=(Ctx.back (L2:=[]) H.app_nil H').nil_app
  refine Ab (Aa (Af (Ae U (Ae U (Ae U (Ad U (Ad U (Ad U (Ab (Aa (A4 (Mq (v1:=(.int _ _)) (v2:=(.int _ _)) (v3:=(.int _ _)) U U U U U ?_))))))))))));exact ⟨rfl,f',L',hp.trans (ZI hz),hH',O',H⟩
 ·intro h1;replace h1:=AK h1;exact absurd U h1
end Go.Proofs.YtdagmpmdcgedcaaGreat
namespace Go.Proofs.YtdagmpmdcgedcaaGreat
open Go.GV
attribute [local irreducible] AB W Wq Wt
theorem Ke {P:Program} {e:Env} {w:World} {fn:Func} {R:Value→World→Prop} {a:Tmp} {t:TypeId} {p:Addr} (hr:fn.results=#[.cell a t]) (ha:e.g a = .pointer (some p)) (h:Marks e.ds w fun w'=>∃ v,(loadVar t p).run P w' = .ok v w'∧R v w'):SV P fn R .ret e w :=
 Marks.mono (fun w ⟨v,hv,h⟩ tmps ht=>by
  have h1:=(ht a).trans ha;rw [Array.getD_eq_getD_getElem?] at h1
  exact ⟨v,by simp [results,hr,h1,asAddr,hv],h⟩) h
def GD (g:Gr) (p:Nat→Int) (k:Nat):List Value:=[.int .i64 (k:Int),.int .i64 (g.u k:Int),.int .i64 (g.v k:Int),.int .i64 (g.len p k)]
theorem Pa (g:Gr) (p:Nat→Int) (k:Nat):∀ v∈GD g p k,AO v=true:=fun v hv=>by
 simp only [GD,List.mem_cons,List.not_mem_nil,or_false] at hv
 rcases hv with rfl | rfl | rfl | rfl <;> rfl
def E0 (cap x:Nat→Int) (k:Nat):List Nat:=(List.range (2*k)).filter fun a=>decide (0<CC cap x a)
def KQ (g:Gr) (p:Nat→Int) (l:List Nat):List (List Value):=l.map fun a=>[.agg (GD g p a).toArray]
theorem Qw (cap x:Nat→Int) (k:Nat):E0 cap x (k+1)=E0 cap x k++((if 0<CC cap x (2*k) then [2*k] else [])++if 0<CC cap x (2*k+1) then [2*k+1] else []):=by
 unfold E0;rw [show 2*(k+1)=2*k+1+1 by omega,List.range_succ,List.range_succ,List.append_assoc,List.filter_append]
 congr 1
 rw [List.filter_append]
 congr 1
 ·by_cases h:0<CC cap x (2*k)
  ·rw [if_pos h,List.filter_cons,decide_eq_true h]; rfl
  ·rw [if_neg h,List.filter_cons,decide_eq_false h]; rfl
 ·by_cases h:0<CC cap x (2*k+1)
  ·rw [if_pos h,List.filter_cons,decide_eq_true h]; rfl
  ·rw [if_neg h,List.filter_cons,decide_eq_false h]; rfl
theorem Tv (cap x:Nat→Int):∀ {m k:Nat},k≤m→∃ r,E0 cap x m=E0 cap x k++r
 | 0,k,h=>⟨[],by rw [show k=0 by omega,List.append_nil]⟩
 | m+1,k,h=>by
  rcases Nat.lt_or_ge k (m+1) with h1 | h1
  ·obtain ⟨r,hr⟩:=Tv (m:=m) (k:=k) cap x (by omega);exact ⟨_,by rw [Qw,hr,List.append_assoc]⟩
  ·exact ⟨[],by rw [show k=m+1 by omega,List.append_nil]⟩
theorem Wa {g:Gr} {p cap x:Nat→Int} {m k:Nat} {l r:List Nat} {a:Nat} (h:E0 cap x (k+1)=l++a::r) (hk:k<m:=by omega):(KQ g p (E0 cap x m))[l.length]? = some [.agg (GD g p a).toArray]:=by
 obtain ⟨s,hs⟩:=Tv cap x (m:=m) (k:=k+1) (by omega);unfold KQ;rw [hs,h,List.getElem?_map,List.append_assoc,List.getElem?_append_right (Nat.le_refl _),Nat.sub_self];rfl
def ES (pot:List Int) (i:Nat):Int:=pot.getD i 0
structure EAt (N:Int) (es:List Ed) (fl pot:List Int) (i:Nat) (e:Ed) (xx pu pv:Int) (un vn:Nat):Prop where
 he:es[i]? = some e
 hx:fl[i]? = some xx
 hpu:pot[un]? = some pu
 hpv:pot[vn]? = some pv
 f:e.f=(un:Int)
 t:e.t=(vn:Int)
 un':un<N.toNat
 vn':vn<N.toNat
 gf:(grE N es).f i=un
 gt:(grE N es).t i=vn
 co:(grE N es).co i=e.cost
 cap:Cr es i=e.cap
 fx:flE fl i=xx
 xb:0≤xx∧xx≤e.cap∧e.cap≤4503599627370496
 cb : -1000≤e.cost∧e.cost≤1000
 ub : -1099511627776≤pu∧pu≤1099511627776
 vb : -1099511627776≤pv∧pv≤1099511627776
 pu':ES pot un=pu
 pv':ES pot vn=pv
theorem eat {N:Int} {es:List Ed} {fl pot:List Int} (hw:Cm N es fl=true) (hp:Ge N pot=true) {i:Nat} (hi:i<es.length:=by omega):∃ e xx pu pv un vn,EAt N es fl pot i e xx pu pv un vn:=by
 obtain ⟨hl,hr,hin⟩:=Cv hw;obtain ⟨hpl,hpb⟩:=Ll hp;obtain ⟨e,he⟩:=A8 (l:=es) (i:=i) (h:=hi);obtain ⟨xx,hx⟩:=A8 (l:=fl) (i:=i);have hco:=EC ((CD hr).2.2.2.1 e (List.mem_of_getElem? he));have hxx:=hin i e xx he hx;obtain ⟨un,hun⟩:∃ un:Nat,e.f=un:=⟨e.f.toNat,by omega⟩;obtain ⟨vn,hvn⟩:∃ vn:Nat,e.t=vn:=⟨e.t.toNat,by omega⟩;obtain ⟨pu,hpu⟩:=A8 (l:=pot) (i:=un);obtain ⟨pv,hpv⟩:=A8 (l:=pot) (i:=vn);refine ⟨e,xx,pu,pv,un,vn,he,hx,hpu,hpv,hun,hvn,by omega,by omega,?_,?_,?_,?_,Bo hx,by omega,by omega,hpb _ _ hpu,hpb _ _ hpv,Bo hpu,Bo hpv⟩
 ·show (es.getD i e0).f.toNat=un; rw [Bo he,hun]; rfl
 ·show (es.getD i e0).t.toNat=vn; rw [Bo he,hvn]; rfl
 ·show (es.getD i e0).cost=e.cost; rw [Bo he]
 ·show (es.getD i e0).cap=e.cap; rw [Bo he]
theorem Rd.rowE {α:Type} {enc:α→List Value} {w:World} {a:Option Addr} {s:Nat} {xs:List α} (R:Rd w a s enc xs) {i:Nat} {x:α} (hx:xs[i]? = some x) {l:List Value} (he:enc x=l) (hs:l.length=s):∀ j v,l[j]? = some v→w.cell? ⟨(adr a).block,(adr a).off+i*s+j,none⟩=some v:=by
 subst he; exact R.row hx hs
section
variable {N:Int} {es:List Ed} {fl pot:List Int} {i:Nat} {e:Ed} {xx pu pv:Int} {un vn:Nat}
theorem EAt.enc (h:EAt N es fl pot i e xx pu pv un vn):CI e=[.int .i64 (un:Int),.int .i64 (vn:Int),.int .i64 e.cap,.int .i64 e.cost]:=by
 unfold CI; rw [h.f,h.t]
theorem EAt.fwd (h:EAt N es fl pot i e xx pu pv un vn):GD (grE N es) (ES pot) (2*i)=[.int .i64 ((2*i:Nat):Int),.int .i64 (un:Int),.int .i64 (vn:Int),.int .i64 (e.cost+pu - pv)]:=by
 unfold GD Gr.len Gr.u Gr.v Gr.c;rw [show 2*i % 2=0 by omega,show 2*i / 2=i by omega];simp only [if_true];rw [h.gf,h.gt,h.co,h.pu',h.pv']
theorem EAt.bwd (h:EAt N es fl pot i e xx pu pv un vn):GD (grE N es) (ES pot) (2*i+1)=[.int .i64 ((2*i+1:Nat):Int),.int .i64 (vn:Int),.int .i64 (un:Int),.int .i64 (-(e.cost+pu - pv))]:=by
 unfold GD Gr.len Gr.u Gr.v Gr.c;rw [show (2*i+1) % 2=1 by omega,show (2*i+1) / 2=i by omega];simp only [if_false,Nat.one_ne_zero];rw [h.gf,h.gt,h.co,h.pu',h.pv',show -e.cost+pv - pu = -(e.cost+pu - pv) by omega]
theorem EAt.room0 (h:EAt N es fl pot i e xx pu pv un vn):CC (Cr es) (flE fl) (2*i)=e.cap - xx:=by
 unfold CC;rw [show 2*i % 2=0 by omega,show 2*i / 2=i by omega,if_pos rfl,h.cap,h.fx]
theorem EAt.room1 (h:EAt N es fl pot i e xx pu pv un vn):CC (Cr es) (flE fl) (2*i+1)=xx:=by
 unfold CC;rw [show (2*i+1) % 2=1 by omega,show (2*i+1) / 2=i by omega,if_neg (by omega),h.fx]
end
theorem Wb (N:Int) (a b p:Option Addr) (n c m d q r:Nat) (w:World):Ret Tryz.prog 264 #[Ec N a n c,.slice b m d,.slice p q r] w fun v w'=>∃ b1 b2 b3,v = .func (.func 278) #[] #[ptr b1,ptr b2,ptr b3]∧w'.heap[b1]? = some (Bl 51 [.int .i64 N,.slice a n c])∧w'.heap[b2]? = some (Bl 35 [.slice p q r])∧w'.heap[b3]? = some (Bl 35 [.slice b m d])∧w.heap.size≤b1∧w.heap.size≤b2∧w.heap.size≤b3∧Ext [] w w':=by
 obtain ⟨w0,rfl⟩:∃ w0,w0=w:=⟨_,rfl⟩;have H:=Ctx.start w0 [];refine Aw (fn:=Tryz.f264) Tryz.func264 U [Ec N a n c,.slice b m d,.slice p q r] U (by kernel_rfl) ?_;refine Af (Bv [.int .i64 N,.slice a n c] (.agg _) U U H ?_);rintro b3 w - H;refine Bv _ (.slice _ _ _) U U H ?_;rintro b4 w - H;refine Bv _ (.slice _ _ _) U U H ?_;rintro b5 w - H;refine CG U .nilFunc U ?_;refine Ab (Aa (Af (BQ [.pointer _,.pointer _,.pointer _] U (CG U (.func _ _ _) U ?_))));refine Ab (Aa (A4 (AD (v:=(.func _ _ _)) U U U ?_)));have ho:∀ x∈[(b5,Bl 35 [.slice p q r]),(b4,Bl 35 [.slice b m d]),(b3,Bl 51 [.int .i64 N,.slice a n c])],w0.heap.size≤x.1:=fun x hx=>(H.own x hx).elim (fun h=>by cases h) id;exact ⟨b3,b5,b4,rfl,H.get at2,H.get at0,H.get at1,ho (b3,_) (List.mem_of_getElem? (i:=2) U),ho (b5,_) (List.mem_of_getElem? (i:=0) U),ho (b4,_) (List.mem_of_getElem? (i:=1) U),H.ext⟩
structure ArcK (b1 b2 b3:Nat) (N:Int) (a b p:Option Addr) (c d r:Nat) (es:List Ed) (fl pot:List Int) (M:Mt) (w:World):Prop where
 h1:w.heap[b1]? = some (Bl 51 [.int .i64 N,.slice a es.length c])
 h2:w.heap[b2]? = some (Bl 35 [.slice p pot.length r])
 h3:w.heap[b3]? = some (Bl 35 [.slice b fl.length d])
 R:Rd w a 4 CI es
 Rf:Rd w b 1 I1 fl
 Rp:Rd w p 1 I1 pot
set_option maxRecDepth 20000 in
set_option maxHeartbeats 8000000 in
theorem Tw {b1 b2 b3:Nat} {N:Int} {a b p:Option Addr} {c d r:Nat} {es:List Ed} {fl pot:List Int} (hw:Cm N es fl=true) (hp:Ge N pot=true) :
  Rj Tryz.prog 278 #[ptr b1,ptr b2,ptr b3] [] (ArcK b1 b2 b3 N a b p c d r es fl pot) (KQ (grE N es) (ES pot) (E0 (Cr es) (flE fl) es.length)):=by
 intro l w J E hJ0 hJs hEs hK hY;obtain ⟨M0,hJ0⟩:=hJ0;obtain ⟨hl,hri,-⟩:=Cv hw;obtain ⟨hN1,hN40,hn200,-⟩:=CD hri;obtain ⟨hpl,-⟩:=Ll hp;obtain ⟨w0,rfl⟩:∃ w0,w0=w:=⟨_,rfl⟩;refine Aw (fn:=Tryz.f278) Tryz.func278 U [.func (.yield l) #[] #[],.pointer (some ⟨b1,0,none⟩),.pointer (some ⟨b2,0,none⟩),.pointer (some ⟨b3,0,none⟩)] U (by kernel_rfl) ?_;have K0:=(hK _ _ _ hJ0).2;refine Af (Ag Dv U (AZ Fs U ((by rw [Aj K0.h1]; rfl)) ?_));refine Bi Ds U (Ae U (Ab (Aa (A0 (Bt 2361183241434822605024 (α:=Nat) (fun i=>[(11,.int .i64 (i:Int))]) (fun i w'=>i≤es.length∧∃ M,J (E0 (Cr es) (flE fl) i).length M w') (fun i=>es.length - i) 0 U ?_ ?_ ?_)))))
 ·exact ⟨rfl,trivial⟩
 ·exact ⟨Nat.zero_le _,M0,hJ0⟩
 ·rintro i j w ⟨hi,M,hJ⟩;refine Af (Bj U U (Ab (Aa (Aq (Ap _ U ?_ ?_)))))
  ·intro h1;replace h1:=AJ h1;obtain ⟨e,xx,pu,pv,un,vn,A⟩:=eat (i:=i) hw hp;obtain ⟨he,hfx,hpu,hpv,hf,ht,hun,hvn,-,-,-,-,-,hxb,hcb,hub,hvb,-,-⟩:=id A;have hrs:=Qw (Cr es) (flE fl) i;rw [A.room0,A.room1] at hrs;obtain ⟨w1,rfl⟩:∃ w1,w1=w:=⟨_,rfl⟩;have KR:∀ {z},Ext [] w1 z→ArcK b1 b2 b3 N a b p c d r es fl pot M z:=fun hz=>(hK _ _ _ (hJs _ _ _ _ hJ hz)).2;have R:=(KR (.refl _ _)).R;have Rf:=(KR (.refl _ _)).Rf;have Rp:=(KR (.refl _ _)).Rp;have H:=Ctx.start w1 [];refine Au (Aa (Aq (A0 (Af (Ae U (AS R Ds Dp U U (by rfl) ?_))))));refine Cj _ JS Dp U U (Rd.rowE (KR H.ext).R he A.enc U) ?_;refine AX Ht H ?_;rintro b6 w - H;refine Ad U (Bm Dp U U U (by simp [AO]) H at0 U ?_);rintro w H;refine Ab (Aa (Er (fun x=>x=_) Bs (by kernel_rfl) U ?_));refine A7 GX U (Cn Bw U (by rintro _ rfl; exact H.drew) at0 U ?_)
   refine BX Cg U (by rintro _ rfl; exact ((by rw [Aj (KR H.drew.ext).h2]; rfl))) ?_;refine A7 FW U (Cn Ca U (by rintro _ rfl; exact H.drew) at0 U ?_);refine C5 Rp Bg B6 U U (by rfl) ?_;refine BX Bw U (by rintro _ rfl; exact (((KR H.drew.ext).Rp.fld hpu rfl (j:=0) rfl))) ?_;refine De U U ?_;refine BX Cg U (by rintro _ rfl; exact ((by rw [Aj (KR H.drew.ext).h2]; rfl))) ?_;refine A7 FX U (Cn Ca U (by rintro _ rfl; exact H.drew) at0 U ?_);refine C5 Rp Bg B6 U U (by rfl) ?_;refine BX Bw U (by rintro _ rfl; exact (((KR H.drew.ext).Rp.fld hpv rfl (j:=0) rfl))) ?_;refine D8 U U ?_;refine Db U (BW ?_);rintro _ rfl;replace H:=H.drew;refine Aq ?_;obtain ⟨len,hlen⟩:∃ len,len=e.cost+pu - pv:=⟨_,rfl⟩;rw [← hlen];have hf7:=A.fwd;have hb7:=A.bwd;rw [← hlen] at hf7 hb7
   have hb6:=(H.own _ (List.mem_cons_self ..)).elim (fun h=>by cases h) id;have hM:=(hK _ _ _ hJ).1;have hn6:¬ M b6:=fun h=>by have:=hM _ h; omega
   have hk6:=H.drew.get at0;have hJ6:=hJs _ _ _ _ hJ H.drew.ext;refine DC 1125898833100800 (α:=Bool) (fun z=>[(49,.bool z)]) (fun z w'=>(z=true→E w')∧(z=false→w'.heap[b6]? = some (Bl 59 [.int .i64 (un:Int),.int .i64 (vn:Int),.int .i64 e.cap,.int .i64 e.cost])∧∃ M',¬ M' b6∧J (E0 (Cr es) (flE fl) i++(if 0<e.cap - xx then [2*i] else [])).length M' w')) U ?_ ?_
   ·skip
    refine FC 17 Bs (by kernel_rfl) U U ?_;refine BX Cg U (by rintro _ rfl; exact ((by rw [Aj (KR H.drew.ext).h3]; rfl))) ?_;refine Bh U (C5 Rf Bg B6 U U (by rfl) ?_);refine BX Bw U (by rintro _ rfl; exact (((KR H.drew.ext).Rf.fld hfx rfl (j:=0) rfl))) ?_;refine A7 EU U (Cn Bw U (by rintro _ rfl; exact H.drew) at0 U ?_);refine KI U U (CU U (Dw 37 U ?_ ?_))
    ·intro h2;replace h2:=AJ h2;refine Mv U (.func _ _ _) U ?_;refine Bh U (WR U U U ?_);refine A7 FW U (Cn Ca U (by rintro _ rfl; exact H.drew) at0 U ?_);refine A7 FX U (Cn Ca U (by rintro _ rfl; exact H.drew) at0 U ?_);refine Bh U (Y3 (GD (grE N es) (ES pot) (2*i)) U Zn JX (by rw [hf7]; kernel_rfl) ?_);refine BW ?_;replace H:=H.drew;refine G6 (vs:=[.agg (GD (grE N es) (ES pot) (2*i)).toArray]) U (hY _ _ M _ (Wa (l:=E0 (Cr es) (flE fl) i) (k:=i) (by rw [hrs,if_pos (by omega)]; rfl)) hJ6) U ?_;rintro u w hu
     obtain ⟨bb,rfl,hu1,hu0⟩:∃ bb,u = .bool bb∧(bb=true→w.heap[b6]? = some (Bl 59 [.int .i64 (un:Int),.int .i64 (vn:Int),.int .i64 e.cap,.int .i64 e.cost])∧∃ M',¬ M' b6∧J ((E0 (Cr es) (flE fl) i).length+1) M' w)∧(bb=false→E w):=hu.elim (fun h=>⟨true,h.1,fun _=>let ⟨M',h1,g⟩:=h.2; ⟨g.to hk6 hn6,M',g.not (Ba hk6) hn6,h1⟩,fun h=>by cases h⟩) (fun h=>⟨false,h.1,(fun h=>by cases h),fun _=>h.2⟩);refine BA U (AN U (.bool _) U (Ab (Aa ?_)));exact ⟨!bb,rfl,⟨rfl,trivial⟩,fun h=>hu0 (by simpa using h),fun h=>by rw [if_pos (by omega),List.length_append]; exact hu1 (by simpa using h)⟩
    ·intro h2;replace h2:=AK h2;refine A2 U (A2 U (A2 U (A2 U (A2 U (A2 U (A2 U (A2 U (A2 U (BW ?_)))))))));replace H:=H.drew;refine Ah U (Ah U (AU U (.bool _) U (Ab (Aa ?_))));exact ⟨false,rfl,⟨rfl,trivial⟩,(fun h=>by cases h),fun _=>⟨hk6,M,hn6,by rw [if_neg (by omega),List.append_nil]; exact hJ6⟩⟩
   ·rintro z j2 w ⟨hz1,hz0⟩;refine Ap _ U ?_ ?_
    ·intro h2;refine A4 (Ao (AA (Ao (Ao (AA (FA U U ?_))))));exact .inr (hz1 h2)
    ·intro h2;obtain ⟨hk7,M7,hn7,hJ7⟩:=hz0 h2;obtain ⟨w7,rfl⟩:∃ z,z=w:=⟨_,rfl⟩;have K7:=(hK _ _ _ hJ7).2;have H:=Ctx.start w7 [];refine Au (Aa (Af (AZ Cg U ((by rw [Aj K7.h3]; rfl)) ?_)));refine Ae U (AS Rf Bg B6 U U (by rfl) ?_);refine AZ Bw U ((K7.Rf.fld hfx U (j:=0) U)) ?_;refine Cs U U (AE U (AY 55 U ?_ ?_))
     ·intro h3;replace h3:=AJ h3;have hat:=Wa (g:=grE N es) (p:=ES pot) (cap:=Cr es) (x:=flE fl) (m:=es.length) (l:=E0 (Cr es) (flE fl) i++(if 0<e.cap - xx then [2*i] else [])) (k:=i) (a:=2*i+1) (r:=[]) (by rw [hrs,if_pos h3,List.append_assoc]);refine Da U (.func _ _ _) U ?_;refine Ae U (DE U U ?_);refine Ax U U ?_;refine Ag FX U (AZ Ca U ((by rw [Aj hk7]; rfl)) ?_);refine Ag FW U (AZ Ca U ((by rw [Aj hk7]; rfl)) ?_);refine Ae U (KY U U ?_);refine B1 (GD (grE N es) (ES pot) (2*i+1)) Zn JX (by rw [hb7]; kernel_rfl) ?_;refine G6 (vs:=[.agg (GD (grE N es) (ES pot) (2*i+1)).toArray]) U (hY _ _ M7 _ hat hJ7) U ?_;rintro u w hu
      obtain ⟨bb,rfl,hu1,hu0⟩:∃ bb,u = .bool bb∧(bb=true→∃ M',J ((E0 (Cr es) (flE fl) i++(if 0<e.cap - xx then [2*i] else [])).length+1) M' w)∧(bb=false→E w):=hu.elim (fun h=>⟨true,h.1,fun _=>let ⟨M',h1,_⟩:=h.2; ⟨M',h1⟩,fun h=>by cases h⟩) (fun h=>⟨false,h.1,(fun h=>by cases h),fun _=>h.2⟩);refine BA U (AN U (.bool _) U (Ab (Aa (Ap _ U ?_ ?_))))
      ·intro h4;replace h4:=BE h4;refine A4 (AA (Ao (Ao (AA (FA U U ?_)))));exact .inr (hu0 (by simpa using h4))
      ·intro h4;replace h4:=BF h4;refine Au (A5 (Aa (Az (Ax U U ?_))));refine Ae U (Ab (Aa ?_));refine ⟨i+1,rfl,⟨rfl,trivial⟩,⟨by omega,?_⟩,by omega⟩;rw [hrs,if_pos h3,← List.append_assoc,List.length_append];exact hu1 (by simpa using h4)
     ·intro h3;replace h3:=AK h3;refine Ah U (Ah U (Ah U (Ah U (Ah U (Ah U (Ah U (Ah U (Ah U (Ah U ?_)))))))));refine Ah U (Ah U (Ah U (AU U (.bool _) U (Ab (Aa (Fg U (Au (A5 (Aa (Az (Ax U U ?_)))))))))));refine Ae U (Ab (Aa ?_));refine ⟨i+1,rfl,⟨rfl,trivial⟩,⟨by omega,M7,?_⟩,by omega⟩;rw [hrs,if_neg h3,List.append_nil];exact hJ7
  ·intro h1;replace h1:=AK h1;refine Bq (Am (Am (AG (CF U U ?_))));obtain rfl:i=es.length:=by omega
   exact .inl ⟨M,by unfold KQ; rw [List.length_map]; exact hJ⟩
end Go.Proofs.YtdagmpmdcgedcaaGreat
namespace Go.Proofs.YtdagmpmdcgedcaaGreat
open Go.GV
attribute [local irreducible] AB W Wq Wt
def arcB (g:Gr) (p:Nat→Int) (a:Nat):Bool:=decide (0≤g.len p a)
def Ij (N:Int) (es:List Ed) (fl pot:List Int):Bool:=Cm N es fl && (Ge N pot && (E0 (Cr es) (flE fl) es.length).all (arcB (grE N es) (ES pot)))
set_option maxRecDepth 20000 in
set_option maxHeartbeats 8000000 in
theorem Ady (N:Int) (a b p:Option Addr) (n c m d q r:Nat) (es:List Ed) (fl pot:List Int) (w:World) (R:Rd w a 4 CI es) (hn:es.length=n) (hN:I64 N) (Rf:Rd w b 1 I1 fl) (hm:fl.length=m) (hm2:m≤9223372036854775000) (Rp:Rd w p 1 I1 pot) (hq:pot.length=q) (hq2:q≤9223372036854775000) :
  Ret Tryz.prog 263 #[Ec N a n c,.slice b m d,.slice p q r] w fun v w'=>v = .bool (Ij N es fl pot)∧Ext [] w w':=by
 subst hn hm hq;obtain ⟨w0,rfl⟩:∃ w0,w0=w:=⟨_,rfl⟩;have H:=Ctx.start w0 [];refine He (fn:=Tryz.f263) Tryz.func263 U [Ec N a es.length c,.slice b fl.length d,.slice p pot.length r] U (by kernel_rfl) ?_;refine Af (Bv [.int .i64 N,.slice a es.length c] (.agg _) U U H ?_);rintro b3 w - H;refine AX zc_4 H ?_;rintro b6 w - H;refine Ab (Aa (Aq (Af (Cl Df CL U H at1 U (A3 U (Al R8 (K6 N a b es.length c fl.length d es fl _ (R.ext0 H.ext) U hN (Rf.ext0 H.ext) U hm2) U ?_))))));rintro v w ⟨rfl,hx12⟩;replace H:=H.call hx12;refine BA U (AE U (AY 14 U ?_ ?_))
 ·intro h1;replace h1:=BE h1;refine Ah U (Ah U (Ah U (Ah U (Ah U (AN U (.bool _) U (Ab (Aa (Dz U (Af (Cp (.bool _) Xg U U U H at0 (by decide) ?_))))))))));rintro w H;refine Ab (Aa (A4 (Ao (Ke U U ?_))));have h1':Cm N es fl=false:=by simpa using h1
  exact ⟨_,FJ JQ (by rw [Aj (H.get at0)]; rfl),congrArg Value.bool (by unfold Ij; rw [h1']; rfl),H.ext⟩
 ·intro h1;replace h1:=BF h1;have h1':Cm N es fl=true:=by simpa using h1
  refine A3 U (Bi Bg U (Ag Fl U (AM Ca U H at1 U (C9 U U (AU U (.bool _) U (Ab (Aa (Ap _ U ?_ ?_))))))))
  ·intro h2;replace h2:=CR h2;refine Af (Cp (.bool _) Xg U U U H at0 (by decide) ?_);rintro w H;refine Ab (Aa (A4 (Ao (Ke U U ?_))));have h2':Ge N pot=false:=by unfold Ge; rw [decide_eq_false h2,Bool.and_false]
   exact ⟨_,FJ JQ (by rw [Aj (H.get at0)]; rfl),congrArg Value.bool (by unfold Ij; rw [h2',Bool.false_and,Bool.and_false]),H.ext⟩
  ·intro h2;replace h2:=CS h2;have hpl:(pot.length:Int)=N:=by simpa using h2
   refine Au (Aa (Aq (Af (A3 U (Bi Bg U (Ae U (Ab (Aa (A0 (Bt 17171480832 (α:=Nat) (fun i=>[(23,.int .i64 (i:Int))]) (fun i w'=>i≤pot.length∧Ctx w0 [] w' [(b6,Bl 4 [.bool false]),(b3,Bl 51 [.int .i64 N,.slice a es.length c])]∧∀ (k:Nat) (x:Int),k<i→pot[k]? = some x→N3 x=true) (fun i=>pot.length - i) 0 U ?_ ?_ ?_))))))))))
   ·exact ⟨rfl,trivial⟩
   ·exact ⟨Nat.zero_le _,H,fun k x h=>absurd h (Nat.not_lt_zero _)⟩
   ·rintro i j w ⟨hi,H,hb⟩;refine Af (Bj U U (Ab (Aa (Aq (Ap _ U ?_ ?_)))))
    ·intro h3;replace h3:=AJ h3;obtain ⟨x,h7x⟩:=A8 (l:=pot) (i:=i);refine Au (Aa (Aq (A0 (Af (AS Rp Bg B6 U U (by rfl) ?_)))));refine AZ Bw U (((Rp.ext0 H.ext).fld h7x U (j:=0) U)) ?_;refine Ad U (Ab (Aa (Af (BU (α:=Unit) 8455716864 (fun _=>[(32,.bool (!N3 x))]) (fun _ w'=>Ctx w0 [] w' [(b6,Bl 4 [.bool false]),(b3,Bl 51 [.int .i64 N,.slice a es.length c])]) U ?_ ?_))))
     ·refine Ae U (Bj U U (AE U (AY 29 U ?_ ?_)))
      ·intro h1;replace h1:=AJ h1;refine Ah U (Ah U (AN U (.bool _) U (Ab ?_)));exact ⟨rfl,(),rfl,⟨congrArg Value.bool (by unfold N3; rw [Bool.eq_iff_iff]; simp_all; try omega),trivial⟩,H⟩
      ·intro h2;replace h2:=AK h2;refine Ae U (Cs U U (AU U (.bool _) U (Ab ?_)));exact ⟨rfl,(),rfl,⟨congrArg Value.bool (by unfold N3; rw [Bool.eq_iff_iff]; simp_all; try omega),trivial⟩,H⟩
     rintro - j32 w H;refine Ap _ U ?_ ?_
     ·intro h4;replace h4:=BE h4;refine Af (Cp (.bool _) Xg U U U H at0 (by decide) ?_);rintro w H;refine Ab (Aa (A4 (AA (Ao (Ao (AA (Ao (Ke U U ?_))))))));have h2':Ge N pot=false:=by unfold Ge; rw [Eh h7x (by simpa using h4),Bool.false_and]
      exact ⟨_,FJ JQ (by rw [Aj (H.get at0)]; rfl),congrArg Value.bool (by unfold Ij; rw [h2',Bool.false_and,Bool.and_false]),H.ext⟩
     ·intro h4;replace h4:=BF h4;refine Au (A5 (Aa (Az (Ax U U ?_))));refine Ae U (Ab (Aa ?_));refine ⟨i+1,rfl,⟨rfl,trivial⟩,⟨by omega,H,fun k y hk hy=>?_⟩,by omega⟩
      rcases Nat.lt_or_ge k i with h7 | h7
      ·exact hb k y h7 hy
      ·obtain rfl:k=i:=by omega
       rw [h7x] at hy;cases hy
       simpa using h4
    ·intro h3;replace h3:=AK h3
     have hp:Ge N pot=true:=by
      unfold Ge;rw [Fe fun k x hk hx=>hb k x (by omega) hx,decide_eq_true hpl]; rfl
     obtain ⟨hl,hri,-⟩:=Cv h1';obtain ⟨hN1,hN40,hn200,-⟩:=CD hri;have hfN:Ij N es fl pot=(E0 (Cr es) (flE fl) es.length).all (arcB (grE N es) (ES pot)):=by unfold Ij; rw [h1',hp]; rfl
     refine Bq (Am (Am (AG (Aa (Aq (Af (Cl Df CL U H at1 U (A3 U (A3 U ?_)))))))));have hlt:=H.lt (k:=0) rfl;have hlt1:=H.lt (k:=1) rfl;refine Al Za (Wb N a b p es.length c fl.length d pot.length r _) U ?_;rintro v w ⟨x1,x2,x3,rfl,hb1,hb2,hb3,hs1,hs2,hs3,hx37⟩;have hbb:=(H.call hx37);have hx7:=H.ext.trans hx37;have hs07:=H.size;refine Ab (Aa (A0 ?_));obtain ⟨ws,rfl⟩:∃ z,z=w:=⟨_,rfl⟩;have hk6:=hbb.lt (k:=0) rfl;have hk1:=Ba hb1;have hk2:=Ba hb2;have hk3:=Ba hb3;have hk66:=hbb.get at0;have hs0:=hbb.size;have h60:w0.heap.size≤b6:=(hbb.own _ (List.mem_cons_self ..)).elim (fun h=>by cases h) id
     refine NC (gf:=278) U Zd (Tw (b1:=x1) (b2:=x2) (b3:=x3) (a:=a) (b:=b) (p:=p) (c:=c) (d:=d) (r:=r) h1' hp) (by kernel_rfl) (by kernel_rfl) (fun v hv=>by obtain ⟨p,-,rfl⟩:=List.mem_map.1 hv; rfl)
      (fun i M w'=>(M=fun _=>False)∧Ext [] w0 w'∧w'.heap[b6]? = some (Bl 4 [.bool false])∧w'.heap[x1]? = some (Bl 51 [.int .i64 N,.slice a es.length c])∧w'.heap[x2]? = some (Bl 35 [.slice p pot.length r])∧w'.heap[x3]? = some (Bl 35 [.slice b fl.length d])∧∀ (k:Nat) (y:Nat),k<i→(E0 (Cr es) (flE fl) es.length)[k]? = some y→arcB (grE N es) (ES pot) y=true)
      (fun w'=>Ext [] w0 w'∧w'.heap[b6]? = some (Bl 4 [.bool false])∧(E0 (Cr es) (flE fl) es.length).all (arcB (grE N es) (ES pot))=false) (by simp)
      (fun w2 hx2 _=>⟨_,rfl,hx7.trans hx2,hx2.to hk66 (by simp),hx2.to hb1 (by simp),hx2.to hb2 (by simp),hx2.to hb3 (by simp),fun k y h=>absurd h (Nat.not_lt_zero _)⟩)
      (fun i M w' w'' hJ hx=>⟨hJ.1,hJ.2.1.then hx (fun z hz => .inr (by simp only [List.mem_cons,List.not_mem_nil,or_false] at hz; omega)),hx.to hJ.2.2.1 (by simp; omega),hx.to hJ.2.2.2.1 (by simp; omega),hx.to hJ.2.2.2.2.1 (by simp; omega),hx.to hJ.2.2.2.2.2.1 (by simp; omega),hJ.2.2.2.2.2.2⟩)
      (fun w' w'' hE hx=>⟨hE.1.then hx (fun z hz => .inr (by simp only [List.mem_cons,List.not_mem_nil,or_false] at hz; omega)),hx.to hE.2.1 (by simp; omega),hE.2.2⟩)
      (fun i M w' hJ=>⟨fun y hy=>by rw [hJ.1] at hy; exact hy.elim,hJ.2.2.2.1,hJ.2.2.2.2.1,hJ.2.2.2.2.2.1,R.ext0 hJ.2.1,Rf.ext0 hJ.2.1,Rp.ext0 hJ.2.1⟩) ?_ ?_ ?_
     ·rintro i v _ w hxv ⟨rfl,hx0,g6,g1,g2,g3,hall⟩ hsz;unfold KQ at hxv;rw [List.getElem?_map] at hxv;obtain ⟨y,hy,rfl⟩:=Option.map_eq_some_iff.1 hxv;obtain ⟨w1,rfl⟩:∃ z,z=w:=⟨_,rfl⟩;have H:=Ctx.start w1 [];refine Az (AX JX H ?_);rintro b9 w - H;refine Bm Hr U U U (by exact Pa _ _ _) H at0 U ?_;rintro w H;refine Ab ?_;refine ⟨H.ext,fun wB hxB=>?_⟩;have hb9:=(H.own _ (List.mem_cons_self ..)).elim (fun h=>by cases h) id;have k9:=hxB.to (H.get at0) (by rw [List.mem_singleton]; omega);have k6:=hxB.to (H.ext.to g6 (by simp)) (by rw [List.mem_singleton]; omega);have k1:=hxB.to (H.ext.to g1 (by simp)) (by rw [List.mem_singleton]; omega);have k2:=hxB.to (H.ext.to g2 (by simp)) (by rw [List.mem_singleton]; omega);have k3:=hxB.to (H.ext.to g3 (by simp)) (by rw [List.mem_singleton]; omega);have hx0B:=(hx0.trans H.ext).then hxB fun z hz => .inr (by rw [List.mem_singleton.1 hz]; omega)
      obtain ⟨w2,rfl⟩:∃ z,z=wB:=⟨_,rfl⟩;replace H:=Ctx.start1 k6;have hn9:b9∉[b6]:=by rw [List.mem_singleton]; omega
      refine A0 (Af (Ag OG U (AZ Bw U ((H.old (Aj k9 _) hn9)) ?_)));refine Bj U U (Ab (Aa (Ap _ U ?_ ?_)))
      ·intro h5;replace h5:=AJ h5;refine Af (Cp (.bool _) Xg U U U H at0 (by decide) ?_);rintro w H;refine Ab (Aa (A4 (AA ?_)));exact ⟨⟨hx0B.then H.ext fun z hz => .inr (by rw [List.mem_singleton.1 hz]; exact h60),H.get at0,Eh hy (decide_eq_false (by omega))⟩,_,H.ext,by rw [List.mem_singleton]; omega,by rw [List.mem_singleton]; omega⟩
      ·intro h5;replace h5:=AK h5;refine Au (A5 ?_);refine ⟨_,⟨rfl,hx0B,k6,k1,k2,k3,fun k z hk hz=>?_⟩,fun _ h=>h.elim,[],.refl _ _,fun _ h=>by cases h⟩
       rcases Nat.lt_or_ge k i with h7 | h7
       ·exact hall k z h7 hz
       ·obtain rfl:k=i:=by omega
        rw [hy] at hz;cases hz;exact decide_eq_true (by omega)
     ·rintro M w ⟨-,hx0,g6,-,-,-,hall⟩ hD;have hlen:(KQ (grE N es) (ES pot) (E0 (Cr es) (flE fl) es.length)).length=(E0 (Cr es) (flE fl) es.length).length:=by unfold KQ; rw [List.length_map]
      rw [hlen] at hall;replace H:=Ctx.start1 g6;refine A5 (Aa (Af (Cp (.bool _) Xg U U U H at0 (by decide) ?_)));rintro w H;refine Ab (Aa (A4 (Ke U U (Hf (by rw [H.ext.block _ (Ba hD) (by rw [List.mem_singleton]; omega)]; exact hD) U fun wF hxF=>?_))));exact ⟨_,FJ JQ (by rw [Aj (hxF.to (H.get at0) (by rw [List.mem_singleton]; omega))]; rfl),congrArg Value.bool (by rw [hfN,Fe fun k x hk hx=>hall k x hk hx]),(hx0.then H.ext fun z hz => .inr (by rw [List.mem_singleton.1 hz]; exact h60)).then hxF fun z hz => .inr (by rw [List.mem_singleton.1 hz]; omega)⟩
     ·rintro w ⟨hx0,g6,hall⟩ hD;refine AA (Ao (Ke U U (Hf hD U fun wF hxF=>?_)));exact ⟨_,FJ JQ (by rw [Aj (hxF.to g6 (by rw [List.mem_singleton]; omega))]; rfl),congrArg Value.bool (by rw [hfN,hall]),hx0.then hxF fun z hz => .inr (by rw [List.mem_singleton.1 hz]; omega)⟩
end Go.Proofs.YtdagmpmdcgedcaaGreat
namespace Go.Proofs.YtdagmpmdcgedcaaGreat
open Go.GV
def IP (A:List Ar) (v:Nat):Int:=((A.filter fun a=>decide (a.1=v)).length:Nat)
def gv (n:Nat) (D:Int) (s:Lb) (hp:List Tg) (v:Nat):Int:=if s.d v ≠ -1∧s.d v≤D then (hp.count (s.d v,v):Nat)+(s.h v:Nat) else (n:Nat)+1
def psi (n:Nat) (A:List Ar) (D:Int) (s:Lb) (hp:List Tg):Int:=(hp.length:Nat)+B7 (fun v=>IP A v*gv n D s hp v) n
structure PI (n:Nat) (D:Int) (s:Lb) (hp:List Tg):Prop where
 keys:∀ t∈hp,D≤t.1
 item:∀ t∈hp,s.d t.2 ≠ -1∧s.d t.2≤t.1
 lab:∀ v,s.d v ≠ -1→hp.count (s.d v,v)+s.h v≤n
theorem ZJ (A:List Ar) (v:Nat):0≤IP A v:=by unfold IP; omega
theorem Adz {n:Nat} {D:Int} {s:Lb} {hp hq:List Tg} (h:hp.Perm hq) (v:Nat):gv n D s hp v=gv n D s hq v:=by unfold gv; rw [h.count_eq]
theorem Pb {n:Nat} {A:List Ar} {D:Int} {s:Lb} {hp hq:List Tg} (h:hp.Perm hq):psi n A D s hp=psi n A D s hq:=by
 unfold psi;rw [h.length_eq,Cu fun i _=>by rw [Adz h]]
theorem PI.perm {n:Nat} {D:Int} {s:Lb} {hp hq:List Tg} (P:PI n D s hp) (h:hp.Perm hq):PI n D s hq :=
 ⟨fun t ht=>P.keys t (h.mem_iff.2 ht),fun t ht=>P.item t (h.mem_iff.2 ht),fun v hv=>by rw [← h.count_eq]; exact P.lab v hv⟩
theorem gv0 {n:Nat} {D:Int} {s:Lb} {hp:List Tg} (v:Nat):0≤gv n D s hp v:=by unfold gv; split <;> omega
theorem RZ {n:Nat} {A:List Ar} {D:Int} {s:Lb} {hp:List Tg}:(hp.length:Int)≤psi n A D s hp:=by
 have:=Hu (f:=fun v=>IP A v*gv n D s hp v) (k:=n) fun i _=>Int.mul_nonneg (ZJ A i) (gv0 i);unfold psi; omega
theorem PI.pop {n:Nat} {A:List Ar} {D:Int} {s:Lb} {t:Tg} {hp:List Tg} (P:PI n D s (t::hp)) (hmin:∀ x∈hp,t.1≤x.1) (ht:t.2<n) :
  PI n t.1 s hp∧psi n A t.1 s hp+1≤psi n A D s (t::hp)∧(t.1=s.d t.2→psi n A t.1 s hp+1+IP A t.2≤psi n A D s (t::hp)):=by
 have hD:=P.keys t (List.mem_cons_self ..)
 have hc:∀ v,((t::hp).count (s.d v,v):Int)=(hp.count (s.d v,v):Int)+one (t=(s.d v,v)):=fun v=>by
  rw [List.count_cons]
  by_cases e:t=(s.d v,v)
  ·rw [if_pos (by rw [e]; exact beq_self_eq_true _),one,if_pos e]; omega
  ·rw [if_neg (by simpa using e),one,if_neg e]; omega
 have hone:∀ v,0≤one (t=(s.d v,v)):=fun v=>by unfold one; split <;> omega
 have hg:∀ v,gv n t.1 s hp v≤gv n D s (t::hp) v∧(t=(s.d v,v)→gv n t.1 s hp v+1≤gv n D s (t::hp) v):=fun v=>by
  have h1:=hc v;have h2:=hone v;have h4:t=(s.d v,v)→one (t=(s.d v,v))=1:=fun e=>if_pos e
  have h5:t=(s.d v,v)→t.1=s.d v∧s.d v ≠ -1:=fun e=>⟨by rw [e],by
   have:=(P.item t (List.mem_cons_self ..)).1;rw [show t.2=v by rw [e]] at this
   exact this⟩
  unfold gv
  by_cases a1:s.d v ≠ -1∧s.d v≤t.1
  ·have h3:=P.lab v a1.1;rw [if_pos a1]
   by_cases a2:s.d v ≠ -1∧s.d v≤D
   ·rw [if_pos a2];refine ⟨by omega,fun e=>?_⟩;have:=h4 e;omega
   ·rw [if_neg a2];refine ⟨by omega,fun e=>?_⟩;have:=h4 e;omega
  ·rw [if_neg a1,if_neg (fun h=>a1 ⟨h.1,by omega⟩)];refine ⟨Int.le_refl _,fun e=>?_⟩;have:=h5 e;exact absurd ⟨this.2,by omega⟩ a1
 refine ⟨⟨hmin,fun x hx=>P.item x (List.mem_cons_of_mem _ hx),fun v hv=>?_⟩,?_,fun e=>?_⟩
 ·have h1:=hc v;have h2:=hone v;have h3:=P.lab v hv;omega
 ·have h1:=JY (f:=fun v=>IP A v*gv n t.1 s hp v) (g:=fun v=>IP A v*gv n D s (t::hp) v) (k:=n) fun i _=>Int.mul_le_mul_of_nonneg_left (hg i).1 (ZJ A i);unfold psi;rw [List.length_cons];omega
 ·have h1:=JY (f:=fun v=>IP A v*gv n t.1 s hp v) (g:=fun v=>IP A v*gv n D s (t::hp) v - one (t.2=v)*IP A v) (k:=n) fun i _=>by
   by_cases e1:t.2=i
   ·subst e1;have h2:=Int.mul_le_mul_of_nonneg_left ((hg t.2).2 (Prod.ext e rfl)) (ZJ A t.2);rw [Int.mul_add] at h2;rw [one,if_pos rfl];omega
   ·have h2:=Int.mul_le_mul_of_nonneg_left (hg i).1 (ZJ A i);rw [one,if_neg e1];omega
  rw [K4,GY (fun v=>IP A v) ht] at h1;unfold psi;rw [List.length_cons];omega
theorem PI.relax {n:Nat} {A:List Ar} {D:Int} {s:Lb} {hp:List Tg} {a:Ar} (P:PI n D s hp) (hs:s.d a.1=D) (hD0:0≤D) (hl:0≤a.2.2) (hlow:∀ v,s.d v = -1∨0≤s.d v) (hhop:(GA s a).d a.2.1 ≠ -1→(GA s a).h a.2.1+1≤n) :
  PI n D (GA s a) (Iy s a hp)∧psi n A D (GA s a) (Iy s a hp)≤psi n A D s hp+1:=by
 by_cases hb:DX s a.2.1 (s.d a.1+a.2.2) (s.h a.1+1)
 ·have hS:GA s a=Hw s a.2.1 (s.d a.1+a.2.2) (s.h a.1+1):=by unfold GA; rw [if_pos hb]
  have hH:Iy s a hp=(s.d a.1+a.2.2,a.2.1)::hp:=by unfold Iy; rw [if_pos hb]
  rw [hS] at hhop;rw [hS,hH];obtain ⟨d',hd'⟩:∃ d',d'=s.d a.1+a.2.2:=⟨_,rfl⟩;obtain ⟨h',hh'⟩:∃ h',h'=s.h a.1+1:=⟨_,rfl⟩;obtain ⟨v,hv⟩:∃ v,v=a.2.1:=⟨_,rfl⟩;rw [← hd',← hh',← hv] at hb hhop ⊢;have hdD:D≤d':=by omega
  have p1:(Hw s v d' h').d v=d':=if_pos rfl;have p2:(Hw s v d' h').h v=h':=if_pos rfl;have p3:∀ x,x≠v→(Hw s v d' h').d x=s.d x:=fun x hx=>if_neg hx;have p4:∀ x,x≠v→(Hw s v d' h').h x=s.h x:=fun x hx=>if_neg hx;have hsD:=hlow a.1;unfold DX at hb
  have hc1:∀ x,x≠v→((d',v)::hp).count (s.d x,x)=hp.count (s.d x,x):=fun x hx=>by
   rw [List.count_cons,if_neg (by simp; intro _ h; exact hx h.symm)]; rfl
  have hc2:((d',v)::hp).count (d',v)=hp.count (d',v)+1:=by rw [List.count_cons_self]
  have hc3:s.d v = -1∨d'<s.d v→hp.count (d',v)=0:=fun h=>List.count_eq_zero.2 fun hm=>by
   have:=P.item _ hm;dsimp only at this;omega
  have h0:d' ≠ -1:=by omega
  have hh1:=hhop (by rw [p1]; exact h0);rw [p2] at hh1
  have hlabv:((d',v)::hp).count (d',v)+h'≤n:=by
   rw [hc2]
   rcases hb with h | h | ⟨h,hlt⟩
   ·rw [hc3 (.inl h)]; omega
   ·rw [hc3 (.inr h)]; omega
   ·have:=P.lab v (by rw [← h]; exact h0);rw [← h] at this;omega
  have hgx:∀ x,gv n D (Hw s v d' h') ((d',v)::hp) x≤gv n D s hp x:=fun x=>by
   unfold gv
   by_cases e:x=v
   ·subst e;rw [p1,p2]
    by_cases a1:d' ≠ -1∧d'≤D
    ·rw [if_pos a1]
     by_cases a2:s.d x ≠ -1∧s.d x≤D
     ·rw [if_pos a2];have e3:d'=s.d x∧h'<s.h x:=by omega
      rw [hc2,← e3.1];omega
     ·rw [if_neg a2]; omega
    ·rw [if_neg a1];rw [if_neg (fun h=>a1 ⟨h0,by omega⟩)];exact Int.le_refl _
   ·rw [p3 x e,p4 x e,hc1 x e];exact Int.le_refl _
  refine ⟨⟨fun t ht=>?_,fun t ht=>?_,fun x hx=>?_⟩,?_⟩
  ·rcases List.mem_cons.1 ht with rfl | ht
   ·exact hdD
   ·exact P.keys t ht
  ·rcases List.mem_cons.1 ht with rfl | ht
   ·rw [p1]; exact ⟨h0,Int.le_refl _⟩
   ·obtain ⟨i1,i2⟩:=P.item t ht
    by_cases e:t.2=v
    ·rw [e,p1];rw [e] at i1 i2;exact ⟨h0,by omega⟩
    ·rw [p3 _ e]; exact ⟨i1,i2⟩
  ·by_cases e:x=v
   ·subst e; rw [p1,p2]; exact hlabv
   ·rw [p3 x e,p4 x e,hc1 x e];rw [p3 x e] at hx;exact P.lab x hx
  ·have h1:=JY (f:=fun x=>IP A x*gv n D (Hw s v d' h') ((d',v)::hp) x) (g:=fun x=>IP A x*gv n D s hp x) (k:=n) fun i _=>Int.mul_le_mul_of_nonneg_left (hgx i) (ZJ A i);unfold psi;rw [List.length_cons];omega
 ·have hS:GA s a=s:=by unfold GA; rw [if_neg hb]
  have hH:Iy s a hp=hp:=by unfold Iy; rw [if_neg hb]
  rw [hS,hH];exact ⟨P,by omega⟩
end Go.Proofs.YtdagmpmdcgedcaaGreat
namespace Go.Proofs.YtdagmpmdcgedcaaGreat
open Go.GV
attribute [local irreducible] AB W Wq Wt
abbrev FB (oo od oh ob n:Nat):List Value:=[.slice (some ⟨oo,0,none⟩) n n,.slice (some ⟨od,0,none⟩) n n,.slice (some ⟨oh,0,none⟩) n n,.slice (some ⟨ob,0,none⟩) n n]
def PH (s:Lb) (v:Nat):Int:=(s.h v:Nat)
def Js (g:Gr) (p:Nat→Int) (a:Nat):Ar:=(g.u a,g.v a,g.len p a)
set_option maxRecDepth 20000 in
theorem Xo {w:World} {bf oo od oh ob n:Nat} {s:Lb} (hf:w.heap[bf]? = some (Bl 294 (FB oo od oh ob n))) (hd:w.heap[od]? = some (Bl 2 (BS s.d n))) (hh:w.heap[oh]? = some (Bl 3 (BS (PH s) n))) (v:Nat) (hv:v<n) (_hn:n≤1000000) (d:Int) (h:Nat) :
  Ret Tryz.prog 282 #[ptr bf,.int .i64 (v:Int),.int .i64 d,.int .i64 (h:Int)] w fun r w'=>r = .bool (decide (DX s v d h))∧w=w':=by
 obtain ⟨w0,rfl⟩:∃ w0,w0=w:=⟨_,rfl⟩;have Rdd:=Cx hd;have Rhh:=Cx hh;have hhv:PH s v=(s.h v:Nat):=rfl;obtain ⟨x,hx⟩:∃ x,x=s.d v:=⟨_,rfl⟩;obtain ⟨y,hy⟩:∃ y,y=s.h v:=⟨_,rfl⟩;have hgd:(tab s.d n)[v]? = some x:=by rw [BT hv,hx]
 have hgh:(tab (PH s) n)[v]? = some (y:Int):=by rw [BT hv,hhv,hy]
 have hiff:DX s v d h↔(x = -1∨d<x∨(d=x∧h<y)):=by rw [hx,hy]; exact Iff.rfl
 rw [show decide (DX s v d h)=decide (x = -1∨d<x∨(d=x∧h<y)) from decide_eq_decide.2 hiff];clear hiff;refine Aw (fn:=Tryz.f282) Tryz.func282 U [.pointer (some ⟨bf,0,none⟩),.int .i64 (v:Int),.int .i64 d,.int .i64 (h:Int)] U (by kernel_rfl) ?_;refine Af (Ai U (Ab (Aa (Af (Ay U (A9 U (Ag El U (AZ Cg U ((by rw [Aj hf]; rfl)) ?_))))))));refine Ae U (Bn Bg B6 U U ?_);refine AZ Bw U ((Rdd.fld hgd U (j:=0) U)) ?_;refine Cf U U (AE U (AY 17 U ?_ ?_))
 ·intro h1;replace h1:=AJ h1;refine Ah U (Ah U (Ah U (Ah U (Ah U (Ah U (Ah U (Ah U (Ah U (AN U (.bool _) U ?_)))))))));refine AE U (Ah U (Ah U (Ah U (Ah U (Ah U (Ah U (Ah U (Ah U (Ah U ?_)))))))));refine Ah U (Ah U (Ah U (Ah U (Ah U (Ah U (Ah U (Ah U (Ah U (Ah U ?_)))))))));refine Ah U (AN U (.bool _) U (Ai U (Ab (Aa (A4 (AD (v:=(.bool _)) U U U ?_))))));exact ⟨congrArg Value.bool (by clear hgd hgh hx hy; rw [Bool.eq_iff_iff]; simp_all; try omega),rfl⟩
 ·intro h2;replace h2:=AK h2;refine Ae U (Ay U (A9 U (Ag El U (AZ Cg U ((by rw [Aj hf]; rfl)) ?_))));refine Ae U (Bn Bg B6 U U ?_);refine AZ Bw U ((Rdd.fld hgd U (j:=0) U)) ?_;refine Bj U U (AU U (.bool _) U (AE U (AY 28 U ?_ ?_)))
  ·intro h3;replace h3:=AJ h3;refine Ah U (Ah U (Ah U (Ah U (Ah U (Ah U (Ah U (Ah U (Ah U (Ah U ?_)))))))));refine Ah U (Ah U (Ah U (Ah U (Ah U (Ah U (Ah U (Ah U (Ah U (Ah U ?_)))))))));refine AN U (.bool _) U (Ai U (Ab (Aa (A4 (AD (v:=(.bool _)) U U U ?_)))));exact ⟨congrArg Value.bool (by clear hgd hgh hx hy; rw [Bool.eq_iff_iff]; simp_all; try omega),rfl⟩
  ·intro h4;replace h4:=AK h4;refine Ae U (Ay U (A9 U (Ag El U (AZ Cg U ((by rw [Aj hf]; rfl)) ?_))));refine Ae U (Bn Bg B6 U U ?_);refine AZ Bw U ((Rdd.fld hgd U (j:=0) U)) ?_;refine Cf U U (AE U (AY 38 U ?_ ?_))
   ·intro h5;replace h5:=AJ h5;refine Ae U (Ay U (A9 U (Ag Ho U (AZ Ie U ((by rw [Aj hf]; rfl)) ?_))));refine Ae U (Bn Fu FY U U ?_);refine AZ Ca U ((Rhh.fld hgh U (j:=0) U)) ?_;refine Bj U U (AN U (.bool _) U (AU U (.bool _) U (Ai U (Ab (Aa (A4 (AD (v:=(.bool _)) U U U ?_)))))));exact ⟨congrArg Value.bool (by clear hgd hgh hx hy; rw [Bool.eq_iff_iff]; simp_all; try omega),rfl⟩
   ·intro h6;replace h6:=AK h6;refine Ah U (Ah U (Ah U (Ah U (Ah U (Ah U (Ah U (Ah U (Ah U (AU U (.bool _) U ?_)))))))));refine AU U (.bool _) U (Ai U (Ab (Aa (A4 (AD (v:=(.bool _)) U U U ?_)))));exact ⟨congrArg Value.bool (by clear hgd hgh hx hy; rw [Bool.eq_iff_iff]; simp_all; try omega),rfl⟩
def Jt (x:Lb × List Tg) (a:Ar):Lb × List Tg:=(GA x.1 a,Iy x.1 a x.2)
def goP (g:Gr) (p:Nat→Int) (s:Lb) (hp:List Tg) (l:List Nat):Lb × List Tg:=(l.map (Js g p)).foldl Jt (s,hp)
theorem ZL (g:Gr) (p:Nat→Int) (s:Lb) (hp:List Tg) {l:List Nat} {i a:Nat} (h:l[i]? = some a):goP g p s hp (l.take (i+1))=Jt (goP g p s hp (l.take i)) (Js g p a):=by
 unfold goP;rw [Fj h,List.map_append,List.foldl_append]; rfl
abbrev GB (od oh n:Nat) (s:Lb) (bh:Nat) (a:Option Addr) (hn c:Nat) (full:List Value):List (Nat × Obj):=(od,Bl 2 (BS s.d n))::(oh,Bl 3 (BS (PH s) n))::HB bh a hn c full
structure GSt where
 i:Nat
 a:Option Addr
 hn:Nat
 c:Nat
 full:List Value
 L:List Tg
set_option maxRecDepth 20000 in
set_option maxHeartbeats 8000000 in
theorem Ad0 {w:World} {bf oo od oh ob n:Nat} {s:Lb} {g:Gr} {p:Nat→Int} {bh:Nat} {a:Option Addr} {hn c:Nat} {full:List Value} {L:List Tg} {La:List Nat} {au:Option Addr} {cu u:Nat} {outs:List Value} (H0:Ctx w ((GB od oh n s bh a hn c full).map (·.1)) w (GB od oh n s bh a hn c full)) (O:OS a hn c 2 full (L.flatMap EM)) (hH:HeapL L)
  (hf:w.heap[bf]? = some (Bl 294 (FB oo od oh ob n))) (hfn:bf∉(GB od oh n s bh a hn c full).map (·.1)) (ho:w.heap[oo]? = some (Bl 300 outs)) (_hon:oo∉(GB od oh n s bh a hn c full).map (·.1)) (hou:outs[u]? = some (.slice au La.length cu)) (hun:u<n)
  (R:Rd w au 4 (GD g p) La) (hRn:La≠[]→(adr au).block∉(GB od oh n s bh a hn c full).map (·.1)) (hLa:∀ x∈La,g.u x=u∧g.v x<n ∧ -1152921504606846976≤g.len p x∧g.len p x≤1152921504606846976) (hhn:hn+La.length≤100000000)
  (hbd:∀ k x,k≤La.length → -1≤(goP g p s L (La.take k)).1.d x∧(goP g p s L (La.take k)).1.d x≤1152921504606846976∧(goP g p s L (La.take k)).1.h x≤1000000)  (hn6:n≤1000000:=by omega):
  Ret Tryz.prog 269 #[ptr bf,ptr bh,.int .i64 (u:Int)] w fun v w'=>v = .tuple #[]∧∃ (a':Option Addr) (hn' c':Nat) (full':List Value) (L':List Tg),L'.Perm (goP g p s L La).2∧HeapL L'∧OS a' hn' c' 2 full' (L'.flatMap EM)∧Ctx w ((GB od oh n s bh a hn c full).map (·.1)) w' (GB od oh n (goP g p s L La).1 bh a' hn' c' full'):=by
 obtain ⟨w0,rfl⟩:∃ w0,w0=w:=⟨_,rfl⟩;obtain ⟨ids,hids⟩:∃ ids,ids=(GB od oh n s bh a hn c full).map (·.1):=⟨_,rfl⟩;rw [← hids] at H0 hfn _hon hRn ⊢;have H:=H0;refine Aw (fn:=Tryz.f269) Tryz.func269 U [.pointer (some ⟨bf,0,none⟩),.pointer (some ⟨bh,0,none⟩),.int .i64 (u:Int)] U (by kernel_rfl) ?_;refine Af (Ay U (A9 U (Ag LG U (AZ Rr U ((by rw [Aj hf]; rfl)) ?_))));refine Ae U (Bn MC ME U U ?_);refine AZ UD U ((by rw [Aj ho]; simpa using hou)) ?_;refine Bi Lh U (Ae U (Ab (Aa (A0 (Bt 9444732965739290296704 (α:=GSt) (fun t=>[(17,.int .i64 (t.i:Int))]) (fun t w'=>t.i≤La.length∧t.L.Perm (goP g p s L (La.take t.i)).2∧HeapL t.L∧t.hn≤hn+t.i∧OS t.a t.hn t.c 2 t.full (t.L.flatMap EM)∧Ctx w0 ids w' (GB od oh n (goP g p s L (La.take t.i)).1 bh t.a t.hn t.c t.full)) (fun t=>La.length - t.i) ⟨0,a,hn,c,full,L⟩ U ?_ ?_ ?_)))))
 ·exact ⟨rfl,trivial⟩
 ·exact ⟨Nat.zero_le _,.refl _,hH,Nat.le_refl _,O,H⟩
 ·rintro ⟨i,a,hk,c,full,L'⟩ j w ⟨hi,hp,hH,hkn,O,H⟩; dsimp only at hi hp hH hkn O H; dsimp only;obtain ⟨si,hsi⟩:∃ si,si=(goP g p s L (La.take i)).1:=⟨_,rfl⟩;obtain ⟨hi2,hhi2⟩:∃ q,q=(goP g p s L (La.take i)).2:=⟨_,rfl⟩;have hgi:goP g p s L (La.take i)=(si,hi2):=by rw [hsi,hhi2]
  rw [← hsi] at H;rw [← hhi2] at hp;refine Af (Bj U U (Ab (Aa (Aq (Ap _ U ?_ ?_)))))
  ·intro h1;replace h1:=AJ h1;obtain ⟨x,hxa⟩:=A8 (l:=La) (i:=i);obtain ⟨hxu,hxv,hl1,hl2⟩:=hLa x (List.mem_of_getElem? hxa);have hsn:=ZL g p s L hxa;rw [hgi] at hsn;have hbu:=hbd i u hi;have hbv:=hbd i (g.v x) hi;rw [hgi] at hbu hbv;dsimp only at hbu hbv;obtain ⟨v,hv⟩:∃ v,v=g.v x:=⟨_,rfl⟩;obtain ⟨ln,hln⟩:∃ ln,ln=g.len p x:=⟨_,rfl⟩;have hrow:GD g p x=[.int .i64 (x:Int),.int .i64 (u:Int),.int .i64 (v:Int),.int .i64 ln]:=by unfold GD; rw [hxu,hv,hln]
   rw [← hv] at hxv hbv;rw [← hln] at hl1 hl2;have hne:La≠[]:=fun h=>by rw [h] at hxa; cases hxa
   refine Au (Aa (Aq (A0 (Af (AS R Lh Hr U U (by rfl) ?_)))));refine Cj _ UC Hr U U (Rd.rowE (R.ext H.ext (hRn hne)) hxa hrow U) ?_;refine AX JX H ?_;rintro b7 w - H;refine Bm Hr U U U (by simp [AO]) H at0 U ?_;rintro w H;refine Ab (Aa ?_);have K0:∀ {z},Ext ids w0 z→z.heap[bf]? = some (Bl 294 (FB oo od oh ob n)):=fun hz=>hz.to hf hfn;obtain ⟨du,hdu⟩:∃ du,du=si.d u:=⟨_,rfl⟩;obtain ⟨hu,hhu⟩:∃ hu,hu=si.h u:=⟨_,rfl⟩;have hgd:(tab si.d n)[u]? = some du:=by rw [BT hun,hdu]
   have hgh:(tab (PH si) n)[u]? = some (hu:Int):=by rw [BT hun,hhu]; rfl
   have har:Js g p x=(u,v,ln):=by unfold Js; rw [hxu,← hv,← hln]
   rw [← hdu,← hhu] at hbu;have RD:=Cx (H.drew.get at1);refine Er (fun x=>x=_) Bs (by kernel_rfl) U ?_;refine B4 U (Bb U (A7 El U (BX Cg U (by rintro _ rfl; exact ((by rw [Aj (K0 H.drew.ext)]; rfl))) ?_)));refine Bh U (Bf Bg B6 U U ?_);refine BX Bw U (by rintro _ rfl; exact ((RD.fld hgd rfl (j:=0) rfl))) ?_;refine A7 OG U (Cn Bw U (by rintro _ rfl; exact H.drew) at0 U ?_);refine De U U ?_;refine Db U (BW ?_);rintro _ rfl;replace H:=H.drew;have RH:=Cx (H.drew.get at2);refine Eb 12 Bs (by kernel_rfl) U U ?_;refine B4 U (A7 F5 U (Cn Ca U (by rintro _ rfl; exact H.drew) at0 U ?_));refine Bh U (B4 U (Bb U (A7 Ho U (BX Ie U (by rintro _ rfl; exact ((by rw [Aj (K0 H.drew.ext)]; rfl))) ?_))));refine Bh U (Bf Fu FY U U ?_)
   refine BX Ca U (by rintro _ rfl; exact ((RH.fld hgh rfl (j:=0) rfl))) ?_;refine De U U ?_;rw [show (hu:Int)+1=((hu+1:Nat):Int) by omega];refine BW ?_;replace H:=H.drew;refine Al Ai4 (Xo (K0 H.ext) (H.get at1) (H.get at2) v hxv hn6 (du+ln) (hu+1)) U ?_;rintro rv w ⟨rfl,rfl⟩;refine Ab (Aa (Ap _ U ?_ ?_))
   ·intro h2;have h2':DX si v (du+ln) (hu+1):=by simpa using h2
    have hS:GA si (Js g p x)=Hw si v (du+ln) (hu+1):=by rw [har]; unfold GA; dsimp only; rw [← hdu,← hhu,if_pos h2']
    have hHH:Iy si (Js g p x) hi2=(du+ln,v)::hi2:=by rw [har]; unfold Iy; dsimp only; rw [← hdu,← hhu,if_pos h2']
    refine Cq [([0,1,2,3,4,5,6,7,8,9,10,11,12,13,14,15,16,17,18,19,20,21],22),([23],24)] (fun z=>z.heap[bf]? = some (Bl 294 (FB oo od oh ob n))∧z.heap[b7]? = some (Bl 299 [.int .i64 (x:Int),.int .i64 (u:Int),.int .i64 (v:Int),.int .i64 ln])∧z.heap[oh]? = some (Bl 3 (BS (PH si) n))) [24] Bs (by kernel_rfl) (⟨K0 H.drew.ext,H.drew.get at0,H.drew.get at2⟩) ?_;refine AF U U ?_;refine BD U (Bd U (An U El U (B0 Cg U (fun _ hx=>(by rw [Aj hx.1]; rfl)) ?_)));refine An U F5 U (B0 Ca U (fun _ hx=>(by rw [Aj hx.2.1]; rfl)) ?_);refine BD U (Bd U (An U Ho U (B0 Ie U (fun _ hx=>(by rw [Aj hx.1]; rfl)) ?_)));refine An U F5 U (B0 Ca U (fun _ hx=>(by rw [Aj hx.2.1]; rfl)) ?_);refine Be U (BD U (Bd U (An U Ho U (B0 Ie U (fun _ hx=>(by rw [Aj hx.1]; rfl)) ?_))));refine Be U (AH Fu FY U U ?_)
    refine B0 Ca U (fun _ hx=>((Cx hx.2.2).fld hgh rfl (j:=0) rfl)) ?_;refine Eg U U ?_;rw [show (hu:Int)+1=((hu+1:Nat):Int) by omega];refine AH Bg B6 U U ?_;refine AP ?_;replace H:=H.drew;refine Cc v (fun q => .int .i64 ((Hw si v (du+ln) (hu+1)).d q)) (.int _ _) B6 U U U H at1 (by simp) (by show Value.int _ (if v=v then _ else _)=_; rw [if_pos rfl]) (fun q _ hq=>by show Value.int _ (if q=v then _ else _)=_; rw [if_neg hq]) ?_;rintro w H;refine Ab (BR (⟨K0 H.ext,H.get at0,H.get at2⟩) (AF U U ?_));refine AH Fu FY U U ?_
    refine AP (Cc v (fun q => .int .i64 (PH (Hw si v (du+ln) (hu+1)) q)) (.int _ _) FY U U U H at2 (by simp) (by show Value.int _ (((if v=v then _ else _:Nat)):Int)=_; rw [if_pos rfl]) (fun q _ hq=>by show Value.int _ (((if q=v then _ else _:Nat)):Int)=_; rw [if_neg hq]; rfl) ?_);rintro w H;refine Ab (Bz U (BH (Az (Ay U (Ae U (Ag F5 U (AM Ca U H at0 U ?_)))))));have Hc:=Ctx.comm (L:=[_,_,_]) (L':=HB bh a hk c full) H;refine Al Ze (VZ (Ctx.lend (L1:=HB bh a hk c full) (L2:=[_,_,_]) Hc) O hH (du+ln) v) U ?_;rintro rv w ⟨rfl,a',c',f',L2,hp2,hH2,O2,H2⟩;replace H:=Ctx.comm (L:=HB bh a' (hk+1) c' f') (L':=[_,_,_]) (Ctx.back (L1:=HB bh a hk c full) (L2:=[_,_,_]) Hc H2);refine Ab (A5 (Aa (Az (Ax U U ?_))));refine Ae U (Ab (Aa ?_))
    refine ⟨⟨i+1,a',hk+1,c',f',L2⟩,rfl,⟨rfl,trivial⟩,⟨by dsimp only; omega,?_,hH2,by dsimp only; omega,O2,?_⟩,by dsimp only; omega⟩
    ·dsimp only; rw [hsn]; show L2.Perm (Iy si (Js g p x) hi2); rw [hHH]; exact hp2.trans (hp.cons _)
    ·dsimp only; rw [hsn]; show Ctx w0 ids w (GB od oh n (GA si (Js g p x)) bh a' (hk+1) c' f'); rw [hS]; exact H.tail
   ·intro h2;have h2':¬ DX si v (du+ln) (hu+1):=by simpa using h2
    have hS:GA si (Js g p x)=si:=by rw [har]; unfold GA; dsimp only; rw [← hdu,← hhu,if_neg h2']
    have hHH:Iy si (Js g p x) hi2=hi2:=by rw [har]; unfold Iy; dsimp only; rw [← hdu,← hhu,if_neg h2']
    refine Au (A5 (Aa (Az (Ax U U ?_))));refine Ae U (Ab (Aa ?_));refine ⟨⟨i+1,a,hk,c,full,L'⟩,rfl,⟨rfl,trivial⟩,⟨by dsimp only; omega,?_,hH,by dsimp only; omega,O,?_⟩,by dsimp only; omega⟩
    ·dsimp only; rw [hsn]; show L'.Perm (Iy si (Js g p x) hi2); rw [hHH]; exact hp
    ·dsimp only; rw [hsn]; show Ctx w0 ids _ (GB od oh n (GA si (Js g p x)) bh a hk c full); rw [hS]; exact H.tail
  ·intro h1;replace h1:=AK h1;refine Bq (Am (Am (AG (CF U U ?_))));obtain rfl:i=La.length:=by omega
   rw [List.take_length] at hsi hhi2;rw [hsi] at H;rw [hhi2] at hp;exact ⟨rfl,a,hk,c,full,L',hp,hH,O,H⟩
end Go.Proofs.YtdagmpmdcgedcaaGreat
namespace Go.Proofs.YtdagmpmdcgedcaaGreat
open Go.GV
attribute [local irreducible] AB W Wq Wt
abbrev NBl (od n:Nat) (s:Lb) (bh:Nat) (a:Option Addr) (hn c:Nat) (full:List Value):List (Nat × Obj):=(od,Bl 2 (BS s.d n))::HB bh a hn c full
def Ju (src:List Nat):List Tg:=src.map fun v=>(0,v)
theorem Tx {src:List Nat} {i v:Nat} (h:src[i]? = some v) (x:Nat):(lb0 (src.take (i+1))).d x=if x=v then 0 else (lb0 (src.take i)).d x:=by
 unfold lb0;dsimp only;rw [Fj h]
 by_cases e:x=v
 ·subst e; simp
 ·simp [e]
set_option maxRecDepth 20000 in
set_option maxHeartbeats 4000000 in
theorem ZM {w:World} {bf oo od oh ob n:Nat} {bh:Nat} {c:Nat} {src:List Nat} {fr:Option Addr} {fc:Nat} (H0:Ctx w ((NBl od n (lb0 []) bh none 0 c []).map (·.1)) w (NBl od n (lb0 []) bh none 0 c [])) (O:OS none 0 c 2 [] (([]:List Tg).flatMap EM))
  (hf:w.heap[bf]? = some (Bl 294 (FB oo od oh ob n))) (hfn:bf∉(NBl od n (lb0 []) bh none 0 c []).map (·.1)) (R:Rd w fr 1 I1 (src.map fun v:Nat=>(v:Int))) (hRn:src≠[]→(adr fr).block∉(NBl od n (lb0 []) bh none 0 c []).map (·.1)) (hsrc:∀ v∈src,v<n) (hnd:src.Nodup)  (_hn6:n≤1000000:=by omega) (hsl:src.length≤1000000:=by omega):
  Ret Tryz.prog 266 #[ptr bf,ptr bh,.slice fr src.length fc] w fun v w'=>v = .bool (decide (0<src.length))∧∃ (a':Option Addr) (c':Nat) (full':List Value) (L':List Tg),L'.Perm (Ju src)∧HeapL L'∧OS a' src.length c' 2 full' (L'.flatMap EM)∧Ctx w ((NBl od n (lb0 []) bh none 0 c []).map (·.1)) w' (NBl od n (lb0 src) bh a' src.length c' full'):=by
 obtain ⟨w0,rfl⟩:∃ w0,w0=w:=⟨_,rfl⟩;obtain ⟨ids,hids⟩:∃ ids,ids=(NBl od n (lb0 []) bh none 0 c []).map (·.1):=⟨_,rfl⟩;rw [← hids] at H0 hfn hRn ⊢;have H:=H0;refine Aw (fn:=Tryz.f266) Tryz.func266 U [.pointer (some ⟨bf,0,none⟩),.pointer (some ⟨bh,0,none⟩),.slice fr src.length fc] U (by kernel_rfl) ?_;refine Af (Ai U (Ab (Aa (Aq (Af (A3 U (Bi Fu U (Ae U (Ab (Aa (A0 ?_)))))))))));refine Bt 17592186042688 (α:=Option Addr × Nat × List Value × List Tg × Nat) (fun t=>[(11,.int .i64 (t.2.2.2.2:Int))]) (fun t w'=>t.2.2.2.2≤src.length∧t.2.2.2.1.Perm (Ju (src.take t.2.2.2.2))∧HeapL t.2.2.2.1∧OS t.1 t.2.2.2.2 t.2.1 2 t.2.2.1 (t.2.2.2.1.flatMap EM)∧Ctx w0 ids w' (NBl od n (lb0 (src.take t.2.2.2.2)) bh t.1 t.2.2.2.2 t.2.1 t.2.2.1)) (fun t=>src.length - t.2.2.2.2) (none,c,[],[],0) U ?_ ?_ ?_
 ·exact ⟨rfl,trivial⟩
 ·exact ⟨Nat.zero_le _,.refl _,fun i x y _ h=>(by cases h),O,H⟩
 ·rintro ⟨a,c,full,L,i⟩ j w ⟨hi,hp,hH,O,H⟩; dsimp only at hi hp hH O H; dsimp only;refine Af (Bj U U (Ab (Aa (Aq (Ap _ U ?_ ?_)))))
  ·intro h1;replace h1:=AJ h1;obtain ⟨v,hv⟩:=A8 (l:=src) (i:=i);have hvn:=hsrc v (List.mem_of_getElem? hv);have hvm:(src.map fun v:Nat=>(v:Int))[i]? = some (v:Int):=by rw [List.getElem?_map,hv]; rfl
   have hne:src≠[]:=fun h=>by rw [h] at hv; cases hv
   have hnot:v∉src.take i:=fun hm=>by
    obtain ⟨k,hk⟩:=List.getElem?_of_mem hm;rw [List.getElem?_take] at hk
    split at hk
    ·have hkl:=Ck hk;obtain ⟨h1,h2⟩:=List.getElem?_eq_some_iff.1 hk;obtain ⟨h3,h4⟩:=List.getElem?_eq_some_iff.1 hv;have:=(List.getElem_inj hnd).1 (h2.trans h4.symm);omega
    ·cases hk
   have hdv:(lb0 (src.take i)).d v = -1:=if_neg hnot;have hlm:(src.map fun v:Nat=>(v:Int)).length=src.length:=by rw [List.length_map]
   have hgd:(tab (lb0 (src.take i)).d n)[v]? = some (-1):=by rw [BT hvn,hdv]
   refine Au (Aa (Aq (A0 (Af (AS R Fu FY U U (by omega) ?_)))));refine AZ Ca U (((R.ext H.ext (hRn hne)).fld hvm U (j:=0) U)) ?_;refine Ad U (Ab (Aa (Aq (Af (Ae U (Bj U U (AE U (AY 17 U ?_ ?_))))))))
   ·intro h2;replace h2:=AJ h2;omega
   ·intro h2;replace h2:=AK h2;refine Ae U (Ay U (A9 U (Ag El U (AZ Cg U ((by rw [Aj (H.ext.to hf hfn)]; rfl)) ?_))));refine Bi Bg U (C4 U U (AU U (.bool _) U (Ab (Aa (Ap _ U ?_ ?_)))))
    ·intro h3;replace h3:=AJ h3;omega
    ·intro h3;replace h3:=AK h3;refine Au (Aa (Af (Ay U (A9 U (Ag El U (AZ Cg U ((by rw [Aj (H.ext.to hf hfn)]; rfl)) ?_))))));refine Ae U (Bn Bg B6 U U ?_);refine AZ Bw U (((Cx (H.get at0)).fld hgd U (j:=0) U)) ?_;refine C9 U U (Ab (Aa (Ap _ U ?_ ?_)))
     ·intro h4;replace h4:=CR h4;refine Af (Ay U (A9 U (Ag El U (AZ Cg U ((by rw [Aj (H.ext.to hf hfn)]; rfl)) ?_))));refine Ae U (Bn Bg B6 U U ?_);refine Cc v (fun q => .int .i64 ((lb0 (src.take (i+1))).d q)) (.int _ _) B6 U U U H at0 (by simp) (by rw [Tx hv,if_pos rfl]) (fun q _ hq=>by rw [Tx hv,if_neg hq]) ?_;rintro w H;refine Ab (Aa (Az (Ay U (Ae U ?_))));have Hc:=Ctx.comm (L:=[_]) (L':=HB bh a i c full) H;refine Al Ze (VZ (Ctx.lend (L1:=HB bh a i c full) (L2:=[_]) Hc) O hH 0 v) U ?_;rintro rv w ⟨rfl,a',c',f',L2,hp2,hH2,O2,H2⟩;replace H:=Ctx.comm (L:=HB bh a' (i+1) c' f') (L':=[_]) (Ctx.back (L1:=HB bh a i c full) (L2:=[_]) Hc H2);refine Ab (A5 (Aa (Az (Ax U U ?_))));refine Ae U (Ab (Aa ?_));refine ⟨(a',c',f',L2,i+1),rfl,⟨rfl,trivial⟩,⟨by dsimp only; omega,?_,hH2,O2,H⟩,by dsimp only; omega⟩
      dsimp only;unfold Ju at hp ⊢;rw [Fj hv,List.map_append];exact hp2.trans ((hp.cons _).trans (List.perm_append_singleton _ _).symm)
     ·intro h4;replace h4:=CS h4;omega
  ·intro h1;replace h1:=AK h1;refine Bq (Am (Am (AG (Aa (Af (A3 U (Bi Fu U (Cs U U (Ai U (Ab (Aa (A4 (AD (v:=(.bool _)) U U U ?_)))))))))))));obtain rfl:i=src.length:=by omega
   rw [List.take_length] at hp H;exact ⟨congrArg Value.bool (by rw [Bool.eq_iff_iff]; simp),a,c,full,L,hp,hH,O,H⟩
def LU (g:Gr) (p:Nat→Int) (s:Lb) (a:Nat):Prop:=s.d (g.u a) ≠ -1∧s.h (g.v a)≠0∧s.d (g.u a)+g.len p a=s.d (g.v a)∧s.h (g.u a)+1=s.h (g.v a)
structure BI (g:Gr) (p:Nat→Int) (s:Lb) (all done:Nat→Prop) (by':Nat→Int):Prop where
 val:∀ v,by' v = -1∨∃ a:Nat,by' v=(a:Int)∧all a∧LU g p s a∧g.v a=v
 in':∀ a,done a→LU g p s a→by' (g.v a) ≠ -1
theorem BI.skip {g:Gr} {p:Nat→Int} {s:Lb} {all done:Nat→Prop} {by':Nat→Int} (B:BI g p s all done by') {a:Nat} (h:¬ LU g p s a∨by' (g.v a) ≠ -1):BI g p s all (fun x=>x=a∨done x) by' :=
 ⟨B.val,fun x hx hg=>by
  rcases hx with rfl | hx
  ·exact h.resolve_left fun h=>h hg
  ·exact B.in' x hx hg⟩
theorem BI.put {g:Gr} {p:Nat→Int} {s:Lb} {all done:Nat→Prop} {by':Nat→Int} (B:BI g p s all done by') {a:Nat} (ha:all a) (hg:LU g p s a):BI g p s all (fun x=>x=a∨done x) (upd by' (g.v a) (a:Int)):=by
 refine ⟨fun v=>?_,fun x hx hgx=>?_⟩
 ·by_cases e:v=g.v a
  ·subst e; exact .inr ⟨a,Di _ _ _,ha,hg,rfl⟩
  ·rw [Et e]; exact B.val v
 ·by_cases e:g.v x=g.v a
  ·rw [e,Di]; omega
  ·rw [Et e]
   rcases hx with rfl | hx
   ·exact absurd U e
   ·exact B.in' x hx hgx
theorem BI.congr {g:Gr} {p:Nat→Int} {s:Lb} {all done done':Nat→Prop} {by':Nat→Int} (B:BI g p s all done by') (h:∀ x,done' x→done x):BI g p s all done' by':=⟨B.val,fun a ha=>B.in' a (h a ha)⟩
set_option maxRecDepth 20000 in
set_option maxHeartbeats 8000000 in
theorem ZN {w:World} {bf oo od oh ob n:Nat} {s:Lb} {g:Gr} {p:Nat→Int} {outs:List Value} {outL:Nat→List Nat} (hb:w.heap[ob]? = some (Bl 3 (BS (fun _ => -1) n))) (hf:w.heap[bf]? = some (Bl 294 (FB oo od oh ob n))) (hd:w.heap[od]? = some (Bl 2 (BS s.d n))) (hh:w.heap[oh]? = some (Bl 3 (BS (PH s) n))) (ho:w.heap[oo]? = some (Bl 300 outs))
  (nf:bf≠ob) (nd:od≠ob) (nh:oh≠ob) (no:oo≠ob) (hsd:∀ v,-1≤s.d v∧s.d v≤1152921504606846976∧s.h v≤1000000)
  (hout:∀ u,u<n→∃ au cu,outs[u]? = some (.slice au (outL u).length cu)∧Rd w au 4 (GD g p) (outL u)∧(outL u≠[]→(adr au).block≠ob)∧(outL u).length≤1000000∧∀ x∈outL u,g.u x=u∧g.v x<n ∧ -1152921504606846976≤g.len p x∧g.len p x≤1152921504606846976∧x≤1000000)  (hn6:n≤1000000:=by omega):
  Ret Tryz.prog 270 #[ptr bf] w fun v w'=>v = .tuple #[]∧∃ by':Nat→Int,BI g p s (fun a=>a∈outL (g.u a)) (fun a=>g.u a<n∧a∈outL (g.u a)) by'∧Ctx w [ob] w' [(ob,Bl 3 (BS by' n))]:=by
 obtain ⟨w0,rfl⟩:∃ w0,w0=w:=⟨_,rfl⟩;have H:=Ctx.start1 hb;have nf':bf∉[ob]:=by rw [List.mem_singleton]; exact nf
 have nd':od∉[ob]:=by rw [List.mem_singleton]; exact nd
 have nh':oh∉[ob]:=by rw [List.mem_singleton]; exact nh
 have no':oo∉[ob]:=by rw [List.mem_singleton]; exact no
 refine Aw (fn:=Tryz.f270) Tryz.func270 U [.pointer (some ⟨bf,0,none⟩)] U (by kernel_rfl) ?_;refine Af (Ay U (A9 U (Ag LG U (AZ Rr U ((by rw [Aj hf]; rfl)) ?_))));refine Bi MC U (Ae U (Ab (Aa (A0 (Bt 649037107316853453566312041148524 (α:=Nat × (Nat→Int)) (fun t=>[(12,.int .i64 (t.1:Int))]) (fun t w'=>t.1≤n∧BI g p s (fun a=>a∈outL (g.u a)) (fun a=>g.u a<t.1∧a∈outL (g.u a)) t.2∧Ctx w0 [ob] w' [(ob,Bl 3 (BS t.2 n))]) (fun t=>n - t.1) (0,fun _ => -1) U ?_ ?_ ?_)))))
 ·exact ⟨rfl,trivial⟩
 ·exact ⟨Nat.zero_le _,⟨fun v => .inl rfl,fun a h=>absurd h.1 (Nat.not_lt_zero _)⟩,H⟩
 ·rintro ⟨u,by'⟩ j w ⟨hi,B,H⟩; dsimp only at hi B H; dsimp only;refine Af (Bj U U (Ab (Aa (Aq (Ap _ U ?_ ?_)))))
  ·intro h1;replace h1:=AJ h1;obtain ⟨au,cu,hou,R,hRn,hul,hx7⟩:=hout u (by omega);refine Au (Aa (Aq (A0 (Af (Ae U (Bn MC ME U U ?_))))));refine AZ UD U ((by rw [Aj (H.ext.to ho no')]; simpa using hou)) ?_;refine Ad U (A1 U (Ab (Aa (Af (A3 U (Bi Lh U (Ae U (Ab (Aa (A0 ?_))))))))));obtain ⟨La,hLa⟩:∃ La,La=outL u:=⟨_,rfl⟩;rw [← hLa] at R hRn hul hx7 ⊢;refine Bt 324518553658426726783156020052064 (α:=Nat × (Nat→Int)) (fun t=>[(19,.int .i64 (t.1:Int))]) (fun t w'=>t.1≤La.length∧BI g p s (fun a=>a∈outL (g.u a)) (fun a=>(g.u a<u∧a∈outL (g.u a))∨a∈La.take t.1) t.2∧Ctx w0 [ob] w' [(ob,Bl 3 (BS t.2 n))]) (fun t=>La.length - t.1) (0,by') U ?_ ?_ ?_
   ·exact ⟨rfl,trivial⟩
   ·exact ⟨Nat.zero_le _,B.congr (fun x hx=>hx.elim id fun h=>by simp at h),H⟩
   ·rintro ⟨i,by'⟩ j2 w ⟨hi2,B,H⟩; dsimp only at hi2 B H; dsimp only;refine Af (Bj U U (Ab (Aa (Aq (Ap _ U ?_ ?_)))))
    ·intro h2;replace h2:=AJ h2;obtain ⟨x,hxa⟩:=A8 (l:=La) (i:=i);obtain ⟨hxu,hxv,hl1,hl2,hx6⟩:=hx7 x (List.mem_of_getElem? hxa);obtain ⟨v,hv⟩:∃ v,v=g.v x:=⟨_,rfl⟩;obtain ⟨ln,hln⟩:∃ ln,ln=g.len p x:=⟨_,rfl⟩;have hrow:GD g p x=[.int .i64 (x:Int),.int .i64 (u:Int),.int .i64 (v:Int),.int .i64 ln]:=by unfold GD; rw [hxu,hv,hln]
     rw [← hv] at hxv;rw [← hln] at hl1 hl2;have hne:La≠[]:=fun h=>by rw [h] at hxa; cases hxa
     have hau:(adr au).block∉[ob]:=by rw [List.mem_singleton]; exact hRn hne
     have hun:u<n:=by omega
     obtain ⟨du,hdu⟩:∃ du,du=s.d u:=⟨_,rfl⟩;obtain ⟨hu,hhu⟩:∃ hu,hu=s.h u:=⟨_,rfl⟩;obtain ⟨dv,hdv⟩:∃ dv,dv=s.d v:=⟨_,rfl⟩;obtain ⟨hw,hhw⟩:∃ hw,hw=s.h v:=⟨_,rfl⟩;have hgdu:(tab s.d n)[u]? = some du:=by rw [BT hun,hdu]
     have hghu:(tab (PH s) n)[u]? = some (hu:Int):=by rw [BT hun,hhu]; rfl
     have hgdv:(tab s.d n)[v]? = some dv:=by rw [BT hxv,hdv]
     have hghv:(tab (PH s) n)[v]? = some (hw:Int):=by rw [BT hxv,hhw]; rfl
     have hbu:=hsd u;rw [← hdu,← hhu] at hbu
     have hgo:LU g p s x↔(du ≠ -1∧hw≠0∧du+ln=dv∧hu+1=hw):=by
      unfold LU;rw [hxu,← hv,← hln,← hdu,← hhu,← hdv,← hhw]
     have hall:x∈outL (g.u x):=by rw [hxu,← hLa]; exact List.mem_of_getElem? hxa
     have hsub:∀ y,((g.u y<u∧y∈outL (g.u y))∨y∈La.take (i+1))→y=x∨((g.u y<u∧y∈outL (g.u y))∨y∈La.take i):=fun y hy=>by
      rcases hy with hy | hy
      ·exact .inr (.inl hy)
      ·rw [Fj hxa] at hy
       rcases List.mem_append.1 hy with hy | hy
       ·exact .inr (.inr hy)
       ·exact .inl (List.mem_singleton.1 hy)
     have RD:=Cx hd;have RH:=Cx hh;refine Au (Aa (Aq (A0 (Af (AS R Lh Hr U U (by rfl) ?_)))));refine Cj _ UC Hr U U (Rd.rowE (R.ext H.ext hau) hxa hrow U) ?_;refine AX JX H ?_;rintro b5 w - H;refine Bm Hr U U U (by simp [AO]) H at0 U ?_;rintro w H;refine Ab (Aa (Aq (DC 4835703278458516690436096 (α:=Unit) (fun _=>[(81,.bool (!decide (du ≠ -1∧hw≠0∧du+ln=dv∧hu+1=hw)))]) (fun _ w'=>Ctx w0 [ob] w' [(b5,Bl 299 [.int .i64 (x:Int),.int .i64 (u:Int),.int .i64 (v:Int),.int .i64 ln]),(ob,Bl 3 (BS by' n))]) U ?_ ?_)))
     ·skip
      refine V9 (fun x=>x=_) Bs (by kernel_rfl) U ?_;refine B4 U (Bb U (A7 El U (BX Cg U (by rintro _ rfl; exact ((by rw [Aj (H.drew.ext.to hf nf')]; rfl))) ?_)));refine Bh U (Bf Bg B6 U U ?_);refine BX Bw U (by rintro _ rfl; exact (((RD.ext H.drew.ext nd').fld hgdu rfl (j:=0) rfl))) ?_;refine Afj U U U (CU U (Dw 31 U ?_ ?_))
      ·intro h1;replace h1:=AJ h1;refine A2 U (A2 U (A2 U (A2 U (A2 U (A2 U (A2 U (A2 U (A2 U (Ia U (.bool _) U ?_)))))))));refine CU U (A2 U (A2 U (A2 U (A2 U (A2 U (A2 U (A2 U (A2 U (A2 U ?_)))))))));refine A2 U (A2 U (A2 U (A2 U (A2 U (A2 U (A2 U (A2 U (A2 U (A2 U ?_)))))))));refine Ia U (.bool _) U (CU U (A2 U (A2 U (A2 U (A2 U (A2 U (A2 U (A2 U (A2 U ?_)))))))));refine A2 U (A2 U (A2 U (A2 U (A2 U (A2 U (A2 U (A2 U (A2 U (Ia U (.bool _) U ?_)))))))));refine BW ?_;rintro _ rfl;replace H:=H.drew;refine Aa ?_;exact ⟨(),rfl,⟨congrArg Value.bool (by clear hgdu hghu hgdv hghv hgo hdu hhu hdv hhw; rw [Bool.eq_iff_iff]; simp_all; try omega),trivial⟩,H⟩
      ·intro h2;replace h2:=AK h2;refine B4 U (Bb U (A7 Ho U (BX Ie U (by rintro _ rfl; exact ((by rw [Aj (H.drew.ext.to hf nf')]; rfl))) ?_)));refine A7 F5 U (Cn Ca U (by rintro _ rfl; exact H.drew) at0 U ?_);refine Bf Fu FY U U ?_;refine BX Ca U (by rintro _ rfl; exact (((RH.ext H.drew.ext nh').fld hghv rfl (j:=0) rfl))) ?_;refine Afj U U U (GU U (.bool _) U (CU U (Dw 42 U ?_ ?_)))
       ·intro h3;replace h3:=AJ h3;refine A2 U (A2 U (A2 U (A2 U (A2 U (A2 U (A2 U (A2 U (A2 U (A2 U ?_)))))))));refine A2 U (A2 U (A2 U (A2 U (A2 U (A2 U (A2 U (A2 U (A2 U (Ia U (.bool _) U ?_)))))))));refine CU U (A2 U (A2 U (A2 U (A2 U (A2 U (A2 U (A2 U (A2 U (A2 U ?_)))))))));refine A2 U (A2 U (A2 U (A2 U (A2 U (A2 U (A2 U (A2 U (Ia U (.bool _) U (BW ?_)))))))));rintro _ rfl;replace H:=H.drew;refine Aa ?_;exact ⟨(),rfl,⟨congrArg Value.bool (by clear hgdu hghu hgdv hghv hgo hdu hhu hdv hhw; rw [Bool.eq_iff_iff]; simp_all; try omega),trivial⟩,H⟩
       ·intro h4;replace h4:=AK h4;refine B4 U (Bb U (A7 El U (BX Cg U (by rintro _ rfl; exact ((by rw [Aj (H.drew.ext.to hf nf')]; rfl))) ?_)));refine Bh U (Bf Bg B6 U U ?_);refine BX Bw U (by rintro _ rfl; exact (((RD.ext H.drew.ext nd').fld hgdu rfl (j:=0) rfl))) ?_;refine A7 OG U (Cn Bw U (by rintro _ rfl; exact H.drew) at0 U ?_);refine De U U ?_;refine B4 U (Bb U (A7 El U (BX Cg U (by rintro _ rfl; exact ((by rw [Aj (H.drew.ext.to hf nf')]; rfl))) ?_)));refine A7 F5 U (Cn Ca U (by rintro _ rfl; exact H.drew) at0 U ?_);refine Bf Bg B6 U U ?_;refine BX Bw U (by rintro _ rfl; exact (((RD.ext H.drew.ext nd').fld hgdv rfl (j:=0) rfl))) ?_;refine Yv U U U (GU U (.bool _) U (CU U (Dw 63 U ?_ ?_)))
        ·intro h5;replace h5:=CR h5;refine A2 U (A2 U (A2 U (A2 U (A2 U (A2 U (A2 U (A2 U (A2 U (A2 U ?_)))))))));refine A2 U (A2 U (A2 U (A2 U (A2 U (A2 U (A2 U (Ia U (.bool _) U (BW ?_))))))));rintro _ rfl;replace H:=H.drew;refine Aa ?_;exact ⟨(),rfl,⟨congrArg Value.bool (by clear hgdu hghu hgdv hghv hgo hdu hhu hdv hhw; rw [Bool.eq_iff_iff]; simp_all; try omega),trivial⟩,H⟩
        ·intro h6;replace h6:=CS h6;refine B4 U (Bb U (A7 Ho U (BX Ie U (by rintro _ rfl; exact ((by rw [Aj (H.drew.ext.to hf nf')]; rfl))) ?_)));refine Bh U (Bf Fu FY U U ?_);refine BX Ca U (by rintro _ rfl; exact (((RH.ext H.drew.ext nh').fld hghu rfl (j:=0) rfl))) ?_;refine De U U ?_;refine B4 U (Bb U (A7 Ho U (BX Ie U (by rintro _ rfl; exact ((by rw [Aj (H.drew.ext.to hf nf')]; rfl))) ?_)));refine A7 F5 U (Cn Ca U (by rintro _ rfl; exact H.drew) at0 U ?_);refine Bf Fu FY U U ?_;refine BX Ca U (by rintro _ rfl; exact (((RH.ext H.drew.ext nh').fld hghv rfl (j:=0) rfl))) ?_;refine Yv U U U (GU U (.bool _) U (BW ?_));rintro _ rfl;replace H:=H.drew;refine Aa ?_
         exact ⟨(),rfl,⟨congrArg Value.bool (by clear hgdu hghu hgdv hghv hgo hdu hhu hdv hhw; rw [Bool.eq_iff_iff]; simp_all; try omega),trivial⟩,H⟩
     ·rintro - j6 w H;refine Ap _ U ?_ ?_
      ·intro h3;have hng:¬ LU g p s x:=by rw [hgo]; exact of_decide_eq_false (by simpa only [Bool.not_eq_true'] using h3)
       refine Bq (Am (AG (Aa (Az (Ax U U ?_)))));refine Ae U (Ab (Aa ?_));exact ⟨(i+1,by'),rfl,⟨rfl,trivial⟩,⟨by dsimp only; omega,(B.skip (.inl hng)).congr hsub,H.tail⟩,by dsimp only; omega⟩
      ·intro h3;have hg:LU g p s x:=by rw [hgo]; simpa using h3
       have hgb:(tab by' n)[v]? = some (by' v):=BT hxv;have hnot:by' v ≠ -1→BI g p s (fun a=>a∈outL (g.u a)) (fun a=>(g.u a<u∧a∈outL (g.u a))∨a∈La.take (i+1)) by':=fun h=>(B.skip (.inr (hv ▸ h))).congr hsub
       refine Au (Aa (Er (fun x=>x=_) Bs (by kernel_rfl) U ?_));refine B4 U (Bb U (A7 JV U (BX Ie U (by rintro _ rfl; exact ((by rw [Aj (H.drew.ext.to hf nf')]; rfl))) ?_)));refine A7 F5 U (Cn Ca U (by rintro _ rfl; exact H.drew) at0 U ?_);refine Bf Fu FY U U ?_;refine BX Ca U (by rintro _ rfl; exact (((Cx (H.drew.get at1)).fld hgb rfl (j:=0) rfl))) ?_;refine Db U (BW ?_);rintro _ rfl;replace H:=H.drew;refine Af (Ae U (Cf U U (AE U (AY 92 U ?_ ?_))))
       ·intro h4;replace h4:=AJ h4;refine Ah U (Ah U (Ah U (Ah U (AN U (.bool _) U (Ab (Aa (Dz U (ER [([0,1,2,3,4,5,6,7,8],9)] (fun z=>z.heap[bf]? = some (Bl 294 (FB oo od oh ob n))∧z.heap[b5]? = some (Bl 299 [.int .i64 (x:Int),.int .i64 (u:Int),.int .i64 (v:Int),.int .i64 ln])) [9] Bs (by kernel_rfl) (⟨H.drew.ext.to hf nf',H.drew.get at0⟩) ?_))))))));refine AF U U ?_;refine BD U (Bd U (An U JV U (B0 Ie U (fun _ hx=>(by rw [Aj hx.1]; rfl)) ?_)));refine An U F5 U (B0 Ca U (fun _ hx=>(by rw [Aj hx.2]; rfl)) ?_);refine An U OE U (B0 Ca U (fun _ hx=>(by rw [Aj hx.2]; rfl)) ?_);refine AH Fu FY U U ?_;refine AP ?_;replace H:=H.drew;refine Cc v (fun q => .int .i64 (upd by' v (x:Int) q)) (.int _ _) FY U U U H at1 (by simp) (by rw [Di]) (fun q _ hq=>by rw [Et hq]) ?_;rintro w H
        refine Ab (Bz U (BH (A5 (Aa (Az (Ax U U ?_))))));refine Ae U (Ab (Aa ?_));exact ⟨(i+1,upd by' v (x:Int)),rfl,⟨rfl,trivial⟩,⟨by dsimp only; omega,(hv ▸ B.put hall hg).congr hsub,H.tail⟩,by dsimp only; omega⟩
       ·intro h4;replace h4:=AK h4;refine Ag OE U (AM Ca U H at0 U (Ae U (Bj U U (AU U (.bool _) U (Ab (Aa (Ap _ U ?_ ?_)))))))
        ·intro h5;replace h5:=AJ h5;refine ER [([0,1,2,3,4,5,6,7,8],9)] (fun z=>z.heap[bf]? = some (Bl 294 (FB oo od oh ob n))∧z.heap[b5]? = some (Bl 299 [.int .i64 (x:Int),.int .i64 (u:Int),.int .i64 (v:Int),.int .i64 ln])) [9] Bs (by kernel_rfl) (⟨H.drew.ext.to hf nf',H.drew.get at0⟩) ?_;refine AF U U ?_;refine BD U (Bd U (An U JV U (B0 Ie U (fun _ hx=>(by rw [Aj hx.1]; rfl)) ?_)));refine An U F5 U (B0 Ca U (fun _ hx=>(by rw [Aj hx.2]; rfl)) ?_);refine An U OE U (B0 Ca U (fun _ hx=>(by rw [Aj hx.2]; rfl)) ?_);refine AH Fu FY U U ?_;refine AP ?_;replace H:=H.drew;refine Cc v (fun q => .int .i64 (upd by' v (x:Int) q)) (.int _ _) FY U U U H at1 (by simp) (by rw [Di]) (fun q _ hq=>by rw [Et hq]) ?_;rintro w H;refine Ab (Bz U (BH (A5 (Aa (Az (Ax U U ?_))))));refine Ae U (Ab (Aa ?_))
         exact ⟨(i+1,upd by' v (x:Int)),rfl,⟨rfl,trivial⟩,⟨by dsimp only; omega,(hv ▸ B.put hall hg).congr hsub,H.tail⟩,by dsimp only; omega⟩
        ·intro h5;replace h5:=AK h5;refine Au (A5 (Aa (Az (Ax U U ?_))));refine Ae U (Ab (Aa ?_));exact ⟨(i+1,by'),rfl,⟨rfl,trivial⟩,⟨by dsimp only; omega,hnot h4,H.tail⟩,by dsimp only; omega⟩
    ·intro h2;replace h2:=AK h2;refine Bq (Am (Am (AG (A5 (Aa (Az (Ax U U ?_)))))));refine Ae U (Ab (Aa ?_));have hiL:i=La.length:=by omega
     refine ⟨(u+1,by'),rfl,⟨rfl,trivial⟩,⟨by dsimp only; omega,B.congr fun y hy=>?_,H⟩,by dsimp only; omega⟩;rw [hiL,List.take_length]
     rcases Nat.lt_or_ge (g.u y) u with h7 | h7
     ·exact .inl ⟨h7,hy.2⟩
     ·have hyu:g.u y=u:=by have:=hy.1; dsimp only at this; omega
      exact .inr (by rw [hLa,← hyu]; exact hy.2)
  ·intro h1;replace h1:=AK h1;refine Bq (Am (Am (AG (CF U U ?_))));obtain rfl:u=n:=by omega
   exact ⟨rfl,by',B,H⟩
end Go.Proofs.YtdagmpmdcgedcaaGreat
