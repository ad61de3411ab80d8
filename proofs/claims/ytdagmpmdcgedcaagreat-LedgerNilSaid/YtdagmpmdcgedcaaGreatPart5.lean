/- Part 5 of the proof. -/
import Derived.Test.YtdagmpmdcgedcaaGreatPart2
import Derived.Test.YtdagmpmdcgedcaaGreatPart4
/- Whether what flows is the best: the walks. -/
namespace Go.Proofs.YtdagmpmdcgedcaaGreat
open Go.GV
attribute [local irreducible] AB W Wq Wt

def M1 (x:Int):Bool:=decide (-1099511627776≤x) && decide (x≤1099511627776)
def FQ (N:Int) (pot:List Int):Bool:=pot.all M1 && decide ((pot.length:Int)=N)
def Yb (N:Int) (es:List Ed) (pot:List Int) (k:Int):Int:=(F3 N es k).2.2+pot.getD (F3 N es k).1.toNat 0 - pot.getD (F3 N es k).2.1.toNat 0
def IC (N:Int) (es:List Ed) (fl pot:List Int) (k:Nat):Bool := !(decide (Yb N es pot (k:Int)<0) && decide (0<Ka N es fl (k:Int)))
def Jv (N:Int) (es:List Ed) (fl pot:List Int):Bool:=(List.range (2*es.length)).all (IC N es fl pot)
def Fc (N:Int) (es:List Ed) (fl pot:List Int):Bool:=Cp N es && (Fs N es fl && (FQ N pot && Jv N es fl pot))

set_option maxRecDepth 20000 in
theorem Aaf (N:Int) (a p:Option Addr) (n c m d:Nat) (pot:List Int) (w:World) (R:Rd w p 1 I1 pot) (hm:pot.length=m) (hm2:m≤9223372036854775000) :
  Ret Tryz.prog 217 #[DG N a n c,.slice p m d] w fun v w'=>v = .bool (FQ N pot)∧Ext [] w w':=by
 subst hm;obtain ⟨w0,rfl⟩:∃ w0,w0=w:=⟨_,rfl⟩;have H:=Ctx.start w0 [];refine Au (fn:=Tryz.f217) Tryz.func217 U [DG N a n c,.slice p pot.length d] U (by kernel_rfl) ?_;refine Ad (Bu U [.int .i64 N,.slice a n c] (.agg _) U U H ?_);rintro b2 w - H;refine Ai U U (Ab (Aa (Aw (Ad (A4 U U (Bf U AR U (Af U U (Ab (Aa (Az (Bv 1048144 (α:=Nat) (fun i=>[(9,.int .i64 (i:Int))]) (fun i w'=>i≤pot.length∧Ctx w0 [] w' [(b2,Bl 51 [.int .i64 N,.slice a n c])]∧∀ (k:Nat) (x:Int),k<i→pot[k]? = some x→M1 x=true) (fun i=>pot.length - i) 0 U ?_ ?_ ?_)))))))))))
 ·exact ⟨rfl,trivial⟩
 ·exact ⟨Nat.zero_le _,H,fun k x h=>absurd h (Nat.not_lt_zero _)⟩
 ·rintro i j w ⟨hi,H,hb⟩;refine Ad (Bj U U U (Ab (Aa (Aw (Aq _ U ?_ ?_)))))
  ·intro h2;replace h2:=AM h2;obtain ⟨x,h7x⟩:=AD (l:=pot) (i:=i) (by omega);refine Av (Aa (Aw (Az (Ad (Bo R U AR Bx U U (by omega) (by omega) (by rfl) ?_)))));refine Bd U Bw U (((R.ext0 H.ext).fld h7x U (j:=0) U)) ?_;refine Ae U U (Ab (Aa (Ad (Cw (α:=Unit) 516096 (fun _=>[(18,.bool (!M1 x))]) (fun _ w'=>Ctx w0 [] w' [(b2,Bl 51 [.int .i64 N,.slice a n c])]) U ?_ ?_))))
   ·refine Af U U (Bj U U U (A7 U U (AV 15 U ?_ ?_)))
    ·intro h1;replace h1:=AM h1;refine Ag U (Ag U (AG U U (.bool _) U (Ab ?_)));exact ⟨rfl,(),rfl,⟨congrArg Value.bool (by unfold M1; rw [Bool.eq_iff_iff]; simp_all; try omega),trivial⟩,H⟩
    ·intro h2;replace h2:=AN h2;refine Af U U (Dn U U U (AJ U U (.bool _) U (Ab ?_)));exact ⟨rfl,(),rfl,⟨congrArg Value.bool (by unfold M1; rw [Bool.eq_iff_iff]; simp_all; try omega),trivial⟩,H⟩
   rintro - j18 w H;refine Aq _ U ?_ ?_
   ·intro h3;replace h3:=BD h3;refine Ad (Ai U U (Ab (Aa (A5 (A9 (Ao (Ao (A9 (Ao (AA (v:=(.bool _)) U U U ?_))))))))));exact ⟨congrArg Value.bool (by unfold FQ; rw [El h7x (by simpa using h3)]; rfl),H.ext⟩
   ·intro h3;replace h3:=BE h3;refine Av (A6 (Aa (A0 (Ay U U U (by omega) (by omega) ?_))));refine Af U U (Ab (Aa ?_));refine ⟨i+1,rfl,⟨rfl,trivial⟩,⟨by omega,H,fun k y hk hy=>?_⟩,by omega⟩
    rcases Nat.lt_or_ge k i with h7 | h7
    ·exact hb k y h7 hy
    ·obtain rfl:k=i:=by omega
     rw [h7x] at hy;cases hy
     simpa using h3
  ·intro h2;replace h2:=AN h2;refine Bt (Am (Am (AK (Aa (Ad (A4 U U (Bf U AR U (Ah U Ex U (AE U BS U H at0 U (Cz U U U (Ai U U (Ab (Aa (A5 (AA (v:=(.bool _)) U U U ?_)))))))))))))));exact ⟨congrArg Value.bool (by unfold FQ; rw [Fi fun k x hk hx=>hb k x (by omega) hx,Bool.true_and]),H.ext⟩

theorem Qg {N:Int} {es:List Ed} (hr:Cp N es=true) {k:Nat} (hk:k<2*es.length):∃ e,es[k / 2]? = some e∧F3 N es (k:Int)=Ht e k∧0≤(Ht e k).1∧(Ht e k).1<N∧0≤(Ht e k).2.1∧(Ht e k).2.1<N ∧ -1000≤(Ht e k).2.2∧(Ht e k).2.2≤1000:=by
 obtain ⟨e,he⟩:=AD (l:=es) (i:=k / 2) (by omega);have hco:=Ez ((C8 hr).2.2.2.1 e (List.mem_of_getElem? he));refine ⟨e,he,?_,?_⟩
 ·unfold F3;rw [if_pos (by rw [hr,Bool.and_true]; unfold Kq; simp; omega),Int.toNat_natCast,Bm he]
 ·unfold Ht
  split <;> (dsimp only; omega)
theorem Kr {N:Int} {pot:List Int} (hp:FQ N pot=true):(pot.length:Int)=N∧∀ (i:Nat) (x:Int),pot[i]? = some x → -1099511627776≤x∧x≤1099511627776:=by
 unfold FQ M1 at hp;simp only [Bool.and_eq_true,decide_eq_true_eq,List.all_eq_true] at hp;exact ⟨hp.2,fun i x hx=>hp.1 x (List.mem_of_getElem? hx)⟩
theorem Qh {N:Int} {es:List Ed} {fl:List Int} (hw:Cb N es fl=true) {k:Nat} (hk:k<2*es.length):∃ e x,es[k / 2]? = some e∧fl[k / 2]? = some x∧Ka N es fl (k:Int)=Mm e x k∧0≤x∧x≤e.cap∧e.cap≤4503599627370496:=by
 obtain ⟨hl,hri,hin⟩:=Ck hw;obtain ⟨e,he⟩:=AD (l:=es) (i:=k / 2) (by omega);obtain ⟨x,hx⟩:=AD (l:=fl) (i:=k / 2) (by omega);have hco:=Ez ((C8 hri).2.2.2.1 e (List.mem_of_getElem? he));have:=hin _ e x he hx;refine ⟨e,x,he,hx,?_,this.1,this.2,by omega⟩;unfold Ka;rw [if_pos (by rw [hw,Bool.and_true]; unfold Kq; simp; omega),Int.toNat_natCast,Bm he,Bm hx]
abbrev Rn (b p:Option Addr) (m d q r:Nat):Value := .agg #[.slice b m d,.slice p q r]

set_option maxRecDepth 20000 in
set_option maxHeartbeats 2000000 in
theorem Yc (N:Int) (a b p:Option Addr) (n c m d q r:Nat) (es:List Ed) (fl pot:List Int) (w:World) (R:Rd w a 4 C4 es) (hn:es.length=n) (hN:I64 N) (Rf:Rd w b 1 I1 fl) (hm:fl.length=m) (Rp:Rd w p 1 I1 pot) (hq:pot.length=q)
  (hr:Cp N es=true) (hw:Cb N es fl=true) (hp:FQ N pot=true) :
  Ret Tryz.prog 219 #[DG N a n c,Rn b p m d q r] w fun v w'=>v = .bool (Jv N es fl pot)∧Ext [] w w':=by
 subst hn hm hq;obtain ⟨w0,rfl⟩:∃ w0,w0=w:=⟨_,rfl⟩;have H:=Ctx.start w0 [];obtain ⟨hN1,hN40,hn200,-⟩:=C8 hr;obtain ⟨hpl,hpb⟩:=Kr hp;have hfl:=(Ck hw).1;refine Au (fn:=Tryz.f219) Tryz.func219 U [DG N a es.length c,Rn b p fl.length d pot.length r] U (by kernel_rfl) ?_;refine Ad (Bu U [.int .i64 N,.slice a es.length c] (.agg _) U U H ?_);rintro b2 w - H;refine Bu U [.slice b fl.length d,.slice p pot.length r] (.agg _) U U H ?_;rintro b3 w - H;refine Ai U U (Ab (Aa (Aw (Ad (Ah U CN U (AE U Ei U H at1 U (Bf U CW U (D8 U U U (by omega) (by omega) ?_))))))));refine Af U U (Ab (Aa (Az (Bv 70368744169968 (α:=Nat) (fun i=>[(13,.int .i64 (i:Int))]) (fun i w'=>i≤2*es.length∧Ctx w0 [] w' [(b3,Bl 53 [.slice b fl.length d,.slice p pot.length r]),(b2,Bl 51 [.int .i64 N,.slice a es.length c])]∧∀ k,k<i→IC N es fl pot k=true) (fun i=>2*es.length - i) 0 U ?_ ?_ ?_))))
 ·exact ⟨rfl,trivial⟩
 ·exact ⟨Nat.zero_le _,H,fun k h=>absurd h (Nat.not_lt_zero _)⟩
 ·rintro i j w ⟨hi,H,hb⟩;refine Ad (Bj U U U (Ab (Aa (Aw (Aq _ U ?_ ?_)))))
  ·intro h2;replace h2:=AM h2;have hi2:i<2*es.length:=by omega
   obtain ⟨e,he,hE,q1,q2,q3,q4,q5,q6⟩:=Qg hr hi2;obtain ⟨e',x,he',hx,hro,r1,r2,r3⟩:=Qh hw hi2;obtain ⟨un,hun⟩:∃ un:Nat,(Ht e i).1=un:=⟨(Ht e i).1.toNat,by omega⟩;obtain ⟨vn,hvn⟩:∃ vn:Nat,(Ht e i).2.1=vn:=⟨(Ht e i).2.1.toNat,by omega⟩;obtain ⟨pu,hpu⟩:=AD (l:=pot) (i:=un) (by omega);obtain ⟨pv,hpv⟩:=AD (l:=pot) (i:=vn) (by omega);have hbu:=hpb _ _ hpu;have hbv:=hpb _ _ hpv
   have hli:Yb N es pot (i:Int)=(Ht e i).2.2+pu - pv:=by
    unfold Yb;rw [hE,hun,hvn,Int.toNat_natCast,Int.toNat_natCast,Bm hpu,Bm hpv]
   have hgo:IC N es fl pot i=true→∀ k,k<i+1→IC N es fl pot k=true:=fun h3 k hk=>by
    rcases Nat.lt_or_ge k i with h7 | h7
    ·exact hb k h7
    ·obtain rfl:k=i:=by omega
     exact h3
   refine Av (Aa (Aw (Az (Ad (Af U U (Ae U U (Ab (Aa (Ad (Ce U CV C7 U H at1 U (Af U U ?_)))))))))));refine Al U Tq (Qe N a es.length c es _ (R.ext0 H.ext) U (by omega) hN (i:Int)) U ?_;rintro v w ⟨rfl,hx19⟩;replace H:=H.call hx19;rw [hE,hun,hvn];refine C0 U U (AO U U U (AO U U U (AO U U U (Ae U U (Ae U U (Ae U U (Ab (Aa (DM 19 Bq (by kernel_rfl) U U ?_)))))))));refine AU U U (A2 U Gg U (BU U BL U (by rintro _ rfl; exact H.drew) at0 U ?_));refine AU U U (BM Rp U AR Bx U U (by omega) (by omega) (by rfl) ?_);refine BP U Bw U (by rintro _ rfl; exact (((Rp.ext0 (H.ext.trans (Ext.drew [] _))).fld hpu rfl (j:=0) rfl))) ?_;refine Da U U U (by omega) (by omega) ?_;refine A2 U Gg U (BU U BL U (by rintro _ rfl; exact H.drew) at0 U ?_);refine AU U U (BM Rp U AR Bx U U (by omega) (by omega) (by rfl) ?_)
   refine BP U Bw U (by rintro _ rfl; exact (((Rp.ext0 (H.ext.trans (Ext.drew [] _))).fld hpv rfl (j:=0) rfl))) ?_;refine DV U U U (by omega) (by omega) ?_;refine JV U U U (CM U U (Dt 37 U ?_ ?_))
   ·intro h3;replace h3:=AM h3;refine Nd U CV C7 U (by rintro _ rfl; exact H.drew) at1 U ?_;refine A2 U Fm U (BU U BL U (by rintro _ rfl; exact H.drew) at0 U ?_);refine AU U U (BK ?_);replace H:=H.drew;refine Al U Tp (Qf N a b es.length c fl.length d es fl _ (R.ext0 H.ext) U (by omega) hN (Rf.ext0 H.ext) U (by omega) (i:Int)) U ?_;rintro v w ⟨rfl,hx42⟩;replace H:=H.call hx42;refine Dn U U U (AG U U (.bool _) U (Ab (Aa (Aq _ U ?_ ?_))))
    ·intro h4;replace h4:=AM h4;refine Ad (Ai U U (Ab (Aa (A5 (A9 (Ao (Ao (A9 (Ao (AA (v:=(.bool _)) U U U ?_))))))))));exact ⟨congrArg Value.bool (by unfold Jv; rw [El (List.getElem?_range hi2) (by unfold IC; rw [hli,decide_eq_true h3,decide_eq_true h4]; rfl)]),H.ext⟩
    ·intro h4;replace h4:=AN h4;refine Av (A6 (Aa (A0 (Ay U U U (by omega) (by omega) ?_))));refine Af U U (Ab (Aa ?_));exact ⟨i+1,rfl,⟨rfl,trivial⟩,⟨by omega,H,hgo (by unfold IC; rw [hli,decide_eq_false h4,Bool.and_false]; rfl)⟩,by omega⟩
   ·intro h3;replace h3:=AN h3;refine Ax U (Ax U (Ax U (Ax U (BK ?_))));replace H:=H.drew;refine Ag U (Ag U (AJ U U (.bool _) U (Ab (Aa (G9 U (Av (A6 (Aa (A0 (Ay U U U (by omega) (by omega) ?_))))))))));refine Af U U (Ab (Aa ?_));exact ⟨i+1,rfl,⟨rfl,trivial⟩,⟨by omega,H,hgo (by unfold IC; rw [hli,decide_eq_false h3,Bool.false_and]; rfl)⟩,by omega⟩
  ·intro h2;replace h2:=AN h2;refine Bt (Am (Am (AK (Aa (Ad (Ai U U (Ab (Aa (A5 (AA (v:=(.bool _)) U U U ?_))))))))));exact ⟨congrArg Value.bool (by unfold Jv; rw [List.all_eq_true.2 fun k hk=>hb k (by have:=List.mem_range.1 hk; omega)]),H.ext⟩

end Go.Proofs.YtdagmpmdcgedcaaGreat

/- Whether it is the best: the walk. -/
namespace Go.Proofs.YtdagmpmdcgedcaaGreat
open Go.GV
attribute [local irreducible] AB W Wq Wt

theorem Ih {w:World} {b:Nat} {t:TypeId} {l:List Value} (h:w.heap[b]? = some (Bl t l)):∀ j v,l[j]? = some v→w.cell? ⟨b,0+j,none⟩=some v:=fun j v hv=>by
 rw [Aj h,Nat.zero_add]; exact hv
/-- What the four questions read. -/
structure ChkK (b2 b3:Nat) (N:Int) (a b p:Option Addr) (c d r:Nat) (es:List Ed) (fl pot:List Int) (w:World):Prop where
 h2:w.heap[b2]? = some (Bl 51 [.int .i64 N,.slice a es.length c])
 h3:w.heap[b3]? = some (Bl 53 [.slice b fl.length d,.slice p pot.length r])
 R:Rd w a 4 C4 es
 Rf:Rd w b 1 I1 fl
 Rp:Rd w p 1 I1 pot
theorem ChkK.ext {b2 b3:Nat} {N:Int} {a b p:Option Addr} {c d r:Nat} {es:List Ed} {fl pot:List Int} {w w':World} (K:ChkK b2 b3 N a b p c d r es fl pot w) (h:Ext [] w w'):ChkK b2 b3 N a b p c d r es fl pot w' :=
 ⟨h.to K.h2 (by simp),h.to K.h3 (by simp),K.R.ext0 h,K.Rf.ext0 h,K.Rp.ext0 h⟩
section
variable {b2 b3:Nat} {N:Int} {a b p:Option Addr} {c d r:Nat} {es:List Ed} {fl pot:List Int} {w:World}
theorem Aag (K:ChkK b2 b3 N a b p c d r es fl pot w) (hN:I64 N):Ret Tryz.prog 213 #[ptr b2] w fun v w'=>v = .bool (Cp N es)∧Ext [] w w':=by
 obtain ⟨w0,rfl⟩:∃ w0,w0=w:=⟨_,rfl⟩;have H:=Ctx.start w0 [];refine Au (fn:=Tryz.f213) Tryz.func213 U [.pointer (some ⟨b2,0,none⟩)] U (by kernel_rfl) ?_;refine Ad (Ai U U (Ab (Aa (Ad (Cn _ U CV C7 U U (Ih K.h2) ?_)))));refine Al U PN (Lg N a es.length c es _ K.R U hN) U ?_;rintro v w ⟨rfl,hx3⟩;replace H:=H.call hx3;refine Ai U U (Ab (Aa (A5 (AA (v:=(.bool _)) U U U ?_))));exact ⟨rfl,H.ext⟩
theorem Aah (K:ChkK b2 b3 N a b p c d r es fl pot w) (hN:I64 N) (hf:fl.length≤9223372036854775000):Ret Tryz.prog 214 #[ptr b2,ptr b3] w fun v w'=>v = .bool (Fs N es fl)∧Ext [] w w':=by
 obtain ⟨w0,rfl⟩:∃ w0,w0=w:=⟨_,rfl⟩;have H:=Ctx.start w0 [];refine Au (fn:=Tryz.f214) Tryz.func214 U [.pointer (some ⟨b2,0,none⟩),.pointer (some ⟨b3,0,none⟩)] U (by kernel_rfl) ?_;refine Ad (Ai U U (Ab (Aa (Ad (Cn _ U CV C7 U U (Ih K.h2) ?_)))));refine Ah U Fm U (Bd U BL U ((by rw [Aj K.h3]; rfl)) ?_);refine Al U Aem (Ya N a b es.length c fl.length d es fl _ K.R U hN K.Rf U hf) U ?_;rintro v w ⟨rfl,hx3⟩;replace H:=H.call hx3;refine Ai U U (Ab (Aa (A5 (AA (v:=(.bool _)) U U U ?_))));exact ⟨rfl,H.ext⟩
theorem Aai (K:ChkK b2 b3 N a b p c d r es fl pot w) (hq:pot.length≤9223372036854775000):Ret Tryz.prog 216 #[ptr b2,ptr b3] w fun v w'=>v = .bool (FQ N pot)∧Ext [] w w':=by
 obtain ⟨w0,rfl⟩:∃ w0,w0=w:=⟨_,rfl⟩;have H:=Ctx.start w0 [];refine Au (fn:=Tryz.f216) Tryz.func216 U [.pointer (some ⟨b2,0,none⟩),.pointer (some ⟨b3,0,none⟩)] U (by kernel_rfl) ?_;refine Ad (Ai U U (Ab (Aa (Ad (Cn _ U CV C7 U U (Ih K.h2) ?_)))));refine Ah U Gg U (Bd U BL U ((by rw [Aj K.h3]; rfl)) ?_);refine Al U Aeo (Aaf N a p es.length c pot.length r pot _ K.Rp U hq) U ?_;rintro v w ⟨rfl,hx3⟩;replace H:=H.call hx3;refine Ai U U (Ab (Aa (A5 (AA (v:=(.bool _)) U U U ?_))));exact ⟨rfl,H.ext⟩
theorem Aaj (K:ChkK b2 b3 N a b p c d r es fl pot w) (hN:I64 N) (hr:Cp N es=true) (hw:Cb N es fl=true) (hp:FQ N pot=true):Ret Tryz.prog 218 #[ptr b2,ptr b3] w fun v w'=>v = .bool (Jv N es fl pot)∧Ext [] w w':=by
 obtain ⟨w0,rfl⟩:∃ w0,w0=w:=⟨_,rfl⟩;have H:=Ctx.start w0 [];refine Au (fn:=Tryz.f218) Tryz.func218 U [.pointer (some ⟨b2,0,none⟩),.pointer (some ⟨b3,0,none⟩)] U (by kernel_rfl) ?_;refine Ad (Ai U U (Ab (Aa (Ad (Cn _ U CV C7 U U (Ih K.h2) ?_)))));refine Cn _ U Ra Mf U U (Ih K.h3) ?_;refine Al U Aeq (Yc N a b p es.length c fl.length d pot.length r es fl pot _ K.R U hN K.Rf U K.Rp U hr hw hp) U ?_;rintro v w ⟨rfl,hx3⟩;replace H:=H.call hx3;refine Ai U U (Ab (Aa (A5 (AA (v:=(.bool _)) U U U ?_))));exact ⟨rfl,H.ext⟩
end
def askN (N:Int) (es:List Ed) (fl pot:List Int):Nat→Bool
 | 0=>Cp N es
 | 1=>Fs N es fl
 | 2=>FQ N pot
 | _=>Jv N es fl pot
theorem Aak {N:Int} {es:List Ed} {fl pot:List Int} (h:∀ k,k<4→askN N es fl pot k=true):Fc N es fl pot=true:=by
 have h0:=h 0 (by omega);have h1:=h 1 (by omega);have h2:=h 2 (by omega);have h3:=h 3 (by omega);unfold Fc;rw [show Cp N es=true from h0,show Fs N es fl=true from h1,show FQ N pot=true from h2,show Jv N es fl pot=true from h3]; rfl
theorem Aal {N:Int} {es:List Ed} {fl pot:List Int} {k:Nat} (hk:k<4) (h:askN N es fl pot k=false):Fc N es fl pot=false:=by
 have:k=0∨k=1∨k=2∨k=3:=by omega
 unfold Fc
 rcases this with rfl | rfl | rfl | rfl
 ·rw [show Cp N es=false from h]; simp
 ·rw [show Fs N es fl=false from h]; simp
 ·rw [show FQ N pot=false from h]; simp
 ·rw [show Jv N es fl pot=false from h]; simp

set_option maxRecDepth 20000 in
set_option maxHeartbeats 2000000 in
theorem Ro (N:Int) (a b p:Option Addr) (n c m d q r:Nat) (es:List Ed) (fl pot:List Int) (w:World) (R:Rd w a 4 C4 es) (hn:es.length=n) (hN:I64 N) (Rf:Rd w b 1 I1 fl) (hm:fl.length=m) (hm2:m≤9223372036854775000) (Rp:Rd w p 1 I1 pot) (hq:pot.length=q) (hq2:q≤9223372036854775000) :
  Ret Tryz.prog 182 #[DG N a n c,Rn b p m d q r] w fun v w'=>v = .bool (Fc N es fl pot)∧Ext [] w w':=by
 subst hn hm hq;obtain ⟨w0,rfl⟩:∃ w0,w0=w:=⟨_,rfl⟩;have H:=Ctx.start w0 [];refine Au (fn:=Tryz.f182) Tryz.func182 U [DG N a es.length c,Rn b p fl.length d pot.length r] U (by kernel_rfl) ?_;refine Ad (Bu U [.int .i64 N,.slice a es.length c] (.agg _) U U H ?_);rintro b2 w - H;refine Bu U [.slice b fl.length d,.slice p pot.length r] (.agg _) U U H ?_;rintro b3 w - H;refine Ai U U (Ab (Aa (Aw (Ad (BZ U [.pointer _] U (BZ U [.pointer _,.pointer _] U (BZ U [.pointer _,.pointer _] U (BZ U [.pointer _,.pointer _] U (D4 [.func (.func 213) #[] #[ptr b2],.func (.func 214) #[] #[ptr b2,ptr b3],.func (.func 216) #[] #[ptr b2,ptr b3],.func (.func 218) #[] #[ptr b2,ptr b3]] U Tv Acl zc_23 (by decide) (by decide) (by kernel_rfl) H ?_)))))))));rintro b11 w - H
 refine Bf U Tv U (Af U U (Ab (Aa (Az (Bv 2089040 (α:=Nat) (fun i=>[(13,.int .i64 (i:Int))]) (fun i w'=>i≤4∧Ctx w0 [] w' [(b11,Bl 23 [.func (.func 213) #[] #[ptr b2],.func (.func 214) #[] #[ptr b2,ptr b3],.func (.func 216) #[] #[ptr b2,ptr b3],.func (.func 218) #[] #[ptr b2,ptr b3]]),(b3,Bl 53 [.slice b fl.length d,.slice p pot.length r]),(b2,Bl 51 [.int .i64 N,.slice a es.length c])]∧∀ k,k<i→askN N es fl pot k=true) (fun i=>4 - i) 0 U ?_ ?_ ?_)))))
 ·exact ⟨rfl,trivial⟩
 ·exact ⟨Nat.zero_le _,H,fun k h=>absurd h (Nat.not_lt_zero _)⟩
 ·rintro i j w ⟨hi,H,hb⟩;refine Ad (Bj U U U (Ab (Aa (Aw (Aq _ U ?_ ?_)))))
  ·intro h2;replace h2:=AM h2;have KK:ChkK b2 b3 N a b p c d r es fl pot w:=⟨H.get at2,H.get at1,R.ext0 H.ext,Rf.ext0 H.ext,Rp.ext0 H.ext⟩
   obtain ⟨f,ca,hfi,hcf,hret⟩:∃ f ca,[Value.func (.func 213) #[] #[ptr b2],.func (.func 214) #[] #[ptr b2,ptr b3],.func (.func 216) #[] #[ptr b2,ptr b3],.func (.func 218) #[] #[ptr b2,ptr b3]][i]? = some (.func (.func f) #[] ca)∧Ap Tryz.prog f=true∧Ret Tryz.prog f ca w (fun v w'=>v = .bool (askN N es fl pot i)∧Ext [] w w'):=by
    have:i=0∨i=1∨i=2∨i=3:=by omega
    rcases this with rfl | rfl | rfl | rfl
    ·exact ⟨_,_,rfl,Aek,Aag KK hN⟩
    ·exact ⟨_,_,rfl,Ael,Aah KK hN hm2⟩
    ·exact ⟨_,_,rfl,Aen,Aai KK hq2⟩
    ·exact ⟨_,_,rfl,Aep,Aaj KK hN (hb 0 (by omega)) (E4 (hb 1 (by omega))).1 (hb 2 (by omega))⟩
   refine Av (Aa (Aw (Az (Ad (Bh U Tv Acl U U (by omega) (by omega) ?_)))));refine Bd U Acb U ((by rw [Aj (H.get at0)]; simpa using hfi)) ?_;refine CK U (.func _ _ _) U ?_;refine Ab (Aa (Ad (De U (.func _ _ _) U ?_)));refine F8 (l:=ca.toList) U U hcf (by simpa using hret) (by simp) ?_;rintro v w ⟨rfl,hx18⟩;replace H:=H.call hx18;refine BG U U (Ab (Aa (Aq _ U ?_ ?_)))
   ·intro h3;replace h3:=BD h3;refine Ad (Ai U U (Ab (Aa (A5 (A9 (Ao (Ao (A9 (Ao (AA (v:=(.bool _)) U U U ?_))))))))));exact ⟨congrArg Value.bool (by rw [Aal (k:=i) (by omega) (by simpa using h3)]),H.ext⟩
   ·intro h3;replace h3:=BE h3;refine Av (A6 (Aa (A0 (Ay U U U (by omega) (by omega) ?_))));refine Af U U (Ab (Aa ?_));refine ⟨i+1,rfl,⟨rfl,trivial⟩,⟨by omega,H,fun k hk=>?_⟩,by omega⟩
    rcases Nat.lt_or_ge k i with h7 | h7
    ·exact hb k h7
    ·obtain rfl:k=i:=by omega
     simpa using h3
  ·intro h2;replace h2:=AN h2;refine Bt (Am (Am (AK (Aa (Ad (Ai U U (Ab (Aa (A5 (AA (v:=(.bool _)) U U U ?_))))))))));exact ⟨congrArg Value.bool (by rw [Aak fun k hk=>hb k (by omega)]),H.ext⟩

end Go.Proofs.YtdagmpmdcgedcaaGreat

/- Plain law of heaps: what swaps keep. -/
namespace Go.Proofs.YtdagmpmdcgedcaaGreat
open Go.GV

abbrev Tg:=Int × Nat
def lt7 (x y:Tg):Prop:=x.1<y.1∨(x.1=y.1∧x.2<y.2)
instance (x y:Tg):Decidable (lt7 x y):=by unfold lt7; infer_instance
def le7 (x y:Tg):Prop:=x.1<y.1∨(x.1=y.1∧x.2≤y.2)
theorem le7.trans {x y z:Tg} (h:le7 x y) (k:le7 y z):le7 x z:=by unfold le7 at *; omega
theorem lt7.le {x y:Tg} (h:lt7 x y):le7 x y:=by unfold lt7 at h; unfold le7; omega
theorem TC {x y:Tg} (h:¬ lt7 y x):le7 x y:=by unfold lt7 at h; unfold le7; omega
/-- Each stands behind none of the two below it. -/
def HeapL (L:List Tg):Prop:=∀ i x y,0<i→L[i]? = some x→L[(i - 1) / 2]? = some y→le7 y x
def UpI (L:List Tg) (k:Nat):Prop :=
 (∀ i x y,0<i→i≠k→L[i]? = some x→L[(i - 1) / 2]? = some y→le7 y x)∧∀ c x y,0<k→0<c→(c - 1) / 2=k→L[c]? = some x→L[(k - 1) / 2]? = some y→le7 y x
def DownI (L:List Tg) (k:Nat):Prop :=
 (∀ i x y,0<i→(i - 1) / 2≠k→L[i]? = some x→L[(i - 1) / 2]? = some y→le7 y x)∧∀ c x y,0<k→0<c→(c - 1) / 2=k→L[c]? = some x→L[(k - 1) / 2]? = some y→le7 y x
theorem Gx {L:List Tg} {k o:Nat} {x y:Tg} (hx:L[k]? = some x) (hy:L[o]? = some y) (i:Nat):((L.set k y).set o x)[i]? = if i=o then some x else if i=k then some y else L[i]? := by
 have h1:k<L.length:=(List.getElem?_eq_some_iff.1 hx).1;have h2:o<L.length:=(List.getElem?_eq_some_iff.1 hy).1
 by_cases e:i=o
 ·subst e; rw [if_pos rfl,List.getElem?_set_self (by rw [List.length_set]; exact h2)]
 ·rw [if_neg e,List.getElem?_set_ne (Ne.symm e)]
  by_cases e2:i=k
  ·subst e2; rw [if_pos rfl,List.getElem?_set_self h1]
  ·rw [if_neg e2,List.getElem?_set_ne (Ne.symm e2)]
theorem UpI.done {L:List Tg} {k:Nat} (h:UpI L k) (h0:∀ x y,0<k→L[k]? = some x→L[(k - 1) / 2]? = some y→le7 y x):HeapL L:=fun i x y hi hx hy=>by
 by_cases e:i=k
 ·subst e; exact h0 x y hi hx hy
 ·exact h.1 i x y hi e hx hy
theorem UpI.step {L:List Tg} {k:Nat} (h:UpI L k) {x y:Tg} (hk:0<k) (hx:L[k]? = some x) (hy:L[(k - 1) / 2]? = some y) (hlt:lt7 x y):UpI ((L.set k y).set ((k - 1) / 2) x) ((k - 1) / 2):=by
 obtain ⟨o,ho⟩:∃ o,o=(k - 1) / 2:=⟨_,rfl⟩;rw [← ho] at hy ⊢;have hko:k≠o:=by omega
 refine ⟨fun i a b hi hio ha hb=>?_,fun c a b h0 hc hco ha hb=>?_⟩
 ·rw [Gx hx hy,if_neg hio] at ha;rw [Gx hx hy] at hb
  by_cases e:i=k
  ·subst e;rw [if_pos rfl] at ha;rw [if_pos ho.symm] at hb;cases ha; cases hb;exact hlt.le
  ·rw [if_neg e] at ha
   by_cases p1:(i - 1) / 2=o
   ·rw [if_pos p1] at hb;cases hb;exact hlt.le.trans (h.1 i a y hi e ha (by rw [p1]; exact hy))
   ·rw [if_neg p1] at hb
    by_cases p2:(i - 1) / 2=k
    ·rw [if_pos p2] at hb;cases hb;exact h.2 i a _ hk hi p2 ha (by rw [← ho]; exact hy)
    ·rw [if_neg p2] at hb;exact h.1 i a b hi e ha hb
 ·rw [Gx hx hy,if_neg (by omega:c≠o)] at ha;rw [Gx hx hy,if_neg (by omega:(o - 1) / 2≠o),if_neg (by omega:(o - 1) / 2≠k)] at hb;have hz:=h.1 o y b h0 (Ne.symm hko) hy hb
  by_cases e:c=k
  ·rw [if_pos e] at ha;cases ha;exact hz
  ·rw [if_neg e] at ha;exact hz.trans (h.1 c a y hc e ha (by rw [hco]; exact hy))
theorem DownI.none {L:List Tg} {k:Nat} (h:DownI L k) (hn:L.length≤2*k+1):HeapL L:=fun i x y hi hx hy=>by
 have hil:i<L.length:=(List.getElem?_eq_some_iff.1 hx).1;exact h.1 i x y hi (by omega) hx hy
/-- The lesser one of the two below. -/
def TD (L:List Tg) (k o:Nat) (y:Tg):Prop:=(o=2*k+1∨o=2*k+2)∧L[o]? = some y∧∀ i z,(i - 1) / 2=k→0<i→L[i]? = some z→le7 y z
theorem DownI.done {L:List Tg} {k o:Nat} {x y:Tg} (h:DownI L k) (hx:L[k]? = some x) (hl:TD L k o y) (hn:¬ lt7 y x):HeapL L:=fun i a b hi ha hb=>by
 by_cases e:(i - 1) / 2=k
 ·rw [e,hx] at hb;cases hb;exact (TC hn).trans (hl.2.2 i a e hi ha)
 ·exact h.1 i a b hi e ha hb
theorem DownI.step {L:List Tg} {k o:Nat} {x y:Tg} (h:DownI L k) (hx:L[k]? = some x) (hl:TD L k o y) (hlt:lt7 y x):DownI ((L.set k y).set o x) o:=by
 obtain ⟨ho,hy,hmin⟩:=hl;have hko:k≠o:=by omega
 have hpo:(o - 1) / 2=k:=by omega
 refine ⟨fun i a b hi hio ha hb=>?_,fun c a b h0 hc hco ha hb=>?_⟩
 ·rw [Gx hx hy,if_neg hio] at hb;rw [Gx hx hy] at ha
  by_cases p:(i - 1) / 2=k
  ·rw [if_pos p] at hb;cases hb
   by_cases e:i=o
   ·rw [if_pos e] at ha;cases ha;exact hlt.le
   ·rw [if_neg e,if_neg (by omega:i≠k)] at ha;exact hmin i a p hi ha
  ·rw [if_neg p] at hb;rw [if_neg (by omega:i≠o)] at ha
   by_cases e:i=k
   ·rw [if_pos e] at ha;cases ha;subst e;exact h.2 o _ b hi (by omega) hpo hy hb
   ·rw [if_neg e] at ha;exact h.1 i a b hi p ha hb
 ·rw [Gx hx hy,if_neg (by omega:c≠o),if_neg (by omega:c≠k)] at ha;rw [Gx hx hy,hpo,if_neg hko,if_pos rfl] at hb;cases hb;exact h.1 c a _ hc (by omega) ha (by rw [hco]; exact hy)
theorem HeapL.root {L:List Tg} (h:HeapL L) {r:Tg} (hr:L[0]? = some r):∀ (i:Nat) (x:Tg),L[i]? = some x→le7 r x:=fun i=>by
 induction i using Nat.strongRecOn with
 | _ i ih =>
  intro x hx
  by_cases e:i=0
  ·subst e;rw [hr] at hx;cases hx;exact .inr ⟨rfl,Nat.le_refl _⟩
  ·have hil:i<L.length:=(List.getElem?_eq_some_iff.1 hx).1;obtain ⟨y,hy⟩:∃ y,L[(i - 1) / 2]? = some y:=⟨_,List.getElem?_eq_getElem (by omega)⟩;exact (ih _ (by omega) y hy).trans (h i x y (by omega) hx hy)
theorem HeapL.snoc {L:List Tg} (h:HeapL L) (z:Tg):UpI (L++[z]) L.length:=by
 have hg:∀ (i:Nat) (x:Tg),i≠L.length→(L++[z])[i]? = some x→L[i]? = some x:=fun i x hi hx=>by
  have hil:i<(L++[z]).length:=(List.getElem?_eq_some_iff.1 hx).1;rw [List.length_append,List.length_singleton] at hil
  rwa [List.getElem?_append_left (by omega)] at hx
 refine ⟨fun i x y hi hn hx hy=>?_,fun c x y h0 hc hco hx hy=>?_⟩
 ·have h1:=hg i x hn hx;have hil:i<L.length:=(List.getElem?_eq_some_iff.1 h1).1;exact h i x y hi h1 (hg _ y (by omega) hy)
 ·have hil:c<(L++[z]).length:=(List.getElem?_eq_some_iff.1 hx).1;rw [List.length_append,List.length_singleton] at hil;omega
theorem HeapL.cut {x z:Tg} {L:List Tg} (h:HeapL (x::L)):DownI (((x::L).set 0 z).take L.length) 0:=by
 have hg:∀ (i:Nat) (a:Tg),0<i→(((x::L).set 0 z).take L.length)[i]? = some a→(x::L)[i]? = some a:=fun i a hi ha=>by
  rw [List.getElem?_take] at ha
  split at ha
  ·rwa [List.getElem?_set_ne (by omega)] at ha
  ·cases ha
 exact ⟨fun i a b hi hn ha hb=>h i a b hi (hg i a hi ha) (hg _ b (by omega) hb),fun c a b h0=>absurd h0 (Nat.lt_irrefl 0)⟩

end Go.Proofs.YtdagmpmdcgedcaaGreat

/- Heaps of things: nothing but which things there are: the walks. -/
namespace Go.Proofs.YtdagmpmdcgedcaaGreat
open Go.GV
attribute [local irreducible] AB W Wq Wt

/-! ### Rows of a block -/
theorem E5 {α:Type} {enc:α→List Value} {s:Nat}:∀ {L:List α},(∀ x∈L,(enc x).length=s)→(L.flatMap enc).length=L.length*s
 | [],_=>by simp
 | x::L,h=>by
  rw [List.flatMap_cons,List.length_append,h x (List.mem_cons_self ..),E5 fun y hy=>h y (List.mem_cons_of_mem _ hy),List.length_cons,Nat.add_mul,Nat.one_mul,Nat.add_comm]
theorem ON {α:Type} {L:List α} {i:Nat} {x:α} (hx:L[i]? = some x) (y:α):L=L.take i++x::L.drop (i+1)∧L.set i y=L.take i++y::L.drop (i+1):=by
 have hi:=Cu hx;have hg:L[i]=x:=by rw [List.getElem?_eq_getElem hi] at hx; exact Option.some.inj hx
 refine ⟨?_,?_⟩
 ·rw [← hg,← List.drop_eq_getElem_cons hi,List.take_append_drop]
 ·rw [List.set_eq_take_append_cons_drop,if_pos hi]
theorem Yd {α:Type} {enc:α→List Value} {s:Nat} {L:List α} (hs:∀ x∈L,(enc x).length=s) {i:Nat} {x y:α} (hx:L[i]? = some x) (hy:(enc y).length=s) (r:List Value):over (L.flatMap enc++r) (i*s) (enc y)=(L.set i y).flatMap enc++r:=by
 obtain ⟨h1,h2⟩:=ON hx y;have hi:=Cu hx;have hl:((L.take i).flatMap enc).length=i*s:=by rw [E5 fun z hz=>hs z (List.mem_of_mem_take hz),List.length_take,Nat.min_eq_left (by omega)]
 rw [h2]
 conv=>lhs; rw [h1]
 rw [List.flatMap_append,List.flatMap_append,List.flatMap_cons,List.flatMap_cons,List.append_assoc,List.append_assoc,← hl,WW _ _ _ _ (by rw [hs x (List.mem_of_getElem? hx),hy])];simp only [List.append_assoc]
theorem Aam {α:Type} {enc:α→List Value} {s:Nat} {L:List α} (hs:∀ x∈L,(enc x).length=s) {i j:Nat} {x y:α} {v:Value} (hx:L[i]? = some x) (hj:j<s) (hy:enc y=(enc x).set j v) (r:List Value):(L.flatMap enc++r).set (i*s+j) v=(L.set i y).flatMap enc++r:=by
 obtain ⟨h1,h2⟩:=ON hx y;have hi:=Cu hx;have hl:((L.take i).flatMap enc).length=i*s:=by rw [E5 fun z hz=>hs z (List.mem_of_mem_take hz),List.length_take,Nat.min_eq_left (by omega)]
 have hxl:=hs x (List.mem_of_getElem? hx);rw [h2]
 conv=>lhs; rw [h1]
 rw [List.flatMap_append,List.flatMap_append,List.flatMap_cons,List.flatMap_cons,List.append_assoc,List.append_assoc,← hl,List.set_append_right _ _ (by omega),Nat.add_sub_cancel_left,List.append_assoc,List.append_assoc,List.set_append_left _ _ (by omega),hy]
theorem OS.over {α:Type} {a:Option Addr} {n c s:Nat} {full:List Value} {enc:α→List Value} {L:List α} (O:OS a n c s full (L.flatMap enc)) (hs:∀ x,(enc x).length=s) {i:Nat} {x:α} (hx:L[i]? = some x) (y:α):OS a n c s (over full (i*s) (enc y)) ((L.set i y).flatMap enc):=by
 refine ⟨O.zero,O.none',by rw [Dy]; exact O.len,O.le,?_⟩;rw [O.split,Yd (fun z _=>hs z) hx (hs y)];have h1:=O.llen;rw [E5 fun z _=>hs z] at h1;exact List.take_left' (by rw [E5 fun z _=>hs z,List.length_set,h1])
theorem LJ {α:Type} {L:List α} {i j:Nat} {x y:α} (hx:L[i]? = some x) (hy:L[j]? = some y):((L.set i y).set j x).Perm L:=by
 obtain ⟨hi,rfl⟩:=List.getElem?_eq_some_iff.1 hx;obtain ⟨hj,rfl⟩:=List.getElem?_eq_some_iff.1 hy;exact List.set_set_perm hi hj

/-! ### Things -/
def E6 (x:Int × Nat):List Value:=[.int .i64 x.1,.int .i64 (x.2:Int)]
theorem Ii (x:Int × Nat):∀ v∈E6 x,Be v=true:=fun v hv=>by
 simp only [E6,List.mem_cons,List.not_mem_nil,or_false] at hv
 rcases hv with rfl | rfl <;> rfl
theorem NC (x y:Int × Nat) (w:World):Ret Tryz.prog 286 #[.agg (E6 x).toArray,.agg (E6 y).toArray] w fun v w'=>v = .bool (decide (lt7 x y))∧Ext [] w w':=by
 obtain ⟨w0,rfl⟩:∃ w0,w0=w:=⟨_,rfl⟩;have H:=Ctx.start w0 [];refine Au (fn:=Tryz.f286) Tryz.func286 U [.agg (E6 x).toArray,.agg (E6 y).toArray] U (by kernel_rfl) ?_;refine Ad (Bu U (E6 x) (.agg _) U U H ?_);rintro b2 w - H;refine Bu U (E6 y) (.agg _) U U H ?_;rintro b3 w - H;refine Ai U U (Ab (Aa (Ad (Ah U Jo U (AE U Bw U H at1 U (Ah U Jo U (AE U Bw U H at0 U (Bj U U U (A7 U U (AV 10 U ?_ ?_))))))))))
 ·intro h1;replace h1:=AM h1;refine Ag U (Ag U (Ag U (Ag U (Ag U (Ag U (Ag U (Ag U (Ag U (Ag U ?_)))))))));refine Ag U (Ag U (AG U U (.bool _) U (Ai U U (Ab (Aa (A5 (AA (v:=(.bool _)) U U U ?_)))))));exact ⟨congrArg Value.bool (by unfold lt7; rw [Bool.eq_iff_iff]; simp_all; try omega),H.ext⟩
 ·intro h2;replace h2:=AN h2;refine Ah U Jo U (AE U Bw U H at1 U (Ah U Jo U (AE U Bw U H at0 U (Cz U U U (A7 U U (AV 16 U ?_ ?_))))))
  ·intro h3;replace h3:=AM h3;refine Ah U N1 U (AE U BS U H at1 U (Ah U N1 U (AE U BS U H at0 U (Bj U U U (AG U U (.bool _) U (AJ U U (.bool _) U (Ai U U (Ab (Aa (A5 (AA (v:=(.bool _)) U U U ?_)))))))))));exact ⟨congrArg Value.bool (by unfold lt7; rw [Bool.eq_iff_iff]; simp_all; try omega),H.ext⟩
  ·intro h4;replace h4:=AN h4;refine Ag U (Ag U (Ag U (Ag U (Ag U (AJ U U (.bool _) U (AJ U U (.bool _) U (Ai U U (Ab (Aa (A5 (AA (v:=(.bool _)) U U U ?_)))))))))));exact ⟨congrArg Value.bool (by unfold lt7; rw [Bool.eq_iff_iff]; simp_all; try omega),H.ext⟩
theorem adr0 (q:Nat):(adr (some ⟨q,0,none⟩)).off=0:=rfl
/-- The blocks of a heap. -/
abbrev HB (bh:Nat) (a:Option Addr) (n c:Nat) (full:List Value):List (Nat × Obj):=(bh,Bl 318 [.slice a n c])::ent a 321 full

set_option maxRecDepth 20000 in
set_option maxHeartbeats 4000000 in
theorem up_ok {w:World} {bh q n c:Nat} {full:List Value} {L:List (Int × Nat)} (H0:Ctx w [bh,q] w (HB bh (some ⟨q,0,none⟩) n c full)) (O:OS (some ⟨q,0,none⟩) n c 2 full (L.flatMap E6)) (k:Nat) (hk:k<n) (hn:n≤1000000000) (hU:UpI L k) :
  Ret Tryz.prog 285 #[ptr bh,.int .i64 (k:Int)] w fun v w'=>v = .tuple #[]∧∃ (L':List (Int × Nat)) (full':List Value),L'.Perm L∧HeapL L'∧OS (some ⟨q,0,none⟩) n c 2 full' (L'.flatMap E6)∧Ctx w [bh,q] w' (HB bh (some ⟨q,0,none⟩) n c full'):=by
 obtain ⟨w0,rfl⟩:∃ w0,w0=w:=⟨_,rfl⟩;have H:=H0;refine Au (fn:=Tryz.f285) Tryz.func285 U [.pointer (some ⟨bh,0,none⟩),.int .i64 (k:Int)] U (by kernel_rfl) ?_;refine P8 (Aw (P7 (Aa (Az (Bv 9007199254740978 (α:=Nat × List (Int × Nat) × List Value) (fun s=>[(1,.int .i64 (s.1:Int))]) (fun s w'=>s.1<n∧s.2.1.Perm L∧UpI s.2.1 s.1∧OS (some ⟨q,0,none⟩) n c 2 s.2.2 (s.2.1.flatMap E6)∧Ctx w0 [bh,q] w' (HB bh (some ⟨q,0,none⟩) n c s.2.2)) (fun s=>s.1) (k,L,full) U ?_ ?_ ?_)))))
 ·exact ⟨rfl,trivial⟩
 ·exact ⟨hk,.refl _,hU,O,H⟩
 ·rintro ⟨k,L',f'⟩ j w ⟨hk,hp,hU,O,H⟩; dsimp only at hk hp hU O H; dsimp only;have hnum:n=L'.length:=O.numN (fun _ _=>rfl) (by decide);refine Aw (Ad (Af U U (Dn U U U (Ab (Aa (Aq _ U ?_ ?_))))))
  ·intro h1;replace h1:=AM h1;obtain ⟨o,ho⟩:∃ o,o=(k - 1) / 2:=⟨_,rfl⟩;obtain ⟨x,hxk⟩:=AD (l:=L') (i:=k) (by omega);obtain ⟨y,hyo⟩:=AD (l:=L') (i:=o) (by omega);have Rk:=O.rd (w:=w.drew) (t:=321) (fun y hy=>H.drew.blk y (List.mem_cons_of_mem _ hy)) (fun _ _=>rfl) (by decide);refine Av (Aa (Az (Ad (Af U U (Bp U U U (by omega) (by omega) ?_)))));refine Jg U U U (by omega) (by omega) (show _≤(9223372036854775807:Int) by omega) ?_;rw [show ((k:Int) - 1) / 2=(o:Int) by omega];refine Ae U U (Ab (Aa (Aw (DM 14 Bq (by kernel_rfl) U U ?_))));refine B4 U U (AX U U (A2 U Cx U (BU U Dz U (by rintro _ rfl; exact H.drew) at0 U ?_)));refine AU U U (BM Rk U Dp CB U U (by omega) (by omega) (by omega) ?_);refine FT _ U GW CB U U (by rintro _ rfl; exact (Rk.row hxk rfl)) ?_;refine B4 U U (AX U U (A2 U Cx U (BU U Dz U (by rintro _ rfl; exact H.drew) at0 U ?_)))
   refine AU U U (BM Rk U Dp CB U U (by omega) (by omega) (by omega) ?_);refine FT _ U GW CB U U (by rintro _ rfl; exact (Rk.row hyo rfl)) ?_;refine BK ?_;replace H:=H.drew;refine Al U Tu (NC x y _) U ?_;rintro v w ⟨rfl,hx24⟩;replace H:=H.call hx24;refine BG U U (Ab (Aa (Aq _ U ?_ ?_)))
   ·intro h2;replace h2:=BD h2;refine Bt (Am (ER U (Am (AK (KA (CG U U ?_))))));have hnl:¬ lt7 x y:=by simpa using h2
    exact ⟨rfl,L',f',hp,hU.done fun a b _ ha hb=>by
     rw [hxk] at ha;rw [← ho,hyo] at hb;cases ha; cases hb
     exact TC hnl,O,H⟩
   ·intro h2;replace h2:=BE h2;obtain ⟨w7,rfl⟩:∃ z,z=w:=⟨_,rfl⟩;have R7:=O.rd (w:=w7.drew) (t:=321) (fun y hy=>H.drew.blk y (List.mem_cons_of_mem _ hy)) (fun _ _=>rfl) (by decide);have hol:=O.len;have hole:=O.le;refine Av (Aa (Cv [([0,1,2,3,4,5,6,7,8,9,10,11,12,13,14,15,16,17,18,19,20,21,22,23,24],25),([26],27)] (fun z=>z=World.drew w7) [25,27] Bq (by kernel_rfl) (rfl) ?_));refine AH U U ?_;refine BQ U U (Bg U U (An U Cx U (JW U Dz U (by rintro _ rfl; exact H.drew) at0 U ?_)));refine Bc U U (BQ U U (Bg U U (An U Cx U (JW U Dz U (by rintro _ rfl; exact H.drew) at0 U ?_))));refine Bc U U (BQ U U (Bg U U (An U Cx U (JW U Dz U (by rintro _ rfl; exact H.drew) at0 U ?_))));refine Bc U U (DK R7 U Dp CB U U (by omega) (by omega) (by omega) ?_);refine IW _ U GW CB U U (fun _ hx=>(by subst hx; exact R7.row hyo rfl)) ?_
    refine BQ U U (Bg U U (An U Cx U (JW U Dz U (by rintro _ rfl; exact H.drew) at0 U ?_)));refine Bc U U (DK R7 U Dp CB U U (by omega) (by omega) (by omega) ?_);refine IW _ U GW CB U U (fun _ hx=>(by subst hx; exact R7.row hxk rfl)) ?_;refine DK R7 U Dp CB U U (by omega) (by omega) (by omega) ?_;refine AS ?_;replace H:=H.drew;refine GC (vs:=E6 y) U CB U U U (Ii y) H at1 (by show 0+(k:Int).toNat*2+2≤_; omega) ?_;rintro w H;refine Ab (B3 U (AH U U ?_));refine DK R7 U Dp CB U U (by omega) (by omega) (by omega) ?_;refine AS (GC (vs:=E6 x) U CB U U U (Ii x) H at1 (by rw [Dy]; show 0+(o:Int).toNat*2+2≤_; omega) ?_);rintro w H;refine Ab (B3 U (BJ (A0 (Af U U (Ae U U (Ab (A6 (Aa ?_))))))));have hne:k≠o:=by omega
    refine ⟨(o,(L'.set k y).set o x,over (over f' (k*2) (E6 y)) (o*2) (E6 x)),rfl,⟨rfl,trivial⟩,⟨by dsimp only; omega,(LJ hxk hyo).trans hp,by dsimp only; rw [ho]; exact hU.step (by omega) hxk (by rw [← ho]; exact hyo) (by simpa using h2),OS.over (OS.over O (fun _=>rfl) hxk y) (fun _=>rfl) (by rw [List.getElem?_set_ne hne]; exact hyo) x,?_⟩,by dsimp only; omega⟩;simp only [adr0,Int.toNat_natCast,Nat.zero_add] at H;exact H
  ·intro h1;replace h1:=AN h1;refine Bt (Am (Am (AK (KA (CG U U ?_)))));exact ⟨rfl,L',f',hp,hU.done fun a b h0=>absurd h0 (by omega),O,H⟩

set_option maxRecDepth 20000 in
set_option maxHeartbeats 4000000 in
theorem Aan {w:World} {bh q n c:Nat} {full:List Value} {L:List (Int × Nat)} (H0:Ctx w [bh,q] w (HB bh (some ⟨q,0,none⟩) n c full)) (O:OS (some ⟨q,0,none⟩) n c 2 full (L.flatMap E6)) (hn:n≤1000000000) (hD:DownI L 0) :
  Ret Tryz.prog 281 #[ptr bh,.int .i64 0] w fun v w'=>v = .tuple #[]∧∃ (L':List (Int × Nat)) (full':List Value),L'.Perm L∧HeapL L'∧OS (some ⟨q,0,none⟩) n c 2 full' (L'.flatMap E6)∧Ctx w [bh,q] w' (HB bh (some ⟨q,0,none⟩) n c full'):=by
 obtain ⟨w0,rfl⟩:∃ w0,w0=w:=⟨_,rfl⟩;have H:=H0;refine Au (fn:=Tryz.f281) Tryz.func281 U [.pointer (some ⟨bh,0,none⟩),.int .i64 0] U (by kernel_rfl) ?_;refine P8 (Aw (P7 (Aa (Az (Bv 77371252455336267181195250 (α:=Nat × List (Int × Nat) × List Value) (fun s=>[(1,.int .i64 (s.1:Int))]) (fun s w'=>s.1≤n∧s.2.1.Perm L∧DownI s.2.1 s.1∧OS (some ⟨q,0,none⟩) n c 2 s.2.2 (s.2.1.flatMap E6)∧Ctx w0 [bh,q] w' (HB bh (some ⟨q,0,none⟩) n c s.2.2)) (fun s=>n - s.1) (0,L,full) U ?_ ?_ ?_)))))
 ·exact ⟨rfl,trivial⟩
 ·exact ⟨Nat.zero_le _,.refl _,hD,O,H⟩
 ·rintro ⟨k,L',f'⟩ j w ⟨hk,hp,hD,O,H⟩; dsimp only at hk hp hD O H; dsimp only;have hnum:n=L'.length:=O.numN (fun _ _=>rfl) (by decide);have hol:=O.len;have hole:=O.le;obtain ⟨m,hm⟩:∃ m,m=2*k+1:=⟨_,rfl⟩;refine Az (Ad (Af U U (D8 U U U (by omega) (by omega) ?_)));refine Ay U U U (by omega) (by omega) ?_;rw [show (2*(k:Int)+1)=(m:Int) by omega];refine Ae U U (Ab (Aa (Aw (Ad (Af U U (A3 U U (A8 U U (Ah U Cx U (AE U Dz U H at0 U (Bf U Dp U ?_))))))))));refine C3 U U U (Ab (Aa (Aq _ U ?_ ?_)))
  ·intro h1;replace h1:=AM h1;refine Bt (Am (ER U (Am (AK (KA (CG U U ?_))))));exact ⟨rfl,L',f',hp,hD.none (by omega),O,H⟩
  ·intro h1;replace h1:=AN h1;obtain ⟨x,hxm⟩:=AD (l:=L') (i:=m) (by omega);refine Av (Aa (Aw (DE 2199023222784 (α:=Bool) (fun z=>[(40,.bool z)]) (fun z w'=>(z=true→∃ y,L'[m+1]? = some y∧lt7 y x)∧(z=false→∀ y,L'[m+1]? = some y→¬ lt7 y x)∧Ctx w0 [bh,q] w' (HB bh (some ⟨q,0,none⟩) n c f')) U ?_ ?_)))
   ·skip
    have Rk:=O.rd (w:=w.drew) (t:=321) (fun y hy=>H.drew.blk y (List.mem_cons_of_mem _ hy)) (fun _ _=>rfl) (by decide)
    obtain ⟨y,hy7⟩:∃ y,m+1<n→L'[m+1]? = some y:=by
     by_cases h:m+1<n
     ·obtain ⟨y,hy⟩:=AD (l:=L') (i:=m+1) (by omega);exact ⟨y,fun _=>hy⟩
     ·exact ⟨x,fun h'=>absurd h' h⟩
    refine Fq 24 Bq (by kernel_rfl) U U ?_;refine AU U U (Da U U U (by omega) (by omega) ?_);refine B4 U U (AX U U (A2 U Cx U (BU U Dz U (by rintro _ rfl; exact H.drew) at0 U ?_)));refine Aca U Dp U (JV U U U (CM U U (Dt 23 U ?_ ?_)))
    ·intro h2;replace h2:=AM h2;refine B4 U U (AX U U (A2 U Cx U (BU U Dz U (by rintro _ rfl; exact H.drew) at0 U ?_)));refine AU U U (Da U U U (by omega) (by omega) ?_);refine BM Rk U Dp CB U U (by omega) (by omega) (by omega) ?_;refine FT _ U GW CB U U (by rintro _ rfl; exact (Rk.row (hy7 (by omega)) rfl)) ?_;refine B4 U U (AX U U (A2 U Cx U (BU U Dz U (by rintro _ rfl; exact H.drew) at0 U ?_)));refine AU U U (BM Rk U Dp CB U U (by omega) (by omega) (by omega) ?_);refine FT _ U GW CB U U (by rintro _ rfl; exact (Rk.row hxm rfl)) ?_;refine BK ?_;replace H:=H.drew;refine Al U Tu (NC y x _) U ?_;rintro v w ⟨rfl,hx39⟩;replace H:=H.call hx39;refine AG U U (.bool _) U (Ab (Aa ?_))
     exact ⟨decide (lt7 y x),rfl,⟨rfl,trivial⟩,fun h=>⟨y,hy7 (by omega),of_decide_eq_true h⟩,fun h z hz=>by
      rw [hy7 (by omega)] at hz;cases hz
      exact of_decide_eq_false h,H⟩
    ·intro h2;replace h2:=AN h2;refine Ax U (Ax U (Ax U (Ax U (Ax U (Ax U (Ax U (Ax U (Ax U (Ax U ?_)))))))));refine Ax U (Ax U (Ax U (Ax U (Ax U (BK ?_)))));replace H:=H.drew;refine Ag U (AJ U U (.bool _) U (Ab (Aa ?_)));exact ⟨false,rfl,⟨rfl,trivial⟩,(fun h=>by cases h),(fun _ z hz=>by have:=Cu hz; omega),H⟩
   ·rintro z j2 w ⟨hzt,hzf,H⟩;refine Fl 6597069766672 (α:=Nat) (fun z=>[(4,.int .i64 (z:Int))]) (fun z w'=>(∃ y,TD L' k z y)∧Ctx w0 [bh,q] w' (HB bh (some ⟨q,0,none⟩) n c f')) U ?_ ?_
    ·skip
     refine Aq _ U ?_ ?_
     ·intro h2;obtain ⟨y,hy,hlt⟩:=hzt h2;have hz':=Cu hy;refine A0 (Af U U (Ay U U U (by omega) (by omega) ?_));refine Ae U U (Ab (Aa ?_));refine ⟨m+1,rfl,⟨rfl,trivial⟩,⟨y,.inr (by omega),hy,fun i a hi h0 ha=>?_⟩,H⟩;have:i=m∨i=m+1:=by omega
      rcases this with rfl | rfl
      ·rw [hxm] at ha; cases ha; exact hlt.le
      ·rw [hy] at ha; cases ha; exact .inr ⟨rfl,Nat.le_refl _⟩
     ·intro h2;refine Av (Aa ?_);refine ⟨m,rfl,⟨rfl,trivial⟩,⟨x,.inl (by omega),hxm,fun i a hi h0 ha=>?_⟩,H⟩;have:i=m∨i=m+1:=by omega
      rcases this with rfl | rfl
      ·rw [hxm] at ha; cases ha; exact .inr ⟨rfl,Nat.le_refl _⟩
      ·exact TC (hzf h2 a ha)
    ·rintro o j3 w ⟨⟨y,hl2⟩,H⟩;obtain ⟨x,hxk⟩:=AD (l:=L') (i:=k) (by omega);have hyo:=hl2.2.1;have hon:=Cu hyo;have hko:k<o:=by have:=hl2.1; omega
     have Rk:=O.rd (w:=w.drew) (t:=321) (fun y hy=>H.drew.blk y (List.mem_cons_of_mem _ hy)) (fun _ _=>rfl) (by decide);refine Aw (DM 14 Bq (by kernel_rfl) U U ?_);refine B4 U U (AX U U (A2 U Cx U (BU U Dz U (by rintro _ rfl; exact H.drew) at0 U ?_)));refine AU U U (BM Rk U Dp CB U U (by omega) (by omega) (by omega) ?_);refine FT _ U GW CB U U (by rintro _ rfl; exact (Rk.row hyo rfl)) ?_;refine B4 U U (AX U U (A2 U Cx U (BU U Dz U (by rintro _ rfl; exact H.drew) at0 U ?_)));refine AU U U (BM Rk U Dp CB U U (by omega) (by omega) (by omega) ?_);refine FT _ U GW CB U U (by rintro _ rfl; exact (Rk.row hxk rfl)) ?_;refine BK ?_;replace H:=H.drew;refine Al U Tu (NC y x _) U ?_;rintro v w ⟨rfl,hx57⟩;replace H:=H.call hx57;refine BG U U (Ab (Aa (Aq _ U ?_ ?_)))
     ·intro h2;replace h2:=BD h2;refine Bt (Am (ER U (Am (AK (KA (CG U U ?_))))));exact ⟨rfl,L',f',hp,hD.done hxk hl2 (by simpa using h2),O,H⟩
     ·intro h2;replace h2:=BE h2;obtain ⟨w7,rfl⟩:∃ z,z=w:=⟨_,rfl⟩;have R7:=O.rd (w:=w7.drew) (t:=321) (fun y hy=>H.drew.blk y (List.mem_cons_of_mem _ hy)) (fun _ _=>rfl) (by decide);refine Av (Aa (Cv [([0,1,2,3,4,5,6,7,8,9,10,11,12,13,14,15,16,17,18,19,20,21,22,23,24],25),([26],27)] (fun z=>z=World.drew w7) [25,27] Bq (by kernel_rfl) (rfl) ?_));refine AH U U ?_;refine BQ U U (Bg U U (An U Cx U (JW U Dz U (by rintro _ rfl; exact H.drew) at0 U ?_)));refine Bc U U (BQ U U (Bg U U (An U Cx U (JW U Dz U (by rintro _ rfl; exact H.drew) at0 U ?_))));refine Bc U U (BQ U U (Bg U U (An U Cx U (JW U Dz U (by rintro _ rfl; exact H.drew) at0 U ?_))));refine Bc U U (DK R7 U Dp CB U U (by omega) (by omega) (by omega) ?_);refine IW _ U GW CB U U (fun _ hx=>(by subst hx; exact R7.row hyo rfl)) ?_;refine BQ U U (Bg U U (An U Cx U (JW U Dz U (by rintro _ rfl; exact H.drew) at0 U ?_)))
      refine Bc U U (DK R7 U Dp CB U U (by omega) (by omega) (by omega) ?_);refine IW _ U GW CB U U (fun _ hx=>(by subst hx; exact R7.row hxk rfl)) ?_;refine DK R7 U Dp CB U U (by omega) (by omega) (by omega) ?_;refine AS ?_;replace H:=H.drew;refine GC (vs:=E6 y) U CB U U U (Ii y) H at1 (by show 0+(k:Int).toNat*2+2≤_; omega) ?_;rintro w H;refine Ab (B3 U (AH U U ?_));refine DK R7 U Dp CB U U (by omega) (by omega) (by omega) ?_;refine AS (GC (vs:=E6 x) U CB U U U (Ii x) H at1 (by rw [Dy]; show 0+(o:Int).toNat*2+2≤_; omega) ?_);rintro w H;refine Ab (B3 U (BJ (A0 (Af U U (Ae U U (Ab (A6 (Aa ?_))))))));have hne:k≠o:=by omega
      refine ⟨(o,(L'.set k y).set o x,over (over f' (k*2) (E6 y)) (o*2) (E6 x)),rfl,⟨rfl,trivial⟩,⟨by dsimp only; omega,(LJ hxk hyo).trans hp,hD.step hxk hl2 (by simpa using h2),OS.over (OS.over O (fun _=>rfl) hxk y) (fun _=>rfl) (by rw [List.getElem?_set_ne hne]; exact hyo) x,?_⟩,by dsimp only; omega⟩;simp only [adr0,Int.toNat_natCast,Nat.zero_add] at H;exact H

theorem Aao (w:World):Ret Tryz.prog 265 #[] w fun v w'=>∃ b,v=ptr b∧w.heap.size≤b∧w'.heap[b]? = some (Bl 318 [.slice none 0 0])∧Ext [] w w':=by
 obtain ⟨w0,rfl⟩:∃ w0,w0=w:=⟨_,rfl⟩;have H:=Ctx.start w0 [];refine Au (fn:=Tryz.f265) Tryz.func265 U [] U (by kernel_rfl) ?_;refine Ad (Co U U (Ab (Aa (Ad (B7 [.slice none 0 0] U Af2 Agf (by kernel_rfl) ?_)))));refine Bu U [.slice none 0 0] (.agg _) U U H ?_;rintro b2 w - H;refine Co U U (Ab (Aa (A5 (AA (v:=(.pointer _)) U U U ?_))));exact ⟨b2,rfl,(H.own _ (List.mem_cons_self ..)).elim (fun h=>by cases h) id,H.get at0,H.ext⟩
theorem Aap {w:World} {bh:Nat} {a:Option Addr} {n c:Nat} (hb:w.heap[bh]? = some (Bl 318 [.slice a n c])):Ret Tryz.prog 267 #[ptr bh] w fun v w'=>v = .int .i64 (n:Int)∧w=w':=by
 obtain ⟨w0,rfl⟩:∃ w0,w0=w:=⟨_,rfl⟩;refine Au (fn:=Tryz.f267) Tryz.func267 U [.pointer (some ⟨bh,0,none⟩)] U (by kernel_rfl) ?_;refine Ad (Ae U U (Ab (Aa (Aw (Ad (A3 U U (Cq U Tw U ?_)))))));refine Ab (Aa (Aq _ U ?_ ?_))
 ·intro h1;cases h1
 ·intro h1;refine Av (Aa (Ad (A3 U U (A8 U U (Ah U Cx U (Bd U Dz U ((by rw [Aj hb]; rfl)) ?_))))));refine Bf U Dp U (Ae U U (Ab (Aa (A5 (AA (v:=(.int _ _)) U U U ?_)))));exact ⟨rfl,rfl⟩
theorem Aaq {w:World} {bh:Nat} {a:Option Addr} {n c:Nat} {x:Int × Nat} {L:List (Int × Nat)} (hb:w.heap[bh]? = some (Bl 318 [.slice a n c])) (R:Rd w a 2 E6 (x::L)) (hn:n=L.length+1):Ret Tryz.prog 280 #[ptr bh] w fun v w'=>v = .tuple #[.int .i64 x.1,.int .i64 (x.2:Int),.int .i64 0]∧Ext [] w w':=by
 obtain ⟨w0,rfl⟩:∃ w0,w0=w:=⟨_,rfl⟩;have H:=Ctx.start w0 [];have hbd:w0.drew.heap[bh]? = some (Bl 318 [.slice a n c]):=hb;have Rd':=R.ext0 (Ext.drew [] w0);refine Au (fn:=Tryz.f280) Tryz.func280 U [.pointer (some ⟨bh,0,none⟩)] U (by kernel_rfl) ?_;refine Ad (Ae U U (Ae U U (Ae U U (Ab (Aa (Aw (Az (Ad (A3 U U (Cq U Tw U ?_))))))))));refine Ai U U (Ab (Aa (Aq _ U ?_ ?_)))
 ·intro h1;cases h1
 ·intro h1;refine Ad (A3 U U (A8 U U (Ah U Cx U (Bd U Dz U ((by rw [Aj hb]; rfl)) ?_))));refine Bf U Dp U (Cz U U U (Ai U U (Ab (Aa (Aq _ U ?_ ?_)))))
  ·intro h2;replace h2:=AM h2;omega
  ·intro h2;replace h2:=AN h2;refine Av (A6 (Aa (Dx (fun x=>x=_) Bq (by kernel_rfl) U ?_)));refine B4 U U (AX U U (A2 U Cx U (BP U Dz U (by rintro _ rfl; exact ((by rw [Aj hbd]; rfl))) ?_)));refine BM Rd' U Dp CB U U (by omega) (by omega) (by omega) ?_;refine A2 U Jo U (BP U Bw U (by rintro _ rfl; exact ((Rd'.fld (i:=0) rfl rfl (j:=0) rfl))) ?_);refine B4 U U (AX U U (A2 U Cx U (BP U Dz U (by rintro _ rfl; exact ((by rw [Aj hbd]; rfl))) ?_)));refine BM Rd' U Dp CB U U (by omega) (by omega) (by omega) ?_;refine A2 U N1 U (BP U BS U (by rintro _ rfl; exact ((Rd'.fld (i:=0) rfl rfl (j:=1) rfl))) ?_);refine Dm U U (Dm U U (Dm U U (BK ?_)));rintro _ rfl;replace H:=H.drew;refine A5 (Lz (v1:=(.int _ _)) (v2:=(.int _ _)) (v3:=(.int _ _)) U U U U U ?_);exact ⟨rfl,H.ext⟩

end Go.Proofs.YtdagmpmdcgedcaaGreat

/- Heaps: what is put and taken: the walks. -/
namespace Go.Proofs.YtdagmpmdcgedcaaGreat
open Go.GV
attribute [local irreducible] AB W Wq Wt

set_option maxRecDepth 20000 in
set_option maxHeartbeats 2000000 in
theorem UC {w:World} {bh n c:Nat} {a:Option Addr} {full:List Value} {L:List (Int × Nat)} (H0:Ctx w ((HB bh a n c full).map (·.1)) w (HB bh a n c full)) (O:OS a n c 2 full (L.flatMap E6)) (hn:n≤100000000) (hH:HeapL L) (key:Int) (item:Nat) :
  Ret Tryz.prog 279 #[ptr bh,.int .i64 key,.int .i64 (item:Int)] w fun v w'=>v = .int .i64 0∧∃ (a':Option Addr) (c':Nat) (full':List Value) (L':List (Int × Nat)),L'.Perm ((key,item)::L)∧HeapL L'∧OS a' (n+1) c' 2 full' (L'.flatMap E6)∧Ctx w ((HB bh a n c full).map (·.1)) w' (HB bh a' (n+1) c' full'):=by
 obtain ⟨w0,rfl⟩:∃ w0,w0=w:=⟨_,rfl⟩;have H:=H0;refine Au (fn:=Tryz.f279) Tryz.func279 U [.pointer (some ⟨bh,0,none⟩),.int .i64 key,.int .i64 (item:Int)] U (by kernel_rfl) ?_;refine Ad (Ae U U (Ab (Aa (Aw (Ad (A3 U U (Cq U Tw U ?_)))))));refine Ab (Aa (Aq _ U ?_ ?_))
 ·intro h1;cases h1
 ·intro h1;refine Av (Aa (Ad (A3 U U (A3 U U (A8 U U (Ah U Cx U (AE U Dz U H at0 U (Af U U (Af U U (B7 (E6 (key,item)) U Af3 Ty (by kernel_rfl) ?_))))))))));refine Ci (E6 (key,item)) (.agg _) U Dp CB Ty U (by decide) (by decide) U U U H ?_;rintro b17 w - H;refine CJ (L:=[(bh,_)]) U Dp Dp CB Adc Ty U (by decide) U U H O U (Ii _) (by omega) ?_;rintro a18 c18 f18 w H O18;have O8:OS a18 (n+1) c18 2 f18 ((L++[(key,item)]).flatMap E6):=by rw [List.flatMap_append]; simpa using O18
  refine A8 U U (Ah U Cx U (Cg (.slice _ _ _) U XI U U U H at0 (by (simp; done)) ?_));rintro w H;refine Ab (Aa (Ad (A3 U U (A3 U U (A8 U U (Ah U Cx U (AE U Dz U H at0 U (Bf U Dp U (Bp U U U (by omega) (by omega) ?_)))))))));rw [show (((n+1:Nat):Int) - 1)=(n:Int) by omega];obtain ⟨q,rfl⟩:=O8.form (by omega);refine Al U Afw (up_ok (Ctx.lend (L2:=[]) H.app_nil) O8 n (by omega) (by omega) (by have hnum:n=L.length:=O.numN (fun _ _=>rfl) (by decide); rw [hnum]; exact hH.snoc _)) U ?_;rintro v w ⟨rfl,L',f',hp,hH',O',H'⟩;replace H:=(Ctx.back (L2:=[]) H.app_nil H').nil_app;refine Ab (Aa (Ad (Ae U U (Ab (Aa (A5 (AA (v:=(.int _ _)) U U U ?_)))))));exact ⟨rfl,some ⟨q,0,none⟩,c18,f',L',hp.trans (List.perm_append_singleton _ _),hH',O',H⟩
theorem OS.short {α:Type} {a:Option Addr} {n c s:Nat} {full:List Value} {enc:α→List Value} {L:List α} (O:OS a n c s full (L.flatMap enc)) (hs:∀ x,(enc x).length=s) {m:Nat} (hm:m≤n):OS a m c s full ((L.take m).flatMap enc):=by
 refine ⟨O.zero,O.none',O.len,Nat.le_trans hm O.le,?_⟩;have h1:=O.pre;have h2:full.take (m*s)=(full.take (n*s)).take (m*s):=by rw [List.take_take,Nat.min_eq_left (Nat.mul_le_mul_right _ hm)]
 have hl:=O.llen;rw [E5 fun z _=>hs z] at hl;rw [h2,h1]
 conv=>lhs; rw [← List.take_append_drop m L,List.flatMap_append]
 by_cases h0:s=0
 ·subst h0;have hz:∀ M:List α,M.flatMap enc=[]:=fun M=>List.eq_nil_of_length_eq_zero (by rw [E5 fun z _=>hs z]; rfl);rw [hz,hz]; simp
 ·have hL:n=L.length:=Nat.eq_of_mul_eq_mul_right (by omega) hl.symm;exact List.take_left' (by rw [E5 fun z _=>hs z,List.length_take,Nat.min_eq_left (by omega)])
theorem Ye {α:Type} {x z:α} {L:List α} (hz:(x::L)[L.length]? = some z):(((x::L).set 0 z).take L.length).Perm L:=by
 rcases List.eq_nil_or_concat L with rfl | ⟨M,y,rfl⟩
 ·simp
 ·have:z=y:=by
   rw [List.concat_eq_append,List.length_append,List.length_singleton,List.getElem?_cons_succ,List.getElem?_append_right (Nat.le_refl _),Nat.sub_self] at hz
   simpa using hz.symm
  subst this;rw [List.concat_eq_append,List.set_cons_zero,List.length_append,List.length_singleton,List.take_succ_cons,List.take_left' rfl];exact (List.perm_append_singleton _ _).symm

set_option maxRecDepth 20000 in
set_option maxHeartbeats 2000000 in
theorem Agj {w:World} {bh q n c:Nat} {full:List Value} {x:Int × Nat} {L:List (Int × Nat)} (H0:Ctx w [bh,q] w (HB bh (some ⟨q,0,none⟩) n c full)) (O:OS (some ⟨q,0,none⟩) n c 2 full ((x::L).flatMap E6)) (hn:n≤100000000) (hH:HeapL (x::L)) :
  Ret Tryz.prog 268 #[ptr bh] w fun v w'=>v = .tuple #[.int .i64 x.1,.int .i64 (x.2:Int),.int .i64 0]∧∃ (full':List Value) (L':List (Int × Nat)),L'.Perm L∧HeapL L'∧OS (some ⟨q,0,none⟩) L.length c 2 full' (L'.flatMap E6)∧Ctx w [bh,q] w' (HB bh (some ⟨q,0,none⟩) L.length c full'):=by
 obtain ⟨w0,rfl⟩:∃ w0,w0=w:=⟨_,rfl⟩;have H:=H0;have hnum:n=L.length+1:=O.numN (fun _ _=>rfl) (by decide);subst hnum;have hol:=O.len;have hole:=O.le;refine Au (fn:=Tryz.f268) Tryz.func268 U [.pointer (some ⟨bh,0,none⟩)] U (by kernel_rfl) ?_;refine Ad (Ae U U (Ae U U (Ae U U (Ab (Aa (Ad (A3 U U (Al U Afs (Aaq (H.get at0) (O.rd (t:=321) (fun y hy=>H.blk y (List.mem_cons_of_mem _ hy)) (fun _ _=>rfl) (by decide)) U) U ?_))))))));rintro v w ⟨rfl,hx8⟩;replace H:=H.call hx8;refine C0 U U (AO U U U (AO U U U (AO U U U (Ae U U (Ae U U (Ae U U (Ab (Aa (Aw (Ad ?_))))))))));refine Af U U (Cz U U U (Ab (Aa (Aq _ U ?_ ?_))))
 ·intro h1;replace h1:=AM h1;obtain ⟨z,hz⟩:=AD (l:=x::L) (i:=L.length) (by simp);refine Ad (A3 U U (A8 U U (Ah U Cx U (AE U Dz U H at0 U (Bf U Dp U (Bp U U U (by omega) (by omega) ?_))))));rw [show (((L.length+1:Nat):Int) - 1)=(L.length:Int) by omega];refine Ae U U (Ab (Aa ?_));obtain ⟨w7,rfl⟩:∃ z,z=w:=⟨_,rfl⟩;have R7:=O.rd (w:=w7.drew) (t:=321) (fun y hy=>H.drew.blk y (List.mem_cons_of_mem _ hy)) (fun _ _=>rfl) (by decide);have O9:=OS.short (OS.over O (fun _=>rfl) (i:=0) (x:=x) rfl z) (fun _=>rfl) (m:=L.length) (by omega);refine Cv [([0,1,2,3,4,5,6,7,8,9,10,11],12)] (fun z=>z=World.drew w7) [12] Bq (by kernel_rfl) (rfl) ?_;refine AH U U ?_;refine BQ U U (Bg U U (An U Cx U (JW U Dz U (by rintro _ rfl; exact H.drew) at0 U ?_)));refine BQ U U (Bg U U (An U Cx U (JW U Dz U (by rintro _ rfl; exact H.drew) at0 U ?_)));refine Bc U U (DK R7 U Dp CB U U (by omega) (by omega) (by rfl) ?_)
  refine IW _ U GW CB U U (fun _ hx=>(by subst hx; exact R7.row hz rfl)) ?_;refine DK R7 U Dp CB U U (by omega) (by omega) (by rfl) ?_;refine AS ?_;replace H:=H.drew;refine GC (vs:=E6 z) U CB U U U (Ii z) H at1 (by show 0+(0:Int).toNat*2+2≤_; rw [hol]; omega) ?_;rintro w H;rw [adr0,show (0:Nat)+(0:Int).toNat*2=0*2 from rfl] at H;refine Ab (B3 U (BJ (Ad (A3 U U (A3 U U (A8 U U (Ah U Cx U (AE U Dz U H at0 U (Af U U (Jh U Dp CB U U (by omega) (by omega) ?_))))))))));refine A8 U U (Ah U Cx U (Cg (.slice _ _ _) U XI U U U H at0 (by (simp; done)) ?_));rintro w H;refine Ab (Aa (A0 (A3 U U (Al U Aft (Aan (Ctx.lend (L2:=[]) H.app_nil) O9 (by omega) hH.cut) U ?_))));rintro v w ⟨rfl,L',f',hp,hH',O',H'⟩;replace H:=(Ctx.back (L2:=[]) H.app_nil H').nil_app
  refine Ab (Aa (Ad (Af U U (Af U U (Af U U (Ae U U (Ae U U (Ae U U (Ab (Aa (A5 (Lz (v1:=(.int _ _)) (v2:=(.int _ _)) (v3:=(.int _ _)) U U U U U ?_))))))))))));exact ⟨rfl,f',L',hp.trans (Ye hz),hH',O',H⟩
 ·intro h1;replace h1:=AN h1;exact absurd U h1

end Go.Proofs.YtdagmpmdcgedcaaGreat

/- Arcs with room, one by one: the walk. -/
namespace Go.Proofs.YtdagmpmdcgedcaaGreat
open Go.GV
attribute [local irreducible] AB W Wq Wt

/-- A result in a cell, behind marks. -/
theorem Jw {P:Program} {e:Env} {w:World} {fn:Func} {R:Value→World→Prop} {a:Tmp} {t:TypeId} {p:Addr} (hr:fn.results=#[.cell a t]) (ha:e.g a = .pointer (some p)) (h:Marks e.ds w fun w'=>∃ v,(loadVar t p).run P w' = .ok v w'∧R v w'):QN P fn R .ret e w :=
 Marks.mono (fun w ⟨v,hv,h⟩ tmps ht=>by
  have h1:=(ht a).trans ha;rw [Array.getD_eq_getD_getElem?] at h1
  exact ⟨v,by simp [results,hr,h1,asAddr,hv],h⟩) h

def Gy (g:Gr) (p:Nat→Int) (k:Nat):List Value:=[.int .i64 (k:Int),.int .i64 (g.u k:Int),.int .i64 (g.v k:Int),.int .i64 (g.len p k)]
theorem ND (g:Gr) (p:Nat→Int) (k:Nat):∀ v∈Gy g p k,Be v=true:=fun v hv=>by
 simp only [Gy,List.mem_cons,List.not_mem_nil,or_false] at hv
 rcases hv with rfl | rfl | rfl | rfl <;> rfl
/-- The arcs of the first edges that have room. -/
def Em (cap x:Nat→Int) (k:Nat):List Nat:=(List.range (2*k)).filter fun a=>decide (0<C6 cap x a)
def Kb (g:Gr) (p:Nat→Int) (l:List Nat):List (List Value):=l.map fun a=>[.agg (Gy g p a).toArray]
theorem OP (cap x:Nat→Int) (k:Nat):Em cap x (k+1)=Em cap x k++((if 0<C6 cap x (2*k) then [2*k] else [])++if 0<C6 cap x (2*k+1) then [2*k+1] else []):=by
 unfold Em;rw [show 2*(k+1)=2*k+1+1 by omega,List.range_succ,List.range_succ,List.append_assoc,List.filter_append]
 congr 1
 rw [List.filter_append]
 congr 1
 ·by_cases h:0<C6 cap x (2*k)
  ·rw [if_pos h,List.filter_cons,decide_eq_true h]; rfl
  ·rw [if_neg h,List.filter_cons,decide_eq_false h]; rfl
 ·by_cases h:0<C6 cap x (2*k+1)
  ·rw [if_pos h,List.filter_cons,decide_eq_true h]; rfl
  ·rw [if_neg h,List.filter_cons,decide_eq_false h]; rfl
theorem Rr (cap x:Nat→Int):∀ {m k:Nat},k≤m→∃ r,Em cap x m=Em cap x k++r
 | 0,k,h=>⟨[],by rw [show k=0 by omega,List.append_nil]⟩
 | m+1,k,h=>by
  rcases Nat.lt_or_ge k (m+1) with h1 | h1
  ·obtain ⟨r,hr⟩:=Rr (m:=m) (k:=k) cap x (by omega);exact ⟨_,by rw [OP,hr,List.append_assoc]⟩
  ·exact ⟨[],by rw [show k=m+1 by omega,List.append_nil]⟩
theorem UD {g:Gr} {p cap x:Nat→Int} {m k:Nat} {l r:List Nat} {a:Nat} (hk:k<m) (h:Em cap x (k+1)=l++a::r):(Kb g p (Em cap x m))[l.length]? = some [.agg (Gy g p a).toArray]:=by
 obtain ⟨s,hs⟩:=Rr cap x (m:=m) (k:=k+1) (by omega);unfold Kb;rw [hs,h,List.getElem?_map,List.append_assoc,List.getElem?_append_right (Nat.le_refl _),Nat.sub_self];rfl
def E7 (pot:List Int) (i:Nat):Int:=pot.getD i 0
/-- All about an edge. -/
structure EAt (N:Int) (es:List Ed) (fl pot:List Int) (i:Nat) (e:Ed) (xx pu pv:Int) (un vn:Nat):Prop where
 he:es[i]? = some e
 hx:fl[i]? = some xx
 hpu:pot[un]? = some pu
 hpv:pot[vn]? = some pv
 f:e.f=(un:Int)
 t:e.t=(vn:Int)
 un':un<N.toNat
 vn':vn<N.toNat
 gf:(grE N es).f i=un
 gt:(grE N es).t i=vn
 co:(grE N es).co i=e.cost
 cap:Cf es i=e.cap
 fx:flE fl i=xx
 xb:0≤xx∧xx≤e.cap∧e.cap≤4503599627370496
 cb : -1000≤e.cost∧e.cost≤1000
 ub : -1099511627776≤pu∧pu≤1099511627776
 vb : -1099511627776≤pv∧pv≤1099511627776
 pu':E7 pot un=pu
 pv':E7 pot vn=pv
theorem eat {N:Int} {es:List Ed} {fl pot:List Int} (hw:Cb N es fl=true) (hp:FQ N pot=true) {i:Nat} (hi:i<es.length):∃ e xx pu pv un vn,EAt N es fl pot i e xx pu pv un vn:=by
 obtain ⟨hl,hr,hin⟩:=Ck hw;obtain ⟨hpl,hpb⟩:=Kr hp;obtain ⟨e,he⟩:=AD (l:=es) (i:=i) hi;obtain ⟨xx,hx⟩:=AD (l:=fl) (i:=i) (by omega);have hco:=Ez ((C8 hr).2.2.2.1 e (List.mem_of_getElem? he));have hxx:=hin i e xx he hx;obtain ⟨un,hun⟩:∃ un:Nat,e.f=un:=⟨e.f.toNat,by omega⟩;obtain ⟨vn,hvn⟩:∃ vn:Nat,e.t=vn:=⟨e.t.toNat,by omega⟩;obtain ⟨pu,hpu⟩:=AD (l:=pot) (i:=un) (by omega);obtain ⟨pv,hpv⟩:=AD (l:=pot) (i:=vn) (by omega);refine ⟨e,xx,pu,pv,un,vn,he,hx,hpu,hpv,hun,hvn,by omega,by omega,?_,?_,?_,?_,Bm hx,by omega,by omega,hpb _ _ hpu,hpb _ _ hpv,Bm hpu,Bm hpv⟩
 ·show (es.getD i e0).f.toNat=un; rw [Bm he,hun]; rfl
 ·show (es.getD i e0).t.toNat=vn; rw [Bm he,hvn]; rfl
 ·show (es.getD i e0).cost=e.cost; rw [Bm he]
 ·show (es.getD i e0).cap=e.cap; rw [Bm he]
theorem Rd.rowE {α:Type} {enc:α→List Value} {w:World} {a:Option Addr} {s:Nat} {xs:List α} (R:Rd w a s enc xs) {i:Nat} {x:α} (hx:xs[i]? = some x) {l:List Value} (he:enc x=l) (hs:l.length=s):∀ j v,l[j]? = some v→w.cell? ⟨(adr a).block,(adr a).off+i*s+j,none⟩=some v:=by
 subst he; exact R.row hx hs
section
variable {N:Int} {es:List Ed} {fl pot:List Int} {i:Nat} {e:Ed} {xx pu pv:Int} {un vn:Nat}
theorem EAt.enc (h:EAt N es fl pot i e xx pu pv un vn):C4 e=[.int .i64 (un:Int),.int .i64 (vn:Int),.int .i64 e.cap,.int .i64 e.cost]:=by
 unfold C4; rw [h.f,h.t]
theorem EAt.fwd (h:EAt N es fl pot i e xx pu pv un vn):Gy (grE N es) (E7 pot) (2*i)=[.int .i64 ((2*i:Nat):Int),.int .i64 (un:Int),.int .i64 (vn:Int),.int .i64 (e.cost+pu - pv)]:=by
 unfold Gy Gr.len Gr.u Gr.v Gr.c;rw [show 2*i % 2=0 by omega,show 2*i / 2=i by omega];simp only [if_true];rw [h.gf,h.gt,h.co,h.pu',h.pv']
theorem EAt.bwd (h:EAt N es fl pot i e xx pu pv un vn):Gy (grE N es) (E7 pot) (2*i+1)=[.int .i64 ((2*i+1:Nat):Int),.int .i64 (vn:Int),.int .i64 (un:Int),.int .i64 (-(e.cost+pu - pv))]:=by
 unfold Gy Gr.len Gr.u Gr.v Gr.c;rw [show (2*i+1) % 2=1 by omega,show (2*i+1) / 2=i by omega];simp only [if_false,Nat.one_ne_zero];rw [h.gf,h.gt,h.co,h.pu',h.pv',show -e.cost+pv - pu = -(e.cost+pu - pv) by omega]
theorem EAt.room0 (h:EAt N es fl pot i e xx pu pv un vn):C6 (Cf es) (flE fl) (2*i)=e.cap - xx:=by
 unfold C6;rw [show 2*i % 2=0 by omega,show 2*i / 2=i by omega,if_pos rfl,h.cap,h.fx]
theorem EAt.room1 (h:EAt N es fl pot i e xx pu pv un vn):C6 (Cf es) (flE fl) (2*i+1)=xx:=by
 unfold C6;rw [show (2*i+1) % 2=1 by omega,show (2*i+1) / 2=i by omega,if_neg (by omega),h.fx]
end

theorem UE (N:Int) (a b p:Option Addr) (n c m d q r:Nat) (w:World):Ret Tryz.prog 264 #[DG N a n c,.slice b m d,.slice p q r] w fun v w'=>∃ b1 b2 b3,v = .func (.func 278) #[] #[ptr b1,ptr b2,ptr b3]∧w'.heap[b1]? = some (Bl 51 [.int .i64 N,.slice a n c])∧w'.heap[b2]? = some (Bl 35 [.slice p q r])∧w'.heap[b3]? = some (Bl 35 [.slice b m d])∧w.heap.size≤b1∧w.heap.size≤b2∧w.heap.size≤b3∧Ext [] w w':=by
 obtain ⟨w0,rfl⟩:∃ w0,w0=w:=⟨_,rfl⟩;have H:=Ctx.start w0 [];refine Au (fn:=Tryz.f264) Tryz.func264 U [DG N a n c,.slice b m d,.slice p q r] U (by kernel_rfl) ?_;refine Ad (Bu U [.int .i64 N,.slice a n c] (.agg _) U U H ?_);rintro b3 w - H;refine Bu U _ (.slice _ _ _) U U H ?_;rintro b4 w - H;refine Bu U _ (.slice _ _ _) U U H ?_;rintro b5 w - H;refine CK U .nilFunc U ?_;refine Ab (Aa (Ad (BZ U [.pointer _,.pointer _,.pointer _] U (CK U (.func _ _ _) U ?_))));refine Ab (Aa (A5 (AA (v:=(.func _ _ _)) U U U ?_)));have ho:∀ x∈[(b5,Bl 35 [.slice p q r]),(b4,Bl 35 [.slice b m d]),(b3,Bl 51 [.int .i64 N,.slice a n c])],w0.heap.size≤x.1:=fun x hx=>(H.own x hx).elim (fun h=>by cases h) id;exact ⟨b3,b5,b4,rfl,H.get at2,H.get at0,H.get at1,ho (b3,_) (List.mem_of_getElem? (i:=2) U),ho (b5,_) (List.mem_of_getElem? (i:=0) U),ho (b4,_) (List.mem_of_getElem? (i:=1) U),H.ext⟩
/-- What the rounds leave. -/
structure ArcK (b1 b2 b3:Nat) (N:Int) (a b p:Option Addr) (c d r:Nat) (es:List Ed) (fl pot:List Int) (M:Mt) (w:World):Prop where
 h1:w.heap[b1]? = some (Bl 51 [.int .i64 N,.slice a es.length c])
 h2:w.heap[b2]? = some (Bl 35 [.slice p pot.length r])
 h3:w.heap[b3]? = some (Bl 35 [.slice b fl.length d])
 R:Rd w a 4 C4 es
 Rf:Rd w b 1 I1 fl
 Rp:Rd w p 1 I1 pot

set_option maxRecDepth 20000 in
set_option maxHeartbeats 8000000 in
theorem Rt {b1 b2 b3:Nat} {N:Int} {a b p:Option Addr} {c d r:Nat} {es:List Ed} {fl pot:List Int} (hw:Cb N es fl=true) (hp:FQ N pot=true) :
  PC Tryz.prog 278 #[ptr b1,ptr b2,ptr b3] [] (ArcK b1 b2 b3 N a b p c d r es fl pot) (Kb (grE N es) (E7 pot) (Em (Cf es) (flE fl) es.length)):=by
 intro l w J E hJ0 hJs hEs hK hY;obtain ⟨M0,hJ0⟩:=hJ0;obtain ⟨hl,hri,-⟩:=Ck hw;obtain ⟨hN1,hN40,hn200,-⟩:=C8 hri;obtain ⟨hpl,-⟩:=Kr hp;obtain ⟨w0,rfl⟩:∃ w0,w0=w:=⟨_,rfl⟩;refine Au (fn:=Tryz.f278) Tryz.func278 U [.func (.yield l) #[] #[],.pointer (some ⟨b1,0,none⟩),.pointer (some ⟨b2,0,none⟩),.pointer (some ⟨b3,0,none⟩)] U (by kernel_rfl) ?_;have K0:=(hK _ _ _ hJ0).2;refine Ad (Ah U CN U (Bd U Ei U ((by rw [Aj K0.h1]; rfl)) ?_));refine Bf U CW U (Af U U (Ab (Aa (Az (Bv 2361183241434822605024 (α:=Nat) (fun i=>[(11,.int .i64 (i:Int))]) (fun i w'=>i≤es.length∧∃ M,J (Em (Cf es) (flE fl) i).length M w') (fun i=>es.length - i) 0 U ?_ ?_ ?_)))))
 ·exact ⟨rfl,trivial⟩
 ·exact ⟨Nat.zero_le _,M0,hJ0⟩
 ·rintro i j w ⟨hi,M,hJ⟩;refine Ad (Bj U U U (Ab (Aa (Aw (Aq _ U ?_ ?_)))))
  ·intro h1;replace h1:=AM h1;obtain ⟨e,xx,pu,pv,un,vn,A⟩:=eat (i:=i) hw hp (by omega);obtain ⟨he,hfx,hpu,hpv,hf,ht,hun,hvn,-,-,-,-,-,hxb,hcb,hub,hvb,-,-⟩:=id A;have hrs:=OP (Cf es) (flE fl) i;rw [A.room0,A.room1] at hrs;obtain ⟨w1,rfl⟩:∃ w1,w1=w:=⟨_,rfl⟩;have KR:∀ {z},Ext [] w1 z→ArcK b1 b2 b3 N a b p c d r es fl pot M z:=fun hz=>(hK _ _ _ (hJs _ _ _ _ hJ hz)).2;have R:=(KR (.refl _ _)).R;have Rf:=(KR (.refl _ _)).Rf;have Rp:=(KR (.refl _ _)).Rp;have H:=Ctx.start w1 [];refine Av (Aa (Aw (Az (Ad (Af U U (Bo R U CW CX U U (by omega) (by omega) (by rfl) ?_))))));refine Cn _ U Ib CX U U (Rd.rowE (KR H.ext).R he A.enc U) ?_;refine AZ U GZ H ?_;rintro b6 w - H;refine Ae U U (Bn U CX U U U (by simp [Be]) H at0 U ?_);rintro w H;refine Ab (Aa (Dx (fun x=>x=_) Bq (by kernel_rfl) U ?_));refine A2 U GG U (BU U Bw U (by rintro _ rfl; exact H.drew) at0 U ?_)
   refine BP U BL U (by rintro _ rfl; exact ((by rw [Aj (KR H.drew.ext).h2]; rfl))) ?_;refine A2 U FI U (BU U BS U (by rintro _ rfl; exact H.drew) at0 U ?_);refine BM Rp U AR Bx U U (by omega) (by omega) (by rfl) ?_;refine BP U Bw U (by rintro _ rfl; exact (((KR H.drew.ext).Rp.fld hpu rfl (j:=0) rfl))) ?_;refine Da U U U (by omega) (by omega) ?_;refine BP U BL U (by rintro _ rfl; exact ((by rw [Aj (KR H.drew.ext).h2]; rfl))) ?_;refine A2 U FJ U (BU U BS U (by rintro _ rfl; exact H.drew) at0 U ?_);refine BM Rp U AR Bx U U (by omega) (by omega) (by rfl) ?_;refine BP U Bw U (by rintro _ rfl; exact (((KR H.drew.ext).Rp.fld hpv rfl (j:=0) rfl))) ?_;refine DV U U U (by omega) (by omega) ?_;refine Dm U U (BK ?_);rintro _ rfl;replace H:=H.drew;refine Aw ?_;obtain ⟨len,hlen⟩:∃ len,len=e.cost+pu - pv:=⟨_,rfl⟩;rw [← hlen];have hf7:=A.fwd;have hb7:=A.bwd;rw [← hlen] at hf7 hb7
   have hb6:=(H.own _ (List.mem_cons_self ..)).elim (fun h=>by cases h) id;have hM:=(hK _ _ _ hJ).1;have hn6:¬ M b6:=fun h=>by have:=hM _ h; omega
   have hk6:=H.drew.get at0;have hJ6:=hJs _ _ _ _ hJ H.drew.ext;refine DE 1125898833100800 (α:=Bool) (fun z=>[(49,.bool z)]) (fun z w'=>(z=true→E w')∧(z=false→w'.heap[b6]? = some (Bl 59 [.int .i64 (un:Int),.int .i64 (vn:Int),.int .i64 e.cap,.int .i64 e.cost])∧∃ M',¬ M' b6∧J (Em (Cf es) (flE fl) i++(if 0<e.cap - xx then [2*i] else [])).length M' w')) U ?_ ?_
   ·skip
    refine Fq 17 Bq (by kernel_rfl) U U ?_;refine BP U BL U (by rintro _ rfl; exact ((by rw [Aj (KR H.drew.ext).h3]; rfl))) ?_;refine AU U U (BM Rf U AR Bx U U (by omega) (by omega) (by rfl) ?_);refine BP U Bw U (by rintro _ rfl; exact (((KR H.drew.ext).Rf.fld hfx rfl (j:=0) rfl))) ?_;refine A2 U EG U (BU U Bw U (by rintro _ rfl; exact H.drew) at0 U ?_);refine JV U U U (CM U U (Dt 37 U ?_ ?_))
    ·intro h2;replace h2:=AM h2;refine L7 U (.func _ _ _) U ?_;refine AU U U (Vu U U U (by omega) (by omega) ?_);refine A2 U FI U (BU U BS U (by rintro _ rfl; exact H.drew) at0 U ?_);refine A2 U FJ U (BU U BS U (by rintro _ rfl; exact H.drew) at0 U ?_);refine AU U U (WY (Gy (grE N es) (E7 pot) (2*i)) U XF Jp (by rw [hf7]; kernel_rfl) ?_);refine BK ?_;replace H:=H.drew;refine Gq (vs:=[.agg (Gy (grE N es) (E7 pot) (2*i)).toArray]) U U (hY _ _ M _ (UD (l:=Em (Cf es) (flE fl) i) (k:=i) (by omega) (by rw [hrs,if_pos (by omega)]; rfl)) hJ6) U ?_;rintro u w hu
     obtain ⟨bb,rfl,hu1,hu0⟩:∃ bb,u = .bool bb∧(bb=true→w.heap[b6]? = some (Bl 59 [.int .i64 (un:Int),.int .i64 (vn:Int),.int .i64 e.cap,.int .i64 e.cost])∧∃ M',¬ M' b6∧J ((Em (Cf es) (flE fl) i).length+1) M' w)∧(bb=false→E w):=hu.elim (fun h=>⟨true,h.1,fun _=>let ⟨M',h1,g⟩:=h.2; ⟨g.to hk6 hn6,M',g.not (Bb hk6) hn6,h1⟩,fun h=>by cases h⟩) (fun h=>⟨false,h.1,(fun h=>by cases h),fun _=>h.2⟩);refine BG U U (AG U U (.bool _) U (Ab (Aa ?_)));exact ⟨!bb,rfl,⟨rfl,trivial⟩,fun h=>hu0 (by simpa using h),fun h=>by rw [if_pos (by omega),List.length_append]; exact hu1 (by simpa using h)⟩
    ·intro h2;replace h2:=AN h2;refine Ax U (Ax U (Ax U (Ax U (Ax U (Ax U (Ax U (Ax U (Ax U (BK ?_)))))))));replace H:=H.drew;refine Ag U (Ag U (AJ U U (.bool _) U (Ab (Aa ?_))));exact ⟨false,rfl,⟨rfl,trivial⟩,(fun h=>by cases h),fun _=>⟨hk6,M,hn6,by rw [if_neg (by omega),List.append_nil]; exact hJ6⟩⟩
   ·rintro z j2 w ⟨hz1,hz0⟩;refine Aq _ U ?_ ?_
    ·intro h2;refine A5 (Ao (A9 (Ao (Ao (A9 (Fo U U ?_))))));exact .inr (hz1 h2)
    ·intro h2;obtain ⟨hk7,M7,hn7,hJ7⟩:=hz0 h2;obtain ⟨w7,rfl⟩:∃ z,z=w:=⟨_,rfl⟩;have K7:=(hK _ _ _ hJ7).2;have H:=Ctx.start w7 [];refine Av (Aa (Ad (Bd U BL U ((by rw [Aj K7.h3]; rfl)) ?_)));refine Af U U (Bo Rf U AR Bx U U (by omega) (by omega) (by rfl) ?_);refine Bd U Bw U ((K7.Rf.fld hfx U (j:=0) U)) ?_;refine Dn U U U (A7 U U (AV 55 U ?_ ?_))
     ·intro h3;replace h3:=AM h3;have hat:=UD (g:=grE N es) (p:=E7 pot) (cap:=Cf es) (x:=flE fl) (m:=es.length) (l:=Em (Cf es) (flE fl) i++(if 0<e.cap - xx then [2*i] else [])) (k:=i) (a:=2*i+1) (r:=[]) (by omega) (by rw [hrs,if_pos h3,List.append_assoc]);refine De U (.func _ _ _) U ?_;refine Af U U (D8 U U U (by omega) (by omega) ?_);refine Ay U U U (by omega) (by omega) ?_;refine Ah U FJ U (Bd U BS U ((by rw [Aj hk7]; rfl)) ?_);refine Ah U FI U (Bd U BS U ((by rw [Aj hk7]; rfl)) ?_);refine Af U U (Kh U U (by omega) (by omega) ?_);refine B7 (Gy (grE N es) (E7 pot) (2*i+1)) U XF Jp (by rw [hb7]; kernel_rfl) ?_;refine Gq (vs:=[.agg (Gy (grE N es) (E7 pot) (2*i+1)).toArray]) U U (hY _ _ M7 _ hat hJ7) U ?_;rintro u w hu
      obtain ⟨bb,rfl,hu1,hu0⟩:∃ bb,u = .bool bb∧(bb=true→∃ M',J ((Em (Cf es) (flE fl) i++(if 0<e.cap - xx then [2*i] else [])).length+1) M' w)∧(bb=false→E w):=hu.elim (fun h=>⟨true,h.1,fun _=>let ⟨M',h1,_⟩:=h.2; ⟨M',h1⟩,fun h=>by cases h⟩) (fun h=>⟨false,h.1,(fun h=>by cases h),fun _=>h.2⟩);refine BG U U (AG U U (.bool _) U (Ab (Aa (Aq _ U ?_ ?_))))
      ·intro h4;replace h4:=BD h4;refine A5 (A9 (Ao (Ao (A9 (Fo U U ?_)))));exact .inr (hu0 (by simpa using h4))
      ·intro h4;replace h4:=BE h4;refine Av (A6 (Aa (A0 (Ay U U U (by omega) (by omega) ?_))));refine Af U U (Ab (Aa ?_));refine ⟨i+1,rfl,⟨rfl,trivial⟩,⟨by omega,?_⟩,by omega⟩;rw [hrs,if_pos h3,← List.append_assoc,List.length_append];exact hu1 (by simpa using h4)
     ·intro h3;replace h3:=AN h3;refine Ag U (Ag U (Ag U (Ag U (Ag U (Ag U (Ag U (Ag U (Ag U (Ag U ?_)))))))));refine Ag U (Ag U (Ag U (AJ U U (.bool _) U (Ab (Aa (G9 U (Av (A6 (Aa (A0 (Ay U U U (by omega) (by omega) ?_)))))))))));refine Af U U (Ab (Aa ?_));refine ⟨i+1,rfl,⟨rfl,trivial⟩,⟨by omega,M7,?_⟩,by omega⟩;rw [hrs,if_neg h3,List.append_nil];exact hJ7
  ·intro h1;replace h1:=AN h1;refine Bt (Am (Am (AK (CG U U ?_))));obtain rfl:i=es.length:=by omega
   exact .inl ⟨M,by unfold Kb; rw [List.length_map]; exact hJ⟩

end Go.Proofs.YtdagmpmdcgedcaaGreat

/- Whether numbers fit what flows: the walk. -/
namespace Go.Proofs.YtdagmpmdcgedcaaGreat
open Go.GV
attribute [local irreducible] AB W Wq Wt

def arcB (g:Gr) (p:Nat→Int) (a:Nat):Bool:=decide (0≤g.len p a)
def HD (N:Int) (es:List Ed) (fl pot:List Int):Bool:=Cb N es fl && (FQ N pot && (Em (Cf es) (flE fl) es.length).all (arcB (grE N es) (E7 pot)))

set_option maxRecDepth 20000 in
set_option maxHeartbeats 8000000 in
theorem Aar (N:Int) (a b p:Option Addr) (n c m d q r:Nat) (es:List Ed) (fl pot:List Int) (w:World) (R:Rd w a 4 C4 es) (hn:es.length=n) (hN:I64 N) (Rf:Rd w b 1 I1 fl) (hm:fl.length=m) (hm2:m≤9223372036854775000) (Rp:Rd w p 1 I1 pot) (hq:pot.length=q) (hq2:q≤9223372036854775000) :
  Ret Tryz.prog 263 #[DG N a n c,.slice b m d,.slice p q r] w fun v w'=>v = .bool (HD N es fl pot)∧Ext [] w w':=by
 subst hn hm hq;obtain ⟨w0,rfl⟩:∃ w0,w0=w:=⟨_,rfl⟩;have H:=Ctx.start w0 [];refine GN (fn:=Tryz.f263) Tryz.func263 U [DG N a es.length c,.slice b fl.length d,.slice p pot.length r] U (by kernel_rfl) ?_;refine Ad (Bu U [.int .i64 N,.slice a es.length c] (.agg _) U U H ?_);rintro b3 w - H;refine AZ U zc_4 H ?_;rintro b6 w - H;refine Ab (Aa (Aw (Ad (Ce U CV C7 U H at1 U (A4 U U (Al U PO (JK N a b es.length c fl.length d es fl _ (R.ext0 H.ext) U hN (Rf.ext0 H.ext) U hm2) U ?_))))));rintro v w ⟨rfl,hx12⟩;replace H:=H.call hx12;refine BG U U (A7 U U (AV 14 U ?_ ?_))
 ·intro h1;replace h1:=BD h1;refine Ag U (Ag U (Ag U (Ag U (Ag U (AG U U (.bool _) U (Ab (Aa (D3 U (Ad (Cg (.bool _) U VC U U U H at0 (by decide) ?_))))))))));rintro w H;refine Ab (Aa (A5 (Ao (Jw U U ?_))));have h1':Cb N es fl=false:=by simpa using h1
  exact ⟨_,Fx JR (by rw [Aj (H.get at0)]; rfl),congrArg Value.bool (by unfold HD; rw [h1']; rfl),H.ext⟩
 ·intro h1;replace h1:=BE h1;have h1':Cb N es fl=true:=by simpa using h1
  refine A4 U U (Bf U AR U (Ah U Ex U (AE U BS U H at1 U (CI U U U (AJ U U (.bool _) U (Ab (Aa (Aq _ U ?_ ?_))))))))
  ·intro h2;replace h2:=CE h2;refine Ad (Cg (.bool _) U VC U U U H at0 (by decide) ?_);rintro w H;refine Ab (Aa (A5 (Ao (Jw U U ?_))));have h2':FQ N pot=false:=by unfold FQ; rw [decide_eq_false h2,Bool.and_false]
   exact ⟨_,Fx JR (by rw [Aj (H.get at0)]; rfl),congrArg Value.bool (by unfold HD; rw [h2',Bool.false_and,Bool.and_false]),H.ext⟩
  ·intro h2;replace h2:=CF h2;have hpl:(pot.length:Int)=N:=by simpa using h2
   refine Av (Aa (Aw (Ad (A4 U U (Bf U AR U (Af U U (Ab (Aa (Az (Bv 17171480832 (α:=Nat) (fun i=>[(23,.int .i64 (i:Int))]) (fun i w'=>i≤pot.length∧Ctx w0 [] w' [(b6,Bl 4 [.bool false]),(b3,Bl 51 [.int .i64 N,.slice a es.length c])]∧∀ (k:Nat) (x:Int),k<i→pot[k]? = some x→M1 x=true) (fun i=>pot.length - i) 0 U ?_ ?_ ?_))))))))))
   ·exact ⟨rfl,trivial⟩
   ·exact ⟨Nat.zero_le _,H,fun k x h=>absurd h (Nat.not_lt_zero _)⟩
   ·rintro i j w ⟨hi,H,hb⟩;refine Ad (Bj U U U (Ab (Aa (Aw (Aq _ U ?_ ?_)))))
    ·intro h3;replace h3:=AM h3;obtain ⟨x,h7x⟩:=AD (l:=pot) (i:=i) (by omega);refine Av (Aa (Aw (Az (Ad (Bo Rp U AR Bx U U (by omega) (by omega) (by rfl) ?_)))));refine Bd U Bw U (((Rp.ext0 H.ext).fld h7x U (j:=0) U)) ?_;refine Ae U U (Ab (Aa (Ad (Cw (α:=Unit) 8455716864 (fun _=>[(32,.bool (!M1 x))]) (fun _ w'=>Ctx w0 [] w' [(b6,Bl 4 [.bool false]),(b3,Bl 51 [.int .i64 N,.slice a es.length c])]) U ?_ ?_))))
     ·refine Af U U (Bj U U U (A7 U U (AV 29 U ?_ ?_)))
      ·intro h1;replace h1:=AM h1;refine Ag U (Ag U (AG U U (.bool _) U (Ab ?_)));exact ⟨rfl,(),rfl,⟨congrArg Value.bool (by unfold M1; rw [Bool.eq_iff_iff]; simp_all; try omega),trivial⟩,H⟩
      ·intro h2;replace h2:=AN h2;refine Af U U (Dn U U U (AJ U U (.bool _) U (Ab ?_)));exact ⟨rfl,(),rfl,⟨congrArg Value.bool (by unfold M1; rw [Bool.eq_iff_iff]; simp_all; try omega),trivial⟩,H⟩
     rintro - j32 w H;refine Aq _ U ?_ ?_
     ·intro h4;replace h4:=BD h4;refine Ad (Cg (.bool _) U VC U U U H at0 (by decide) ?_);rintro w H;refine Ab (Aa (A5 (A9 (Ao (Ao (A9 (Ao (Jw U U ?_))))))));have h2':FQ N pot=false:=by unfold FQ; rw [El h7x (by simpa using h4),Bool.false_and]
      exact ⟨_,Fx JR (by rw [Aj (H.get at0)]; rfl),congrArg Value.bool (by unfold HD; rw [h2',Bool.false_and,Bool.and_false]),H.ext⟩
     ·intro h4;replace h4:=BE h4;refine Av (A6 (Aa (A0 (Ay U U U (by omega) (by omega) ?_))));refine Af U U (Ab (Aa ?_));refine ⟨i+1,rfl,⟨rfl,trivial⟩,⟨by omega,H,fun k y hk hy=>?_⟩,by omega⟩
      rcases Nat.lt_or_ge k i with h7 | h7
      ·exact hb k y h7 hy
      ·obtain rfl:k=i:=by omega
       rw [h7x] at hy;cases hy
       simpa using h4
    ·intro h3;replace h3:=AN h3
     have hp:FQ N pot=true:=by
      unfold FQ;rw [Fi fun k x hk hx=>hb k x (by omega) hx,decide_eq_true hpl]; rfl
     obtain ⟨hl,hri,-⟩:=Ck h1';obtain ⟨hN1,hN40,hn200,-⟩:=C8 hri;have hfN:HD N es fl pot=(Em (Cf es) (flE fl) es.length).all (arcB (grE N es) (E7 pot)):=by unfold HD; rw [h1',hp]; rfl
     refine Bt (Am (Am (AK (Aa (Aw (Ad (Ce U CV C7 U H at1 U (A4 U U (A4 U U ?_)))))))));have hlt:=H.lt (k:=0) rfl;have hlt1:=H.lt (k:=1) rfl;refine Al U X6 (UE N a b p es.length c fl.length d pot.length r _) U ?_;rintro v w ⟨x1,x2,x3,rfl,hb1,hb2,hb3,hs1,hs2,hs3,hx37⟩;have hbb:=(H.call hx37);have hx7:=H.ext.trans hx37;have hs07:=H.size;refine Ab (Aa (Az ?_));obtain ⟨ws,rfl⟩:∃ z,z=w:=⟨_,rfl⟩;have hk6:=hbb.lt (k:=0) rfl;have hk1:=Bb hb1;have hk2:=Bb hb2;have hk3:=Bb hb3;have hk66:=hbb.get at0;have hs0:=hbb.size;have h60:w0.heap.size≤b6:=(hbb.own _ (List.mem_cons_self ..)).elim (fun h=>by cases h) id
     refine MD (gf:=278) U X9 (Rt (b1:=x1) (b2:=x2) (b3:=x3) (a:=a) (b:=b) (p:=p) (c:=c) (d:=d) (r:=r) h1' hp) (by kernel_rfl) (by kernel_rfl) (fun v hv=>by obtain ⟨p,-,rfl⟩:=List.mem_map.1 hv; rfl)
      (fun i M w'=>(M=fun _=>False)∧Ext [] w0 w'∧w'.heap[b6]? = some (Bl 4 [.bool false])∧w'.heap[x1]? = some (Bl 51 [.int .i64 N,.slice a es.length c])∧w'.heap[x2]? = some (Bl 35 [.slice p pot.length r])∧w'.heap[x3]? = some (Bl 35 [.slice b fl.length d])∧∀ (k:Nat) (y:Nat),k<i→(Em (Cf es) (flE fl) es.length)[k]? = some y→arcB (grE N es) (E7 pot) y=true)
      (fun w'=>Ext [] w0 w'∧w'.heap[b6]? = some (Bl 4 [.bool false])∧(Em (Cf es) (flE fl) es.length).all (arcB (grE N es) (E7 pot))=false) (by simp)
      (fun w2 hx2 _=>⟨_,rfl,hx7.trans hx2,hx2.to hk66 (by simp),hx2.to hb1 (by simp),hx2.to hb2 (by simp),hx2.to hb3 (by simp),fun k y h=>absurd h (Nat.not_lt_zero _)⟩)
      (fun i M w' w'' hJ hx=>⟨hJ.1,hJ.2.1.then hx (fun z hz => .inr (by simp only [List.mem_cons,List.not_mem_nil,or_false] at hz; omega)),hx.to hJ.2.2.1 (by simp; omega),hx.to hJ.2.2.2.1 (by simp; omega),hx.to hJ.2.2.2.2.1 (by simp; omega),hx.to hJ.2.2.2.2.2.1 (by simp; omega),hJ.2.2.2.2.2.2⟩)
      (fun w' w'' hE hx=>⟨hE.1.then hx (fun z hz => .inr (by simp only [List.mem_cons,List.not_mem_nil,or_false] at hz; omega)),hx.to hE.2.1 (by simp; omega),hE.2.2⟩)
      (fun i M w' hJ=>⟨fun y hy=>by rw [hJ.1] at hy; exact hy.elim,hJ.2.2.2.1,hJ.2.2.2.2.1,hJ.2.2.2.2.2.1,R.ext0 hJ.2.1,Rf.ext0 hJ.2.1,Rp.ext0 hJ.2.1⟩) ?_ ?_ ?_
     ·rintro i v _ w hxv ⟨rfl,hx0,g6,g1,g2,g3,hall⟩ hsz;unfold Kb at hxv;rw [List.getElem?_map] at hxv;obtain ⟨y,hy,rfl⟩:=Option.map_eq_some_iff.1 hxv;obtain ⟨w1,rfl⟩:∃ z,z=w:=⟨_,rfl⟩;have H:=Ctx.start w1 [];refine A0 (AZ U Jp H ?_);rintro b9 w - H;refine Bn U GY U U U (by exact ND _ _ _) H at0 U ?_;rintro w H;refine Ab ?_;refine ⟨H.ext,fun wB hxB=>?_⟩;have hb9:=(H.own _ (List.mem_cons_self ..)).elim (fun h=>by cases h) id;have k9:=hxB.to (H.get at0) (by rw [List.mem_singleton]; omega);have k6:=hxB.to (H.ext.to g6 (by simp)) (by rw [List.mem_singleton]; omega);have k1:=hxB.to (H.ext.to g1 (by simp)) (by rw [List.mem_singleton]; omega);have k2:=hxB.to (H.ext.to g2 (by simp)) (by rw [List.mem_singleton]; omega);have k3:=hxB.to (H.ext.to g3 (by simp)) (by rw [List.mem_singleton]; omega);have hx0B:=(hx0.trans H.ext).then hxB fun z hz => .inr (by rw [List.mem_singleton.1 hz]; omega)
      obtain ⟨w2,rfl⟩:∃ z,z=wB:=⟨_,rfl⟩;replace H:=Ctx.start1 k6;have hn9:b9∉[b6]:=by rw [List.mem_singleton]; omega
      refine Az (Ad (Ah U N0 U (Bd U Bw U ((H.old (Aj k9 _) hn9)) ?_)));refine Bj U U U (Ab (Aa (Aq _ U ?_ ?_)))
      ·intro h5;replace h5:=AM h5;refine Ad (Cg (.bool _) U VC U U U H at0 (by decide) ?_);rintro w H;refine Ab (Aa (A5 (A9 ?_)));exact ⟨⟨hx0B.then H.ext fun z hz => .inr (by rw [List.mem_singleton.1 hz]; exact h60),H.get at0,El hy (decide_eq_false (by omega))⟩,_,H.ext,by rw [List.mem_singleton]; omega,by rw [List.mem_singleton]; omega⟩
      ·intro h5;replace h5:=AN h5;refine Av (A6 ?_);refine ⟨_,⟨rfl,hx0B,k6,k1,k2,k3,fun k z hk hz=>?_⟩,fun _ h=>h.elim,[],.refl _ _,fun _ h=>by cases h⟩
       rcases Nat.lt_or_ge k i with h7 | h7
       ·exact hall k z h7 hz
       ·obtain rfl:k=i:=by omega
        rw [hy] at hz;cases hz;exact decide_eq_true (by omega)
     ·rintro M w ⟨-,hx0,g6,-,-,-,hall⟩ hD;have hlen:(Kb (grE N es) (E7 pot) (Em (Cf es) (flE fl) es.length)).length=(Em (Cf es) (flE fl) es.length).length:=by unfold Kb; rw [List.length_map]
      rw [hlen] at hall;replace H:=Ctx.start1 g6;refine A6 (Aa (Ad (Cg (.bool _) U VC U U U H at0 (by decide) ?_)));rintro w H;refine Ab (Aa (A5 (Jw U U (GO (by rw [H.ext.block _ (Bb hD) (by rw [List.mem_singleton]; omega)]; exact hD) U fun wF hxF=>?_))));exact ⟨_,Fx JR (by rw [Aj (hxF.to (H.get at0) (by rw [List.mem_singleton]; omega))]; rfl),congrArg Value.bool (by rw [hfN,Fi fun k x hk hx=>hall k x hk hx]),(hx0.then H.ext fun z hz => .inr (by rw [List.mem_singleton.1 hz]; exact h60)).then hxF fun z hz => .inr (by rw [List.mem_singleton.1 hz]; omega)⟩
     ·rintro w ⟨hx0,g6,hall⟩ hD;refine A9 (Ao (Jw U U (GO hD U fun wF hxF=>?_)));exact ⟨_,Fx JR (by rw [Aj (hxF.to g6 (by rw [List.mem_singleton]; omega))]; rfl),congrArg Value.bool (by rw [hfN,hall]),hx0.then hxF fun z hz => .inr (by rw [List.mem_singleton.1 hz]; omega)⟩

end Go.Proofs.YtdagmpmdcgedcaaGreat

/- Plain law of shortest ways: how long the heap may get. -/
namespace Go.Proofs.YtdagmpmdcgedcaaGreat
open Go.GV

def Ij (A:List Ar) (v:Nat):Int:=((A.filter fun a=>decide (a.1=v)).length:Nat)
/-- How often a node may be gone on from. -/
def gv (n:Nat) (D:Int) (s:Lb) (hp:List Tg) (v:Nat):Int:=if s.d v ≠ -1∧s.d v≤D then (hp.count (s.d v,v):Nat)+(s.h v:Nat) else (n:Nat)+1
def psi (n:Nat) (A:List Ar) (D:Int) (s:Lb) (hp:List Tg):Int:=(hp.length:Nat)+B5 (fun v=>Ij A v*gv n D s hp v) n
structure PI (n:Nat) (D:Int) (s:Lb) (hp:List Tg):Prop where
 keys:∀ t∈hp,D≤t.1
 item:∀ t∈hp,s.d t.2 ≠ -1∧s.d t.2≤t.1
 lab:∀ v,s.d v ≠ -1→hp.count (s.d v,v)+s.h v≤n
theorem Yf (A:List Ar) (v:Nat):0≤Ij A v:=by unfold Ij; omega
theorem Aas {n:Nat} {D:Int} {s:Lb} {hp hq:List Tg} (h:hp.Perm hq) (v:Nat):gv n D s hp v=gv n D s hq v:=by unfold gv; rw [h.count_eq]
theorem NE {n:Nat} {A:List Ar} {D:Int} {s:Lb} {hp hq:List Tg} (h:hp.Perm hq):psi n A D s hp=psi n A D s hq:=by
 unfold psi;rw [h.length_eq,Cr fun i _=>by rw [Aas h]]
theorem PI.perm {n:Nat} {D:Int} {s:Lb} {hp hq:List Tg} (P:PI n D s hp) (h:hp.Perm hq):PI n D s hq :=
 ⟨fun t ht=>P.keys t (h.mem_iff.2 ht),fun t ht=>P.item t (h.mem_iff.2 ht),fun v hv=>by rw [← h.count_eq]; exact P.lab v hv⟩
theorem gv0 {n:Nat} {D:Int} {s:Lb} {hp:List Tg} (v:Nat):0≤gv n D s hp v:=by unfold gv; split <;> omega
theorem Qi {n:Nat} {A:List Ar} {D:Int} {s:Lb} {hp:List Tg}:(hp.length:Int)≤psi n A D s hp:=by
 have:=Ha (f:=fun v=>Ij A v*gv n D s hp v) (k:=n) fun i _=>Int.mul_nonneg (Yf A i) (gv0 i);unfold psi; omega
theorem PI.pop {n:Nat} {A:List Ar} {D:Int} {s:Lb} {t:Tg} {hp:List Tg} (P:PI n D s (t::hp)) (hmin:∀ x∈hp,t.1≤x.1) (ht:t.2<n) :
  PI n t.1 s hp∧psi n A t.1 s hp+1≤psi n A D s (t::hp)∧(t.1=s.d t.2→psi n A t.1 s hp+1+Ij A t.2≤psi n A D s (t::hp)):=by
 have hD:=P.keys t (List.mem_cons_self ..)
 have hc:∀ v,((t::hp).count (s.d v,v):Int)=(hp.count (s.d v,v):Int)+one (t=(s.d v,v)):=fun v=>by
  rw [List.count_cons]
  by_cases e:t=(s.d v,v)
  ·rw [if_pos (by rw [e]; exact beq_self_eq_true _),one,if_pos e]; omega
  ·rw [if_neg (by simpa using e),one,if_neg e]; omega
 have hone:∀ v,0≤one (t=(s.d v,v)):=fun v=>by unfold one; split <;> omega
 have hg:∀ v,gv n t.1 s hp v≤gv n D s (t::hp) v∧(t=(s.d v,v)→gv n t.1 s hp v+1≤gv n D s (t::hp) v):=fun v=>by
  have h1:=hc v;have h2:=hone v;have h4:t=(s.d v,v)→one (t=(s.d v,v))=1:=fun e=>if_pos e
  have h5:t=(s.d v,v)→t.1=s.d v∧s.d v ≠ -1:=fun e=>⟨by rw [e],by
   have:=(P.item t (List.mem_cons_self ..)).1;rw [show t.2=v by rw [e]] at this
   exact this⟩
  unfold gv
  by_cases a1:s.d v ≠ -1∧s.d v≤t.1
  ·have h3:=P.lab v a1.1;rw [if_pos a1]
   by_cases a2:s.d v ≠ -1∧s.d v≤D
   ·rw [if_pos a2];refine ⟨by omega,fun e=>?_⟩;have:=h4 e;omega
   ·rw [if_neg a2];refine ⟨by omega,fun e=>?_⟩;have:=h4 e;omega
  ·rw [if_neg a1,if_neg (fun h=>a1 ⟨h.1,by omega⟩)];refine ⟨Int.le_refl _,fun e=>?_⟩;have:=h5 e;exact absurd ⟨this.2,by omega⟩ a1
 refine ⟨⟨hmin,fun x hx=>P.item x (List.mem_cons_of_mem _ hx),fun v hv=>?_⟩,?_,fun e=>?_⟩
 ·have h1:=hc v;have h2:=hone v;have h3:=P.lab v hv;omega
 ·have h1:=Jq (f:=fun v=>Ij A v*gv n t.1 s hp v) (g:=fun v=>Ij A v*gv n D s (t::hp) v) (k:=n) fun i _=>Int.mul_le_mul_of_nonneg_left (hg i).1 (Yf A i);unfold psi;rw [List.length_cons];omega
 ·have h1:=Jq (f:=fun v=>Ij A v*gv n t.1 s hp v) (g:=fun v=>Ij A v*gv n D s (t::hp) v - one (t.2=v)*Ij A v) (k:=n) fun i _=>by
   by_cases e1:t.2=i
   ·subst e1;have h2:=Int.mul_le_mul_of_nonneg_left ((hg t.2).2 (Prod.ext e rfl)) (Yf A t.2);rw [Int.mul_add] at h2;rw [one,if_pos rfl];omega
   ·have h2:=Int.mul_le_mul_of_nonneg_left (hg i).1 (Yf A i);rw [one,if_neg e1];omega
  rw [JI,GH (fun v=>Ij A v) ht] at h1;unfold psi;rw [List.length_cons];omega
theorem PI.relax {n:Nat} {A:List Ar} {D:Int} {s:Lb} {hp:List Tg} {a:Ar} (P:PI n D s hp) (hs:s.d a.1=D) (hD0:0≤D) (hl:0≤a.2.2) (hlow:∀ v,s.d v = -1∨0≤s.d v) (hhop:(Gw s a).d a.2.1 ≠ -1→(Gw s a).h a.2.1+1≤n) :
  PI n D (Gw s a) (HQ s a hp)∧psi n A D (Gw s a) (HQ s a hp)≤psi n A D s hp+1:=by
 by_cases hb:DP s a.2.1 (s.d a.1+a.2.2) (s.h a.1+1)
 ·have hS:Gw s a=Hb s a.2.1 (s.d a.1+a.2.2) (s.h a.1+1):=by unfold Gw; rw [if_pos hb]
  have hH:HQ s a hp=(s.d a.1+a.2.2,a.2.1)::hp:=by unfold HQ; rw [if_pos hb]
  rw [hS] at hhop;rw [hS,hH];obtain ⟨d',hd'⟩:∃ d',d'=s.d a.1+a.2.2:=⟨_,rfl⟩;obtain ⟨h',hh'⟩:∃ h',h'=s.h a.1+1:=⟨_,rfl⟩;obtain ⟨v,hv⟩:∃ v,v=a.2.1:=⟨_,rfl⟩;rw [← hd',← hh',← hv] at hb hhop ⊢;have hdD:D≤d':=by omega
  have p1:(Hb s v d' h').d v=d':=if_pos rfl;have p2:(Hb s v d' h').h v=h':=if_pos rfl;have p3:∀ x,x≠v→(Hb s v d' h').d x=s.d x:=fun x hx=>if_neg hx;have p4:∀ x,x≠v→(Hb s v d' h').h x=s.h x:=fun x hx=>if_neg hx;have hsD:=hlow a.1;unfold DP at hb
  have hc1:∀ x,x≠v→((d',v)::hp).count (s.d x,x)=hp.count (s.d x,x):=fun x hx=>by
   rw [List.count_cons,if_neg (by simp; intro _ h; exact hx h.symm)]; rfl
  have hc2:((d',v)::hp).count (d',v)=hp.count (d',v)+1:=by rw [List.count_cons_self]
  have hc3:s.d v = -1∨d'<s.d v→hp.count (d',v)=0:=fun h=>List.count_eq_zero.2 fun hm=>by
   have:=P.item _ hm;dsimp only at this;omega
  have h0:d' ≠ -1:=by omega
  have hh1:=hhop (by rw [p1]; exact h0);rw [p2] at hh1
  have hlabv:((d',v)::hp).count (d',v)+h'≤n:=by
   rw [hc2]
   rcases hb with h | h | ⟨h,hlt⟩
   ·rw [hc3 (.inl h)]; omega
   ·rw [hc3 (.inr h)]; omega
   ·have:=P.lab v (by rw [← h]; exact h0);rw [← h] at this;omega
  have hgx:∀ x,gv n D (Hb s v d' h') ((d',v)::hp) x≤gv n D s hp x:=fun x=>by
   unfold gv
   by_cases e:x=v
   ·subst e;rw [p1,p2]
    by_cases a1:d' ≠ -1∧d'≤D
    ·rw [if_pos a1]
     by_cases a2:s.d x ≠ -1∧s.d x≤D
     ·rw [if_pos a2];have e3:d'=s.d x∧h'<s.h x:=by omega
      rw [hc2,← e3.1];omega
     ·rw [if_neg a2]; omega
    ·rw [if_neg a1];rw [if_neg (fun h=>a1 ⟨h0,by omega⟩)];exact Int.le_refl _
   ·rw [p3 x e,p4 x e,hc1 x e];exact Int.le_refl _
  refine ⟨⟨fun t ht=>?_,fun t ht=>?_,fun x hx=>?_⟩,?_⟩
  ·rcases List.mem_cons.1 ht with rfl | ht
   ·exact hdD
   ·exact P.keys t ht
  ·rcases List.mem_cons.1 ht with rfl | ht
   ·rw [p1]; exact ⟨h0,Int.le_refl _⟩
   ·obtain ⟨i1,i2⟩:=P.item t ht
    by_cases e:t.2=v
    ·rw [e,p1];rw [e] at i1 i2;exact ⟨h0,by omega⟩
    ·rw [p3 _ e]; exact ⟨i1,i2⟩
  ·by_cases e:x=v
   ·subst e; rw [p1,p2]; exact hlabv
   ·rw [p3 x e,p4 x e,hc1 x e];rw [p3 x e] at hx;exact P.lab x hx
  ·have h1:=Jq (f:=fun x=>Ij A x*gv n D (Hb s v d' h') ((d',v)::hp) x) (g:=fun x=>Ij A x*gv n D s hp x) (k:=n) fun i _=>Int.mul_le_mul_of_nonneg_left (hgx i) (Yf A i);unfold psi;rw [List.length_cons];omega
 ·have hS:Gw s a=s:=by unfold Gw; rw [if_neg hb]
  have hH:HQ s a hp=hp:=by unfold HQ; rw [if_neg hb]
  rw [hS,hH];exact ⟨P,by omega⟩

end Go.Proofs.YtdagmpmdcgedcaaGreat

/- Shortest ways: a node is gone on from: the walks. -/
namespace Go.Proofs.YtdagmpmdcgedcaaGreat
open Go.GV
attribute [local irreducible] AB W Wq Wt

abbrev FB (oo od oh ob n:Nat):List Value:=[.slice (some ⟨oo,0,none⟩) n n,.slice (some ⟨od,0,none⟩) n n,.slice (some ⟨oh,0,none⟩) n n,.slice (some ⟨ob,0,none⟩) n n]
def Og (s:Lb) (v:Nat):Int:=(s.h v:Nat)
def ID (g:Gr) (p:Nat→Int) (a:Nat):Ar:=(g.u a,g.v a,g.len p a)

set_option maxRecDepth 20000 in
theorem VK {w:World} {bf oo od oh ob n:Nat} {s:Lb} (hf:w.heap[bf]? = some (Bl 294 (FB oo od oh ob n))) (hd:w.heap[od]? = some (Bl 2 (BN s.d n))) (hh:w.heap[oh]? = some (Bl 3 (BN (Og s) n))) (v:Nat) (hv:v<n) (hn:n≤1000000) (d:Int) (h:Nat) :
  Ret Tryz.prog 282 #[ptr bf,.int .i64 (v:Int),.int .i64 d,.int .i64 (h:Int)] w fun r w'=>r = .bool (decide (DP s v d h))∧w=w':=by
 obtain ⟨w0,rfl⟩:∃ w0,w0=w:=⟨_,rfl⟩;have Rdd:=Cs hd;have Rhh:=Cs hh;have hhv:Og s v=(s.h v:Nat):=rfl;obtain ⟨x,hx⟩:∃ x,x=s.d v:=⟨_,rfl⟩;obtain ⟨y,hy⟩:∃ y,y=s.h v:=⟨_,rfl⟩;have hgd:(tab s.d n)[v]? = some x:=by rw [BO hv,hx]
 have hgh:(tab (Og s) n)[v]? = some (y:Int):=by rw [BO hv,hhv,hy]
 have hiff:DP s v d h↔(x = -1∨d<x∨(d=x∧h<y)):=by rw [hx,hy]; exact Iff.rfl
 rw [show decide (DP s v d h)=decide (x = -1∨d<x∨(d=x∧h<y)) from decide_eq_decide.2 hiff];clear hiff;refine Au (fn:=Tryz.f282) Tryz.func282 U [.pointer (some ⟨bf,0,none⟩),.int .i64 (v:Int),.int .i64 d,.int .i64 (h:Int)] U (by kernel_rfl) ?_;refine Ad (Ai U U (Ab (Aa (Ad (A3 U U (A8 U U (Ah U Ea U (Bd U BL U ((by rw [Aj hf]; rfl)) ?_))))))));refine Af U U (Bh U AR Bx U U (by omega) (by omega) ?_);refine Bd U Bw U ((Rdd.fld hgd U (j:=0) U)) ?_;refine Cz U U U (A7 U U (AV 17 U ?_ ?_))
 ·intro h1;replace h1:=AM h1;refine Ag U (Ag U (Ag U (Ag U (Ag U (Ag U (Ag U (Ag U (Ag U (AG U U (.bool _) U ?_)))))))));refine A7 U U (Ag U (Ag U (Ag U (Ag U (Ag U (Ag U (Ag U (Ag U (Ag U ?_)))))))));refine Ag U (Ag U (Ag U (Ag U (Ag U (Ag U (Ag U (Ag U (Ag U (Ag U ?_)))))))));refine Ag U (AG U U (.bool _) U (Ai U U (Ab (Aa (A5 (AA (v:=(.bool _)) U U U ?_))))));exact ⟨congrArg Value.bool (by clear hgd hgh hx hy; rw [Bool.eq_iff_iff]; simp_all; try omega),rfl⟩
 ·intro h2;replace h2:=AN h2;refine Af U U (A3 U U (A8 U U (Ah U Ea U (Bd U BL U ((by rw [Aj hf]; rfl)) ?_))));refine Af U U (Bh U AR Bx U U (by omega) (by omega) ?_);refine Bd U Bw U ((Rdd.fld hgd U (j:=0) U)) ?_;refine Bj U U U (AJ U U (.bool _) U (A7 U U (AV 28 U ?_ ?_)))
  ·intro h3;replace h3:=AM h3;refine Ag U (Ag U (Ag U (Ag U (Ag U (Ag U (Ag U (Ag U (Ag U (Ag U ?_)))))))));refine Ag U (Ag U (Ag U (Ag U (Ag U (Ag U (Ag U (Ag U (Ag U (Ag U ?_)))))))));refine AG U U (.bool _) U (Ai U U (Ab (Aa (A5 (AA (v:=(.bool _)) U U U ?_)))));exact ⟨congrArg Value.bool (by clear hgd hgh hx hy; rw [Bool.eq_iff_iff]; simp_all; try omega),rfl⟩
  ·intro h4;replace h4:=AN h4;refine Af U U (A3 U U (A8 U U (Ah U Ea U (Bd U BL U ((by rw [Aj hf]; rfl)) ?_))));refine Af U U (Bh U AR Bx U U (by omega) (by omega) ?_);refine Bd U Bw U ((Rdd.fld hgd U (j:=0) U)) ?_;refine Cz U U U (A7 U U (AV 38 U ?_ ?_))
   ·intro h5;replace h5:=AM h5;refine Af U U (A3 U U (A8 U U (Ah U GX U (Bd U H6 U ((by rw [Aj hf]; rfl)) ?_))));refine Af U U (Bh U EX FK U U (by omega) (by omega) ?_);refine Bd U BS U ((Rhh.fld hgh U (j:=0) U)) ?_;refine Bj U U U (AG U U (.bool _) U (AJ U U (.bool _) U (Ai U U (Ab (Aa (A5 (AA (v:=(.bool _)) U U U ?_)))))));exact ⟨congrArg Value.bool (by clear hgd hgh hx hy; rw [Bool.eq_iff_iff]; simp_all; try omega),rfl⟩
   ·intro h6;replace h6:=AN h6;refine Ag U (Ag U (Ag U (Ag U (Ag U (Ag U (Ag U (Ag U (Ag U (AJ U U (.bool _) U ?_)))))))));refine AJ U U (.bool _) U (Ai U U (Ab (Aa (A5 (AA (v:=(.bool _)) U U U ?_)))));exact ⟨congrArg Value.bool (by clear hgd hgh hx hy; rw [Bool.eq_iff_iff]; simp_all; try omega),rfl⟩

def IE (x:Lb × List Tg) (a:Ar):Lb × List Tg:=(Gw x.1 a,HQ x.1 a x.2)
def goP (g:Gr) (p:Nat→Int) (s:Lb) (hp:List Tg) (l:List Nat):Lb × List Tg:=(l.map (ID g p)).foldl IE (s,hp)
theorem Yg (g:Gr) (p:Nat→Int) (s:Lb) (hp:List Tg) {l:List Nat} {i a:Nat} (h:l[i]? = some a):goP g p s hp (l.take (i+1))=IE (goP g p s hp (l.take i)) (ID g p a):=by
 unfold goP;rw [ES h,List.map_append,List.foldl_append]; rfl
/-- The blocks that going on turns. -/
abbrev GB (od oh n:Nat) (s:Lb) (bh:Nat) (a:Option Addr) (hn c:Nat) (full:List Value):List (Nat × Obj):=(od,Bl 2 (BN s.d n))::(oh,Bl 3 (BN (Og s) n))::HB bh a hn c full
structure GSt where
 i:Nat
 a:Option Addr
 hn:Nat
 c:Nat
 full:List Value
 L:List Tg

set_option maxRecDepth 20000 in
set_option maxHeartbeats 8000000 in
theorem Aat {w:World} {bf oo od oh ob n:Nat} {s:Lb} {g:Gr} {p:Nat→Int} {bh:Nat} {a:Option Addr} {hn c:Nat} {full:List Value} {L:List Tg} {La:List Nat} {au:Option Addr} {cu u:Nat} {outs:List Value} (H0:Ctx w ((GB od oh n s bh a hn c full).map (·.1)) w (GB od oh n s bh a hn c full)) (O:OS a hn c 2 full (L.flatMap E6)) (hH:HeapL L)
  (hf:w.heap[bf]? = some (Bl 294 (FB oo od oh ob n))) (hfn:bf∉(GB od oh n s bh a hn c full).map (·.1)) (ho:w.heap[oo]? = some (Bl 300 outs)) (hon:oo∉(GB od oh n s bh a hn c full).map (·.1)) (hou:outs[u]? = some (.slice au La.length cu)) (hun:u<n)
  (R:Rd w au 4 (Gy g p) La) (hRn:La≠[]→(adr au).block∉(GB od oh n s bh a hn c full).map (·.1)) (hn6:n≤1000000) (hLa:∀ x∈La,g.u x=u∧g.v x<n ∧ -1152921504606846976≤g.len p x∧g.len p x≤1152921504606846976) (hhn:hn+La.length≤100000000)
  (hbd:∀ k x,k≤La.length → -1≤(goP g p s L (La.take k)).1.d x∧(goP g p s L (La.take k)).1.d x≤1152921504606846976∧(goP g p s L (La.take k)).1.h x≤1000000) :
  Ret Tryz.prog 269 #[ptr bf,ptr bh,.int .i64 (u:Int)] w fun v w'=>v = .tuple #[]∧∃ (a':Option Addr) (hn' c':Nat) (full':List Value) (L':List Tg),L'.Perm (goP g p s L La).2∧HeapL L'∧OS a' hn' c' 2 full' (L'.flatMap E6)∧Ctx w ((GB od oh n s bh a hn c full).map (·.1)) w' (GB od oh n (goP g p s L La).1 bh a' hn' c' full'):=by
 obtain ⟨w0,rfl⟩:∃ w0,w0=w:=⟨_,rfl⟩;obtain ⟨ids,hids⟩:∃ ids,ids=(GB od oh n s bh a hn c full).map (·.1):=⟨_,rfl⟩;rw [← hids] at H0 hfn hon hRn ⊢;have H:=H0;refine Au (fn:=Tryz.f269) Tryz.func269 U [.pointer (some ⟨bf,0,none⟩),.pointer (some ⟨bh,0,none⟩),.int .i64 (u:Int)] U (by kernel_rfl) ?_;refine Ad (A3 U U (A8 U U (Ah U KQ U (Bd U PG U ((by rw [Aj hf]; rfl)) ?_))));refine Af U U (Bh U LG LI U U (by omega) (by omega) ?_);refine Bd U Ti U ((by rw [Aj ho]; simpa using hou)) ?_;refine Bf U Kn U (Af U U (Ab (Aa (Az (Bv 9444732965739290296704 (α:=GSt) (fun t=>[(17,.int .i64 (t.i:Int))]) (fun t w'=>t.i≤La.length∧t.L.Perm (goP g p s L (La.take t.i)).2∧HeapL t.L∧t.hn≤hn+t.i∧OS t.a t.hn t.c 2 t.full (t.L.flatMap E6)∧Ctx w0 ids w' (GB od oh n (goP g p s L (La.take t.i)).1 bh t.a t.hn t.c t.full)) (fun t=>La.length - t.i) ⟨0,a,hn,c,full,L⟩ U ?_ ?_ ?_)))))
 ·exact ⟨rfl,trivial⟩
 ·exact ⟨Nat.zero_le _,.refl _,hH,Nat.le_refl _,O,H⟩
 ·rintro ⟨i,a,hk,c,full,L'⟩ j w ⟨hi,hp,hH,hkn,O,H⟩; dsimp only at hi hp hH hkn O H; dsimp only;obtain ⟨si,hsi⟩:∃ si,si=(goP g p s L (La.take i)).1:=⟨_,rfl⟩;obtain ⟨hi2,hhi2⟩:∃ q,q=(goP g p s L (La.take i)).2:=⟨_,rfl⟩;have hgi:goP g p s L (La.take i)=(si,hi2):=by rw [hsi,hhi2]
  rw [← hsi] at H;rw [← hhi2] at hp;refine Ad (Bj U U U (Ab (Aa (Aw (Aq _ U ?_ ?_)))))
  ·intro h1;replace h1:=AM h1;obtain ⟨x,hxa⟩:=AD (l:=La) (i:=i) (by omega);obtain ⟨hxu,hxv,hl1,hl2⟩:=hLa x (List.mem_of_getElem? hxa);have hsn:=Yg g p s L hxa;rw [hgi] at hsn;have hbu:=hbd i u hi;have hbv:=hbd i (g.v x) hi;rw [hgi] at hbu hbv;dsimp only at hbu hbv;obtain ⟨v,hv⟩:∃ v,v=g.v x:=⟨_,rfl⟩;obtain ⟨ln,hln⟩:∃ ln,ln=g.len p x:=⟨_,rfl⟩;have hrow:Gy g p x=[.int .i64 (x:Int),.int .i64 (u:Int),.int .i64 (v:Int),.int .i64 ln]:=by unfold Gy; rw [hxu,hv,hln]
   rw [← hv] at hxv hbv;rw [← hln] at hl1 hl2;have hne:La≠[]:=fun h=>by rw [h] at hxa; cases hxa
   refine Av (Aa (Aw (Az (Ad (Bo R U Kn GY U U (by omega) (by omega) (by rfl) ?_)))));refine Cn _ U Th GY U U (Rd.rowE (R.ext H.ext (hRn hne)) hxa hrow U) ?_;refine AZ U Jp H ?_;rintro b7 w - H;refine Bn U GY U U U (by simp [Be]) H at0 U ?_;rintro w H;refine Ab (Aa ?_);have K0:∀ {z},Ext ids w0 z→z.heap[bf]? = some (Bl 294 (FB oo od oh ob n)):=fun hz=>hz.to hf hfn;obtain ⟨du,hdu⟩:∃ du,du=si.d u:=⟨_,rfl⟩;obtain ⟨hu,hhu⟩:∃ hu,hu=si.h u:=⟨_,rfl⟩;have hgd:(tab si.d n)[u]? = some du:=by rw [BO hun,hdu]
   have hgh:(tab (Og si) n)[u]? = some (hu:Int):=by rw [BO hun,hhu]; rfl
   have har:ID g p x=(u,v,ln):=by unfold ID; rw [hxu,← hv,← hln]
   rw [← hdu,← hhu] at hbu;have RD:=Cs (H.drew.get at1);refine Dx (fun x=>x=_) Bq (by kernel_rfl) U ?_;refine B4 U U (AX U U (A2 U Ea U (BP U BL U (by rintro _ rfl; exact ((by rw [Aj (K0 H.drew.ext)]; rfl))) ?_)));refine AU U U (Ba U AR Bx U U (by omega) (by omega) ?_);refine BP U Bw U (by rintro _ rfl; exact ((RD.fld hgd rfl (j:=0) rfl))) ?_;refine A2 U N0 U (BU U Bw U (by rintro _ rfl; exact H.drew) at0 U ?_);refine Da U U U (by omega) (by omega) ?_;refine Dm U U (BK ?_);rintro _ rfl;replace H:=H.drew;have RH:=Cs (H.drew.get at2);refine DM 12 Bq (by kernel_rfl) U U ?_;refine B4 U U (A2 U Fg U (BU U BS U (by rintro _ rfl; exact H.drew) at0 U ?_));refine AU U U (B4 U U (AX U U (A2 U GX U (BP U H6 U (by rintro _ rfl; exact ((by rw [Aj (K0 H.drew.ext)]; rfl))) ?_))));refine AU U U (Ba U EX FK U U (by omega) (by omega) ?_)
   refine BP U BS U (by rintro _ rfl; exact ((RH.fld hgh rfl (j:=0) rfl))) ?_;refine Da U U U (by omega) (by omega) ?_;rw [show (hu:Int)+1=((hu+1:Nat):Int) by omega];refine BK ?_;replace H:=H.drew;refine Al U Afu (VK (K0 H.ext) (H.get at1) (H.get at2) v hxv hn6 (du+ln) (hu+1)) U ?_;rintro rv w ⟨rfl,rfl⟩;refine Ab (Aa (Aq _ U ?_ ?_))
   ·intro h2;have h2':DP si v (du+ln) (hu+1):=by simpa using h2
    have hS:Gw si (ID g p x)=Hb si v (du+ln) (hu+1):=by rw [har]; unfold Gw; dsimp only; rw [← hdu,← hhu,if_pos h2']
    have hHH:HQ si (ID g p x) hi2=(du+ln,v)::hi2:=by rw [har]; unfold HQ; dsimp only; rw [← hdu,← hhu,if_pos h2']
    refine Cv [([0,1,2,3,4,5,6,7,8,9,10,11,12,13,14,15,16,17,18,19,20,21],22),([23],24)] (fun z=>z.heap[bf]? = some (Bl 294 (FB oo od oh ob n))∧z.heap[b7]? = some (Bl 299 [.int .i64 (x:Int),.int .i64 (u:Int),.int .i64 (v:Int),.int .i64 ln])∧z.heap[oh]? = some (Bl 3 (BN (Og si) n))) [24] Bq (by kernel_rfl) (⟨K0 H.drew.ext,H.drew.get at0,H.drew.get at2⟩) ?_;refine AH U U ?_;refine BQ U U (Bg U U (An U Ea U (B0 U BL U (fun _ hx=>(by rw [Aj hx.1]; rfl)) ?_)));refine An U Fg U (B0 U BS U (fun _ hx=>(by rw [Aj hx.2.1]; rfl)) ?_);refine BQ U U (Bg U U (An U GX U (B0 U H6 U (fun _ hx=>(by rw [Aj hx.1]; rfl)) ?_)));refine An U Fg U (B0 U BS U (fun _ hx=>(by rw [Aj hx.2.1]; rfl)) ?_);refine Bc U U (BQ U U (Bg U U (An U GX U (B0 U H6 U (fun _ hx=>(by rw [Aj hx.1]; rfl)) ?_))));refine Bc U U (AF U EX FK U U (by omega) (by omega) ?_)
    refine B0 U BS U (fun _ hx=>((Cs hx.2.2).fld hgh rfl (j:=0) rfl)) ?_;refine DW U U U (by omega) (by omega) ?_;rw [show (hu:Int)+1=((hu+1:Nat):Int) by omega];refine AF U AR Bx U U (by omega) (by omega) ?_;refine AS ?_;replace H:=H.drew;refine BT v (fun q => .int .i64 ((Hb si v (du+ln) (hu+1)).d q)) (.int _ _) U Bx U U U H at1 (by simp) (by omega) (by show Value.int _ (if v=v then _ else _)=_; rw [if_pos rfl]) (fun q _ hq=>by show Value.int _ (if q=v then _ else _)=_; rw [if_neg hq]) ?_;rintro w H;refine Ab (Cl (⟨K0 H.ext,H.get at0,H.get at2⟩) (AH U U ?_));refine AF U EX FK U U (by omega) (by omega) ?_
    refine AS (BT v (fun q => .int .i64 (Og (Hb si v (du+ln) (hu+1)) q)) (.int _ _) U FK U U U H at2 (by simp) (by omega) (by show Value.int _ (((if v=v then _ else _:Nat)):Int)=_; rw [if_pos rfl]) (fun q _ hq=>by show Value.int _ (((if q=v then _ else _:Nat)):Int)=_; rw [if_neg hq]; rfl) ?_);rintro w H;refine Ab (B3 U (BJ (A0 (A3 U U (Af U U (Ah U Fg U (AE U BS U H at0 U ?_)))))));have Hc:=Ctx.comm (L:=[_,_,_]) (L':=HB bh a hk c full) H;refine Al U XA (UC (Ctx.lend (L1:=HB bh a hk c full) (L2:=[_,_,_]) Hc) O (by omega) hH (du+ln) v) U ?_;rintro rv w ⟨rfl,a',c',f',L2,hp2,hH2,O2,H2⟩;replace H:=Ctx.comm (L:=HB bh a' (hk+1) c' f') (L':=[_,_,_]) (Ctx.back (L1:=HB bh a hk c full) (L2:=[_,_,_]) Hc H2);refine Ab (A6 (Aa (A0 (Ay U U U (by omega) (by omega) ?_))));refine Af U U (Ab (Aa ?_))
    refine ⟨⟨i+1,a',hk+1,c',f',L2⟩,rfl,⟨rfl,trivial⟩,⟨by dsimp only; omega,?_,hH2,by dsimp only; omega,O2,?_⟩,by dsimp only; omega⟩
    ·dsimp only; rw [hsn]; show L2.Perm (HQ si (ID g p x) hi2); rw [hHH]; exact hp2.trans (hp.cons _)
    ·dsimp only; rw [hsn]; show Ctx w0 ids w (GB od oh n (Gw si (ID g p x)) bh a' (hk+1) c' f'); rw [hS]; exact H.tail
   ·intro h2;have h2':¬ DP si v (du+ln) (hu+1):=by simpa using h2
    have hS:Gw si (ID g p x)=si:=by rw [har]; unfold Gw; dsimp only; rw [← hdu,← hhu,if_neg h2']
    have hHH:HQ si (ID g p x) hi2=hi2:=by rw [har]; unfold HQ; dsimp only; rw [← hdu,← hhu,if_neg h2']
    refine Av (A6 (Aa (A0 (Ay U U U (by omega) (by omega) ?_))));refine Af U U (Ab (Aa ?_));refine ⟨⟨i+1,a,hk,c,full,L'⟩,rfl,⟨rfl,trivial⟩,⟨by dsimp only; omega,?_,hH,by dsimp only; omega,O,?_⟩,by dsimp only; omega⟩
    ·dsimp only; rw [hsn]; show L'.Perm (HQ si (ID g p x) hi2); rw [hHH]; exact hp
    ·dsimp only; rw [hsn]; show Ctx w0 ids _ (GB od oh n (Gw si (ID g p x)) bh a hk c full); rw [hS]; exact H.tail
  ·intro h1;replace h1:=AN h1;refine Bt (Am (Am (AK (CG U U ?_))));obtain rfl:i=La.length:=by omega
   rw [List.take_length] at hsi hhi2;rw [hsi] at H;rw [hhi2] at hp;exact ⟨rfl,a,hk,c,full,L',hp,hH,O,H⟩

end Go.Proofs.YtdagmpmdcgedcaaGreat

/- Shortest ways: where they begin, and each node's last arc: the walks. -/
namespace Go.Proofs.YtdagmpmdcgedcaaGreat
open Go.GV
attribute [local irreducible] AB W Wq Wt

abbrev NBl (od n:Nat) (s:Lb) (bh:Nat) (a:Option Addr) (hn c:Nat) (full:List Value):List (Nat × Obj):=(od,Bl 2 (BN s.d n))::HB bh a hn c full
def IF (src:List Nat):List Tg:=src.map fun v=>(0,v)
theorem Ru {src:List Nat} {i v:Nat} (h:src[i]? = some v) (x:Nat):(lb0 (src.take (i+1))).d x=if x=v then 0 else (lb0 (src.take i)).d x:=by
 unfold lb0;dsimp only;rw [ES h]
 by_cases e:x=v
 ·subst e; simp
 ·simp [e]

set_option maxRecDepth 20000 in
set_option maxHeartbeats 4000000 in
theorem Yh {w:World} {bf oo od oh ob n:Nat} {bh:Nat} {c:Nat} {src:List Nat} {fr:Option Addr} {fc:Nat} (H0:Ctx w ((NBl od n (lb0 []) bh none 0 c []).map (·.1)) w (NBl od n (lb0 []) bh none 0 c [])) (O:OS none 0 c 2 [] (([]:List Tg).flatMap E6))
  (hf:w.heap[bf]? = some (Bl 294 (FB oo od oh ob n))) (hfn:bf∉(NBl od n (lb0 []) bh none 0 c []).map (·.1)) (R:Rd w fr 1 I1 (src.map fun v:Nat=>(v:Int))) (hRn:src≠[]→(adr fr).block∉(NBl od n (lb0 []) bh none 0 c []).map (·.1)) (hn6:n≤1000000) (hsrc:∀ v∈src,v<n) (hnd:src.Nodup) (hsl:src.length≤1000000) :
  Ret Tryz.prog 266 #[ptr bf,ptr bh,.slice fr src.length fc] w fun v w'=>v = .bool (decide (0<src.length))∧∃ (a':Option Addr) (c':Nat) (full':List Value) (L':List Tg),L'.Perm (IF src)∧HeapL L'∧OS a' src.length c' 2 full' (L'.flatMap E6)∧Ctx w ((NBl od n (lb0 []) bh none 0 c []).map (·.1)) w' (NBl od n (lb0 src) bh a' src.length c' full'):=by
 obtain ⟨w0,rfl⟩:∃ w0,w0=w:=⟨_,rfl⟩;obtain ⟨ids,hids⟩:∃ ids,ids=(NBl od n (lb0 []) bh none 0 c []).map (·.1):=⟨_,rfl⟩;rw [← hids] at H0 hfn hRn ⊢;have H:=H0;refine Au (fn:=Tryz.f266) Tryz.func266 U [.pointer (some ⟨bf,0,none⟩),.pointer (some ⟨bh,0,none⟩),.slice fr src.length fc] U (by kernel_rfl) ?_;refine Ad (Ai U U (Ab (Aa (Aw (Ad (A4 U U (Bf U EX U (Af U U (Ab (Aa (Az ?_)))))))))));refine Bv 17592186042688 (α:=Option Addr × Nat × List Value × List Tg × Nat) (fun t=>[(11,.int .i64 (t.2.2.2.2:Int))]) (fun t w'=>t.2.2.2.2≤src.length∧t.2.2.2.1.Perm (IF (src.take t.2.2.2.2))∧HeapL t.2.2.2.1∧OS t.1 t.2.2.2.2 t.2.1 2 t.2.2.1 (t.2.2.2.1.flatMap E6)∧Ctx w0 ids w' (NBl od n (lb0 (src.take t.2.2.2.2)) bh t.1 t.2.2.2.2 t.2.1 t.2.2.1)) (fun t=>src.length - t.2.2.2.2) (none,c,[],[],0) U ?_ ?_ ?_
 ·exact ⟨rfl,trivial⟩
 ·exact ⟨Nat.zero_le _,.refl _,fun i x y _ h=>(by cases h),O,H⟩
 ·rintro ⟨a,c,full,L,i⟩ j w ⟨hi,hp,hH,O,H⟩; dsimp only at hi hp hH O H; dsimp only;refine Ad (Bj U U U (Ab (Aa (Aw (Aq _ U ?_ ?_)))))
  ·intro h1;replace h1:=AM h1;obtain ⟨v,hv⟩:=AD (l:=src) (i:=i) (by omega);have hvn:=hsrc v (List.mem_of_getElem? hv);have hvm:(src.map fun v:Nat=>(v:Int))[i]? = some (v:Int):=by rw [List.getElem?_map,hv]; rfl
   have hne:src≠[]:=fun h=>by rw [h] at hv; cases hv
   have hnot:v∉src.take i:=fun hm=>by
    obtain ⟨k,hk⟩:=List.getElem?_of_mem hm;rw [List.getElem?_take] at hk
    split at hk
    ·have hkl:=Cu hk;obtain ⟨h1,h2⟩:=List.getElem?_eq_some_iff.1 hk;obtain ⟨h3,h4⟩:=List.getElem?_eq_some_iff.1 hv;have:=(List.getElem_inj hnd).1 (h2.trans h4.symm);omega
    ·cases hk
   have hdv:(lb0 (src.take i)).d v = -1:=if_neg hnot;have hlm:(src.map fun v:Nat=>(v:Int)).length=src.length:=by rw [List.length_map]
   have hgd:(tab (lb0 (src.take i)).d n)[v]? = some (-1):=by rw [BO hvn,hdv]
   refine Av (Aa (Aw (Az (Ad (Bo R U EX FK U U (by omega) (by omega) (by omega) ?_)))));refine Bd U BS U (((R.ext H.ext (hRn hne)).fld hvm U (j:=0) U)) ?_;refine Ae U U (Ab (Aa (Aw (Ad (Af U U (Bj U U U (A7 U U (AV 17 U ?_ ?_))))))))
   ·intro h2;replace h2:=AM h2;omega
   ·intro h2;replace h2:=AN h2;refine Af U U (A3 U U (A8 U U (Ah U Ea U (Bd U BL U ((by rw [Aj (H.ext.to hf hfn)]; rfl)) ?_))));refine Bf U AR U (C3 U U U (AJ U U (.bool _) U (Ab (Aa (Aq _ U ?_ ?_)))))
    ·intro h3;replace h3:=AM h3;omega
    ·intro h3;replace h3:=AN h3;refine Av (Aa (Ad (A3 U U (A8 U U (Ah U Ea U (Bd U BL U ((by rw [Aj (H.ext.to hf hfn)]; rfl)) ?_))))));refine Af U U (Bh U AR Bx U U (by omega) (by omega) ?_);refine Bd U Bw U (((Cs (H.get at0)).fld hgd U (j:=0) U)) ?_;refine CI U U U (Ab (Aa (Aq _ U ?_ ?_)))
     ·intro h4;replace h4:=CE h4;refine Ad (A3 U U (A8 U U (Ah U Ea U (Bd U BL U ((by rw [Aj (H.ext.to hf hfn)]; rfl)) ?_))));refine Af U U (Bh U AR Bx U U (by omega) (by omega) ?_);refine BT v (fun q => .int .i64 ((lb0 (src.take (i+1))).d q)) (.int _ _) U Bx U U U H at0 (by simp) (by omega) (by rw [Ru hv,if_pos rfl]) (fun q _ hq=>by rw [Ru hv,if_neg hq]) ?_;rintro w H;refine Ab (Aa (A0 (A3 U U (Af U U ?_))));have Hc:=Ctx.comm (L:=[_]) (L':=HB bh a i c full) H;refine Al U XA (UC (Ctx.lend (L1:=HB bh a i c full) (L2:=[_]) Hc) O (by omega) hH 0 v) U ?_;rintro rv w ⟨rfl,a',c',f',L2,hp2,hH2,O2,H2⟩;replace H:=Ctx.comm (L:=HB bh a' (i+1) c' f') (L':=[_]) (Ctx.back (L1:=HB bh a i c full) (L2:=[_]) Hc H2);refine Ab (A6 (Aa (A0 (Ay U U U (by omega) (by omega) ?_))));refine Af U U (Ab (Aa ?_));refine ⟨(a',c',f',L2,i+1),rfl,⟨rfl,trivial⟩,⟨by dsimp only; omega,?_,hH2,O2,H⟩,by dsimp only; omega⟩
      dsimp only;unfold IF at hp ⊢;rw [ES hv,List.map_append];exact hp2.trans ((hp.cons _).trans (List.perm_append_singleton _ _).symm)
     ·intro h4;replace h4:=CF h4;omega
  ·intro h1;replace h1:=AN h1;refine Bt (Am (Am (AK (Aa (Ad (A4 U U (Bf U EX U (Dn U U U (Ai U U (Ab (Aa (A5 (AA (v:=(.bool _)) U U U ?_)))))))))))));obtain rfl:i=src.length:=by omega
   rw [List.take_length] at hp H;exact ⟨congrArg Value.bool (by rw [Bool.eq_iff_iff]; simp),a,c,full,L,hp,hH,O,H⟩

/-- An arc over which a best way may come. -/
def Lh (g:Gr) (p:Nat→Int) (s:Lb) (a:Nat):Prop:=s.d (g.u a) ≠ -1∧s.h (g.v a)≠0∧s.d (g.u a)+g.len p a=s.d (g.v a)∧s.h (g.u a)+1=s.h (g.v a)
/-- What is known of each node's last arc, of those that were looked at. -/
structure BI (g:Gr) (p:Nat→Int) (s:Lb) (all done:Nat→Prop) (by':Nat→Int):Prop where
 val:∀ v,by' v = -1∨∃ a:Nat,by' v=(a:Int)∧all a∧Lh g p s a∧g.v a=v
 in':∀ a,done a→Lh g p s a→by' (g.v a) ≠ -1
theorem BI.skip {g:Gr} {p:Nat→Int} {s:Lb} {all done:Nat→Prop} {by':Nat→Int} (B:BI g p s all done by') {a:Nat} (h:¬ Lh g p s a∨by' (g.v a) ≠ -1):BI g p s all (fun x=>x=a∨done x) by' :=
 ⟨B.val,fun x hx hg=>by
  rcases hx with rfl | hx
  ·exact h.resolve_left fun h=>h hg
  ·exact B.in' x hx hg⟩
theorem BI.put {g:Gr} {p:Nat→Int} {s:Lb} {all done:Nat→Prop} {by':Nat→Int} (B:BI g p s all done by') {a:Nat} (ha:all a) (hg:Lh g p s a):BI g p s all (fun x=>x=a∨done x) (upd by' (g.v a) (a:Int)):=by
 refine ⟨fun v=>?_,fun x hx hgx=>?_⟩
 ·by_cases e:v=g.v a
  ·subst e; exact .inr ⟨a,Dc _ _ _,ha,hg,rfl⟩
  ·rw [Ee e]; exact B.val v
 ·by_cases e:g.v x=g.v a
  ·rw [e,Dc]; omega
  ·rw [Ee e]
   rcases hx with rfl | hx
   ·exact absurd U e
   ·exact B.in' x hx hgx
theorem BI.congr {g:Gr} {p:Nat→Int} {s:Lb} {all done done':Nat→Prop} {by':Nat→Int} (B:BI g p s all done by') (h:∀ x,done' x→done x):BI g p s all done' by':=⟨B.val,fun a ha=>B.in' a (h a ha)⟩

set_option maxRecDepth 20000 in
set_option maxHeartbeats 8000000 in
theorem Yi {w:World} {bf oo od oh ob n:Nat} {s:Lb} {g:Gr} {p:Nat→Int} {outs:List Value} {outL:Nat→List Nat} (hb:w.heap[ob]? = some (Bl 3 (BN (fun _ => -1) n))) (hf:w.heap[bf]? = some (Bl 294 (FB oo od oh ob n))) (hd:w.heap[od]? = some (Bl 2 (BN s.d n))) (hh:w.heap[oh]? = some (Bl 3 (BN (Og s) n))) (ho:w.heap[oo]? = some (Bl 300 outs))
  (nf:bf≠ob) (nd:od≠ob) (nh:oh≠ob) (no:oo≠ob) (hn6:n≤1000000) (hsd:∀ v,-1≤s.d v∧s.d v≤1152921504606846976∧s.h v≤1000000)
  (hout:∀ u,u<n→∃ au cu,outs[u]? = some (.slice au (outL u).length cu)∧Rd w au 4 (Gy g p) (outL u)∧(outL u≠[]→(adr au).block≠ob)∧(outL u).length≤1000000∧∀ x∈outL u,g.u x=u∧g.v x<n ∧ -1152921504606846976≤g.len p x∧g.len p x≤1152921504606846976∧x≤1000000) :
  Ret Tryz.prog 270 #[ptr bf] w fun v w'=>v = .tuple #[]∧∃ by':Nat→Int,BI g p s (fun a=>a∈outL (g.u a)) (fun a=>g.u a<n∧a∈outL (g.u a)) by'∧Ctx w [ob] w' [(ob,Bl 3 (BN by' n))]:=by
 obtain ⟨w0,rfl⟩:∃ w0,w0=w:=⟨_,rfl⟩;have H:=Ctx.start1 hb;have nf':bf∉[ob]:=by rw [List.mem_singleton]; exact nf
 have nd':od∉[ob]:=by rw [List.mem_singleton]; exact nd
 have nh':oh∉[ob]:=by rw [List.mem_singleton]; exact nh
 have no':oo∉[ob]:=by rw [List.mem_singleton]; exact no
 refine Au (fn:=Tryz.f270) Tryz.func270 U [.pointer (some ⟨bf,0,none⟩)] U (by kernel_rfl) ?_;refine Ad (A3 U U (A8 U U (Ah U KQ U (Bd U PG U ((by rw [Aj hf]; rfl)) ?_))));refine Bf U LG U (Af U U (Ab (Aa (Az (Bv 649037107316853453566312041148524 (α:=Nat × (Nat→Int)) (fun t=>[(12,.int .i64 (t.1:Int))]) (fun t w'=>t.1≤n∧BI g p s (fun a=>a∈outL (g.u a)) (fun a=>g.u a<t.1∧a∈outL (g.u a)) t.2∧Ctx w0 [ob] w' [(ob,Bl 3 (BN t.2 n))]) (fun t=>n - t.1) (0,fun _ => -1) U ?_ ?_ ?_)))))
 ·exact ⟨rfl,trivial⟩
 ·exact ⟨Nat.zero_le _,⟨fun v => .inl rfl,fun a h=>absurd h.1 (Nat.not_lt_zero _)⟩,H⟩
 ·rintro ⟨u,by'⟩ j w ⟨hi,B,H⟩; dsimp only at hi B H; dsimp only;refine Ad (Bj U U U (Ab (Aa (Aw (Aq _ U ?_ ?_)))))
  ·intro h1;replace h1:=AM h1;obtain ⟨au,cu,hou,R,hRn,hul,hx7⟩:=hout u (by omega);refine Av (Aa (Aw (Az (Ad (Af U U (Bh U LG LI U U (by omega) (by omega) ?_))))));refine Bd U Ti U ((by rw [Aj (H.ext.to ho no')]; simpa using hou)) ?_;refine Ae U U (A1 U U (Ab (Aa (Ad (A4 U U (Bf U Kn U (Af U U (Ab (Aa (Az ?_))))))))));obtain ⟨La,hLa⟩:∃ La,La=outL u:=⟨_,rfl⟩;rw [← hLa] at R hRn hul hx7 ⊢;refine Bv 324518553658426726783156020052064 (α:=Nat × (Nat→Int)) (fun t=>[(19,.int .i64 (t.1:Int))]) (fun t w'=>t.1≤La.length∧BI g p s (fun a=>a∈outL (g.u a)) (fun a=>(g.u a<u∧a∈outL (g.u a))∨a∈La.take t.1) t.2∧Ctx w0 [ob] w' [(ob,Bl 3 (BN t.2 n))]) (fun t=>La.length - t.1) (0,by') U ?_ ?_ ?_
   ·exact ⟨rfl,trivial⟩
   ·exact ⟨Nat.zero_le _,B.congr (fun x hx=>hx.elim id fun h=>by simp at h),H⟩
   ·rintro ⟨i,by'⟩ j2 w ⟨hi2,B,H⟩; dsimp only at hi2 B H; dsimp only;refine Ad (Bj U U U (Ab (Aa (Aw (Aq _ U ?_ ?_)))))
    ·intro h2;replace h2:=AM h2;obtain ⟨x,hxa⟩:=AD (l:=La) (i:=i) (by omega);obtain ⟨hxu,hxv,hl1,hl2,hx6⟩:=hx7 x (List.mem_of_getElem? hxa);obtain ⟨v,hv⟩:∃ v,v=g.v x:=⟨_,rfl⟩;obtain ⟨ln,hln⟩:∃ ln,ln=g.len p x:=⟨_,rfl⟩;have hrow:Gy g p x=[.int .i64 (x:Int),.int .i64 (u:Int),.int .i64 (v:Int),.int .i64 ln]:=by unfold Gy; rw [hxu,hv,hln]
     rw [← hv] at hxv;rw [← hln] at hl1 hl2;have hne:La≠[]:=fun h=>by rw [h] at hxa; cases hxa
     have hau:(adr au).block∉[ob]:=by rw [List.mem_singleton]; exact hRn hne
     have hun:u<n:=by omega
     obtain ⟨du,hdu⟩:∃ du,du=s.d u:=⟨_,rfl⟩;obtain ⟨hu,hhu⟩:∃ hu,hu=s.h u:=⟨_,rfl⟩;obtain ⟨dv,hdv⟩:∃ dv,dv=s.d v:=⟨_,rfl⟩;obtain ⟨hw,hhw⟩:∃ hw,hw=s.h v:=⟨_,rfl⟩;have hgdu:(tab s.d n)[u]? = some du:=by rw [BO hun,hdu]
     have hghu:(tab (Og s) n)[u]? = some (hu:Int):=by rw [BO hun,hhu]; rfl
     have hgdv:(tab s.d n)[v]? = some dv:=by rw [BO hxv,hdv]
     have hghv:(tab (Og s) n)[v]? = some (hw:Int):=by rw [BO hxv,hhw]; rfl
     have hbu:=hsd u;rw [← hdu,← hhu] at hbu
     have hgo:Lh g p s x↔(du ≠ -1∧hw≠0∧du+ln=dv∧hu+1=hw):=by
      unfold Lh;rw [hxu,← hv,← hln,← hdu,← hhu,← hdv,← hhw]
     have hall:x∈outL (g.u x):=by rw [hxu,← hLa]; exact List.mem_of_getElem? hxa
     have hsub:∀ y,((g.u y<u∧y∈outL (g.u y))∨y∈La.take (i+1))→y=x∨((g.u y<u∧y∈outL (g.u y))∨y∈La.take i):=fun y hy=>by
      rcases hy with hy | hy
      ·exact .inr (.inl hy)
      ·rw [ES hxa] at hy
       rcases List.mem_append.1 hy with hy | hy
       ·exact .inr (.inr hy)
       ·exact .inl (List.mem_singleton.1 hy)
     have RD:=Cs hd;have RH:=Cs hh;refine Av (Aa (Aw (Az (Ad (Bo R U Kn GY U U (by omega) (by omega) (by rfl) ?_)))));refine Cn _ U Th GY U U (Rd.rowE (R.ext H.ext hau) hxa hrow U) ?_;refine AZ U Jp H ?_;rintro b5 w - H;refine Bn U GY U U U (by simp [Be]) H at0 U ?_;rintro w H;refine Ab (Aa (Aw (DE 4835703278458516690436096 (α:=Unit) (fun _=>[(81,.bool (!decide (du ≠ -1∧hw≠0∧du+ln=dv∧hu+1=hw)))]) (fun _ w'=>Ctx w0 [ob] w' [(b5,Bl 299 [.int .i64 (x:Int),.int .i64 (u:Int),.int .i64 (v:Int),.int .i64 ln]),(ob,Bl 3 (BN by' n))]) U ?_ ?_)))
     ·skip
      refine Um (fun x=>x=_) Bq (by kernel_rfl) U ?_;refine B4 U U (AX U U (A2 U Ea U (BP U BL U (by rintro _ rfl; exact ((by rw [Aj (H.drew.ext.to hf nf')]; rfl))) ?_)));refine AU U U (Ba U AR Bx U U (by omega) (by omega) ?_);refine BP U Bw U (by rintro _ rfl; exact (((RD.ext H.drew.ext nd').fld hgdu rfl (j:=0) rfl))) ?_;refine Ab9 U U U (CM U U (Dt 31 U ?_ ?_))
      ·intro h1;replace h1:=AM h1;refine Ax U (Ax U (Ax U (Ax U (Ax U (Ax U (Ax U (Ax U (Ax U (Hx U U (.bool _) U ?_)))))))));refine CM U U (Ax U (Ax U (Ax U (Ax U (Ax U (Ax U (Ax U (Ax U (Ax U ?_)))))))));refine Ax U (Ax U (Ax U (Ax U (Ax U (Ax U (Ax U (Ax U (Ax U (Ax U ?_)))))))));refine Hx U U (.bool _) U (CM U U (Ax U (Ax U (Ax U (Ax U (Ax U (Ax U (Ax U (Ax U ?_)))))))));refine Ax U (Ax U (Ax U (Ax U (Ax U (Ax U (Ax U (Ax U (Ax U (Hx U U (.bool _) U ?_)))))))));refine BK ?_;rintro _ rfl;replace H:=H.drew;refine Aa ?_;exact ⟨(),rfl,⟨congrArg Value.bool (by clear hgdu hghu hgdv hghv hgo hdu hhu hdv hhw; rw [Bool.eq_iff_iff]; simp_all; try omega),trivial⟩,H⟩
      ·intro h2;replace h2:=AN h2;refine B4 U U (AX U U (A2 U GX U (BP U H6 U (by rintro _ rfl; exact ((by rw [Aj (H.drew.ext.to hf nf')]; rfl))) ?_)));refine A2 U Fg U (BU U BS U (by rintro _ rfl; exact H.drew) at0 U ?_);refine Ba U EX FK U U (by omega) (by omega) ?_;refine BP U BS U (by rintro _ rfl; exact (((RH.ext H.drew.ext nh').fld hghv rfl (j:=0) rfl))) ?_;refine Ab9 U U U (GF U U (.bool _) U (CM U U (Dt 42 U ?_ ?_)))
       ·intro h3;replace h3:=AM h3;refine Ax U (Ax U (Ax U (Ax U (Ax U (Ax U (Ax U (Ax U (Ax U (Ax U ?_)))))))));refine Ax U (Ax U (Ax U (Ax U (Ax U (Ax U (Ax U (Ax U (Ax U (Hx U U (.bool _) U ?_)))))))));refine CM U U (Ax U (Ax U (Ax U (Ax U (Ax U (Ax U (Ax U (Ax U (Ax U ?_)))))))));refine Ax U (Ax U (Ax U (Ax U (Ax U (Ax U (Ax U (Ax U (Hx U U (.bool _) U (BK ?_)))))))));rintro _ rfl;replace H:=H.drew;refine Aa ?_;exact ⟨(),rfl,⟨congrArg Value.bool (by clear hgdu hghu hgdv hghv hgo hdu hhu hdv hhw; rw [Bool.eq_iff_iff]; simp_all; try omega),trivial⟩,H⟩
       ·intro h4;replace h4:=AN h4;refine B4 U U (AX U U (A2 U Ea U (BP U BL U (by rintro _ rfl; exact ((by rw [Aj (H.drew.ext.to hf nf')]; rfl))) ?_)));refine AU U U (Ba U AR Bx U U (by omega) (by omega) ?_);refine BP U Bw U (by rintro _ rfl; exact (((RD.ext H.drew.ext nd').fld hgdu rfl (j:=0) rfl))) ?_;refine A2 U N0 U (BU U Bw U (by rintro _ rfl; exact H.drew) at0 U ?_);refine Da U U U (by omega) (by omega) ?_;refine B4 U U (AX U U (A2 U Ea U (BP U BL U (by rintro _ rfl; exact ((by rw [Aj (H.drew.ext.to hf nf')]; rfl))) ?_)));refine A2 U Fg U (BU U BS U (by rintro _ rfl; exact H.drew) at0 U ?_);refine Ba U AR Bx U U (by omega) (by omega) ?_;refine BP U Bw U (by rintro _ rfl; exact (((RD.ext H.drew.ext nd').fld hgdv rfl (j:=0) rfl))) ?_;refine Ng U U U (GF U U (.bool _) U (CM U U (Dt 63 U ?_ ?_)))
        ·intro h5;replace h5:=CE h5;refine Ax U (Ax U (Ax U (Ax U (Ax U (Ax U (Ax U (Ax U (Ax U (Ax U ?_)))))))));refine Ax U (Ax U (Ax U (Ax U (Ax U (Ax U (Ax U (Hx U U (.bool _) U (BK ?_))))))));rintro _ rfl;replace H:=H.drew;refine Aa ?_;exact ⟨(),rfl,⟨congrArg Value.bool (by clear hgdu hghu hgdv hghv hgo hdu hhu hdv hhw; rw [Bool.eq_iff_iff]; simp_all; try omega),trivial⟩,H⟩
        ·intro h6;replace h6:=CF h6;refine B4 U U (AX U U (A2 U GX U (BP U H6 U (by rintro _ rfl; exact ((by rw [Aj (H.drew.ext.to hf nf')]; rfl))) ?_)));refine AU U U (Ba U EX FK U U (by omega) (by omega) ?_);refine BP U BS U (by rintro _ rfl; exact (((RH.ext H.drew.ext nh').fld hghu rfl (j:=0) rfl))) ?_;refine Da U U U (by omega) (by omega) ?_;refine B4 U U (AX U U (A2 U GX U (BP U H6 U (by rintro _ rfl; exact ((by rw [Aj (H.drew.ext.to hf nf')]; rfl))) ?_)));refine A2 U Fg U (BU U BS U (by rintro _ rfl; exact H.drew) at0 U ?_);refine Ba U EX FK U U (by omega) (by omega) ?_;refine BP U BS U (by rintro _ rfl; exact (((RH.ext H.drew.ext nh').fld hghv rfl (j:=0) rfl))) ?_;refine Ng U U U (GF U U (.bool _) U (BK ?_));rintro _ rfl;replace H:=H.drew;refine Aa ?_
         exact ⟨(),rfl,⟨congrArg Value.bool (by clear hgdu hghu hgdv hghv hgo hdu hhu hdv hhw; rw [Bool.eq_iff_iff]; simp_all; try omega),trivial⟩,H⟩
     ·rintro - j6 w H;refine Aq _ U ?_ ?_
      ·intro h3;have hng:¬ Lh g p s x:=by rw [hgo]; exact of_decide_eq_false (by simpa only [Bool.not_eq_true'] using h3)
       refine Bt (Am (AK (Aa (A0 (Ay U U U (by omega) (by omega) ?_)))));refine Af U U (Ab (Aa ?_));exact ⟨(i+1,by'),rfl,⟨rfl,trivial⟩,⟨by dsimp only; omega,(B.skip (.inl hng)).congr hsub,H.tail⟩,by dsimp only; omega⟩
      ·intro h3;have hg:Lh g p s x:=by rw [hgo]; simpa using h3
       have hgb:(tab by' n)[v]? = some (by' v):=BO hxv;have hnot:by' v ≠ -1→BI g p s (fun a=>a∈outL (g.u a)) (fun a=>(g.u a<u∧a∈outL (g.u a))∨a∈La.take (i+1)) by':=fun h=>(B.skip (.inr (hv ▸ h))).congr hsub
       refine Av (Aa (Dx (fun x=>x=_) Bq (by kernel_rfl) U ?_));refine B4 U U (AX U U (A2 U Jn U (BP U H6 U (by rintro _ rfl; exact ((by rw [Aj (H.drew.ext.to hf nf')]; rfl))) ?_)));refine A2 U Fg U (BU U BS U (by rintro _ rfl; exact H.drew) at0 U ?_);refine Ba U EX FK U U (by omega) (by omega) ?_;refine BP U BS U (by rintro _ rfl; exact (((Cs (H.drew.get at1)).fld hgb rfl (j:=0) rfl))) ?_;refine Dm U U (BK ?_);rintro _ rfl;replace H:=H.drew;refine Ad (Af U U (Cz U U U (A7 U U (AV 92 U ?_ ?_))))
       ·intro h4;replace h4:=AM h4;refine Ag U (Ag U (Ag U (Ag U (AG U U (.bool _) U (Ab (Aa (D3 U (Fa [([0,1,2,3,4,5,6,7,8],9)] (fun z=>z.heap[bf]? = some (Bl 294 (FB oo od oh ob n))∧z.heap[b5]? = some (Bl 299 [.int .i64 (x:Int),.int .i64 (u:Int),.int .i64 (v:Int),.int .i64 ln])) [9] Bq (by kernel_rfl) (⟨H.drew.ext.to hf nf',H.drew.get at0⟩) ?_))))))));refine AH U U ?_;refine BQ U U (Bg U U (An U Jn U (B0 U H6 U (fun _ hx=>(by rw [Aj hx.1]; rfl)) ?_)));refine An U Fg U (B0 U BS U (fun _ hx=>(by rw [Aj hx.2]; rfl)) ?_);refine An U Nz U (B0 U BS U (fun _ hx=>(by rw [Aj hx.2]; rfl)) ?_);refine AF U EX FK U U (by omega) (by omega) ?_;refine AS ?_;replace H:=H.drew;refine BT v (fun q => .int .i64 (upd by' v (x:Int) q)) (.int _ _) U FK U U U H at1 (by simp) (by omega) (by rw [Dc]) (fun q _ hq=>by rw [Ee hq]) ?_;rintro w H
        refine Ab (B3 U (BJ (A6 (Aa (A0 (Ay U U U (by omega) (by omega) ?_))))));refine Af U U (Ab (Aa ?_));exact ⟨(i+1,upd by' v (x:Int)),rfl,⟨rfl,trivial⟩,⟨by dsimp only; omega,(hv ▸ B.put hall hg).congr hsub,H.tail⟩,by dsimp only; omega⟩
       ·intro h4;replace h4:=AN h4;refine Ah U Nz U (AE U BS U H at0 U (Af U U (Bj U U U (AJ U U (.bool _) U (Ab (Aa (Aq _ U ?_ ?_)))))))
        ·intro h5;replace h5:=AM h5;refine Fa [([0,1,2,3,4,5,6,7,8],9)] (fun z=>z.heap[bf]? = some (Bl 294 (FB oo od oh ob n))∧z.heap[b5]? = some (Bl 299 [.int .i64 (x:Int),.int .i64 (u:Int),.int .i64 (v:Int),.int .i64 ln])) [9] Bq (by kernel_rfl) (⟨H.drew.ext.to hf nf',H.drew.get at0⟩) ?_;refine AH U U ?_;refine BQ U U (Bg U U (An U Jn U (B0 U H6 U (fun _ hx=>(by rw [Aj hx.1]; rfl)) ?_)));refine An U Fg U (B0 U BS U (fun _ hx=>(by rw [Aj hx.2]; rfl)) ?_);refine An U Nz U (B0 U BS U (fun _ hx=>(by rw [Aj hx.2]; rfl)) ?_);refine AF U EX FK U U (by omega) (by omega) ?_;refine AS ?_;replace H:=H.drew;refine BT v (fun q => .int .i64 (upd by' v (x:Int) q)) (.int _ _) U FK U U U H at1 (by simp) (by omega) (by rw [Dc]) (fun q _ hq=>by rw [Ee hq]) ?_;rintro w H;refine Ab (B3 U (BJ (A6 (Aa (A0 (Ay U U U (by omega) (by omega) ?_))))));refine Af U U (Ab (Aa ?_))
         exact ⟨(i+1,upd by' v (x:Int)),rfl,⟨rfl,trivial⟩,⟨by dsimp only; omega,(hv ▸ B.put hall hg).congr hsub,H.tail⟩,by dsimp only; omega⟩
        ·intro h5;replace h5:=AN h5;refine Av (A6 (Aa (A0 (Ay U U U (by omega) (by omega) ?_))));refine Af U U (Ab (Aa ?_));exact ⟨(i+1,by'),rfl,⟨rfl,trivial⟩,⟨by dsimp only; omega,hnot h4,H.tail⟩,by dsimp only; omega⟩
    ·intro h2;replace h2:=AN h2;refine Bt (Am (Am (AK (A6 (Aa (A0 (Ay U U U (by omega) (by omega) ?_)))))));refine Af U U (Ab (Aa ?_));have hiL:i=La.length:=by omega
     refine ⟨(u+1,by'),rfl,⟨rfl,trivial⟩,⟨by dsimp only; omega,B.congr fun y hy=>?_,H⟩,by dsimp only; omega⟩;rw [hiL,List.take_length]
     rcases Nat.lt_or_ge (g.u y) u with h7 | h7
     ·exact .inl ⟨h7,hy.2⟩
     ·have hyu:g.u y=u:=by have:=hy.1; dsimp only at this; omega
      exact .inr (by rw [hLa,← hyu]; exact hy.2)
  ·intro h1;replace h1:=AN h1;refine Bt (Am (Am (AK (CG U U ?_))));obtain rfl:u=n:=by omega
   exact ⟨rfl,by',B,H⟩

end Go.Proofs.YtdagmpmdcgedcaaGreat
